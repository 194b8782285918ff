import Derived.Test.YthkeonbmgcphkaaGreatDoorFg6
import Derived.Test.YthkeonbmgcphkaaGreatDoorFg8
import Derived.Test.YthkeonbmgcphkaaGreatDoorFg13
import Derived.Test.YthkeonbmgcphkaaGreatDoorFg15
namespace Go.Proofs.YthkeonbmgcphkaaGreatDoor.PN
open Go.RowKit Go.Proofs.YthkeonbmgcphkaaGreatDoorW.PrintWords Go.Proofs.YthkeonbmgcphkaaGreatDoorW.PrintLast Go.Proofs.YthkeonbmgcphkaaGreatDoorW.PrintMore
attribute [local go_sem] max2_int min2_int max_two min_two max_three min_three max_four min_four
set_option linter.unusedVariables false
set_option maxHeartbeats 8000000
set_option maxRecDepth 100000
set_option linter.unusedSimpArgs false
theorem aK.goesV {P : Program} {ops : Array Oper} {Q : Exit → Act → World → Prop} {oi : Oper} {N : Option Tmp} {a : Act} {w : World} {K : Act → World → Prop} {f : FuncId} {fn : Func} {x : Operand} {ags : Array Operand} {ts : Array TypeId} {cap : Array Value} (hf : P.funcs[f]? = some fn) (hname : (fn.name == "runtime.NumGoroutine") = false) (hb : fn.body.isSome = true) (args : Array Value)
 (hw : Region.wanted oi (yielded ops a.tmps) = true) (hN : oi.dst = N) (hop : oi.op = .call { callee := .value x, args := ags, argTypes := ts }) (hx : a.eval x = .func (.func f) #[] cap) (hargs : ags.map a.eval ++ cap = args)
 (h : Calls P f args w fun e w' => ∃ v, e = .returned v ∧ K (a.put N v) w') : if Region.wanted oi (yielded ops a.tmps) = true then Oper.wp P oi a w K Q else K (a.put N undef) w := by
 refine call_ f args hw hN ?_ h
 have he := enters_ hf hname hb args w
 unfold execOp
 simp [hop, resolve, Deferred.ofValue, invoke, hx, hargs, he]
theorem aK.bld_below {T e : TypeId} {B b : Nat} {bs : List Value} {W W' : World} (h : Lib.IsBuilder T e B b bs W) (hb : Below W.heap.size W W') : Lib.IsBuilder T e B b bs W' := by
 have go : ∀ p, Lib.BuilderAt T e B b p bs W → Lib.BuilderAt T e B b p bs W' := by
  intro p h
  have hlt := h.lt
  obtain ⟨hB, v, hbk, hown, hne⟩ := h
  exact ⟨hB, v, (hb.block b hlt).trans hbk, hown.kept (row := none) ⟨hb.os, hb.tape, hb.output, hb.size, fun i hi _ => hb.block i hi⟩ (by simp; exact Classical.em _), hne⟩
 rcases h with h | h
 · exact .inl (go _ h)
 exact .inr (go _ h)
def aK.iU (ws : List ByteArray) : List UInt8 := Lib.join (ws.map (·.data.toList)) [32] ++ [10]
theorem aK.line_str (ws : List ByteArray) : ((⟨(Lib.join (ws.map (·.data.toList)) [32]).toArray⟩ : ByteArray) ++ ⟨#[10]⟩) = ⟨(aK.iU ws).toArray⟩ := by
 unfold aK.iU
 have h : (⟨#[10]⟩ : ByteArray) = ⟨([10] : List UInt8).toArray⟩ := rfl
 rw [h, ByteArray.mk_append_mk]
theorem aK.line_cells (acc : List UInt8) (ws : List ByteArray) : Lib.byteCells acc ++ Lib.strCells ((⟨(Lib.join (ws.map (·.data.toList)) [32]).toArray⟩ : ByteArray) ++ ⟨#[10]⟩) = Lib.byteCells (acc ++ aK.iU ws) := by
 rw [aK.line_str]
 unfold Lib.byteCells Lib.strCells
 rw [List.map_append]
theorem aK.line_size (ws : List ByteArray) : ((⟨(Lib.join (ws.map (·.data.toList)) [32]).toArray⟩ : ByteArray) ++ ⟨#[10]⟩).size = (aK.iU ws).length := by
 rw [aK.line_str]
 unfold ByteArray.size
 exact List.size_toArray
def aK.num (n : Int) : ByteArray := ⟨(Lib.itoa n).toArray⟩
def aK.inI (n : Int) : Prop := -9223372036854775808 ≤ n ∧ n ≤ 9223372036854775807
instance (n : Int) : Decidable (aK.inI n) := by unfold aK.inI; infer_instance
def aK.w1 (a0 a1 a2 a3 a4 : Int) : List ByteArray := [⟨#[114, 117, 108, 101, 115]⟩, aK.num a0, aK.num a1, aK.num a2, aK.num a3, aK.num a4]
def aK.f (k : Nat) (a0_0 : Int) (a0_1 : Int) (a0_2 : Int) (a0_3 : Int) (a0_4 : Int) (l0_5 : List (S66)) (l0_6 : List (S68)) : Option (ByteArray × Int) := (bQ.f k a0_0 a0_1 a0_2 a0_3 a0_4 l0_5 l0_6).bind fun t => if t = 0 then (if aK.inI a0_0 ∧ aK.inI a0_1 ∧ aK.inI a0_2 ∧ aK.inI a0_3 ∧ aK.inI a0_4 then (if l0_5.length = 0 then (if l0_6.length = 0 then (if (aK.iU (aK.w1 a0_0 a0_1 a0_2 a0_3 a0_4)).length ≤ 200000 then some (⟨(aK.iU (aK.w1 a0_0 a0_1 a0_2 a0_3 a0_4)).toArray⟩, 0) else none) else none) else none) else none) else some (⟨#[]⟩, t)
theorem aK.jQ {n : Int} (h : aK.inI n) : strconv_Itoa.f n = some (aK.num n) := by
 unfold strconv_Itoa.f
 rw [if_pos h.1, if_pos h.2]
 rfl
structure aK.Ctx (w0 w : World) (gb b : Nat) (a0_0 a0_1 a0_2 a0_3 a0_4 : Int) (v5 v6 : Value) (acc : List UInt8) : Prop where
 below : Below w0.heap.size w0 w
 bk : w.heap[gb]? = some (.cells #[.int .i64 a0_0, .int .i64 a0_1, .int .i64 a0_2, .int .i64 a0_3, .int .i64 a0_4, v5, v6] 25 (0, 0))
 ge : w0.heap.size ≤ gb
 lt : gb < b
 bld : Lib.IsBuilder 56 5 b b (Lib.byteCells acc) w
variable {w0 w w' : World} {gb b : Nat} {a0_0 a0_1 a0_2 a0_3 a0_4 : Int} {v5 v6 : Value} {acc acc' : List UInt8}
theorem aK.Ctx.step (h : aK.Ctx w0 w gb b a0_0 a0_1 a0_2 a0_3 a0_4 v5 v6 acc) (hb : Below w.heap.size w w') : aK.Ctx w0 w' gb b a0_0 a0_1 a0_2 a0_3 a0_4 v5 v6 acc :=
 ⟨below_step h.below hb, blk_below h.bk hb, h.ge, h.lt, aK.bld_below h.bld hb⟩
theorem aK.Ctx.lined (h : aK.Ctx w0 w gb b a0_0 a0_1 a0_2 a0_3 a0_4 v5 v6 acc) (hl : Lib.IsBuilder 56 5 b b (Lib.byteCells acc') w') (hb : Below b w w') : aK.Ctx w0 w' gb b a0_0 a0_1 a0_2 a0_3 a0_4 v5 v6 acc' :=
 ⟨h.below.trans (hb.mono (Nat.le_of_lt (Nat.lt_of_le_of_lt h.ge h.lt))), (hb.block gb h.lt).trans h.bk, h.ge, h.lt, hl⟩
theorem aK.Ctx.cells (h : aK.Ctx w0 w gb b a0_0 a0_1 a0_2 a0_3 a0_4 v5 v6 acc) : w.cell? ⟨gb, 0, none⟩ = some (.int .i64 a0_0) ∧ w.cell? ⟨gb, 1, none⟩ = some (.int .i64 a0_1) ∧ w.cell? ⟨gb, 2, none⟩ = some (.int .i64 a0_2) ∧ w.cell? ⟨gb, 3, none⟩ = some (.int .i64 a0_3) ∧ w.cell? ⟨gb, 4, none⟩ = some (.int .i64 a0_4) :=
 ⟨(blk_cell h.bk 0).trans rfl, (blk_cell h.bk 1).trans rfl, (blk_cell h.bk 2).trans rfl, (blk_cell h.bk 3).trans rfl, (blk_cell h.bk 4).trans rfl⟩
theorem aK.line (b : Nat) (acc : List UInt8) (word : ByteArray) (A : Option Addr) (c : Nat) (more : List ByteArray) (w : World) (hB : Lib.IsBuilder 56 5 b b (Lib.byteCells acc) w) (hr : Kd.C Kd.string w A more.length more) (hc : more.length ≤ c) (hm : more.length ≤ 1000000)
 (hlen : acc.length + (aK.iU (word :: more)).length ≤ 140737488355328) :
 Calls Tryz.prog 25 #[.string word, .slice A more.length c, .pointer (some ⟨b, 0, none⟩)] w fun e w' => e = .returned (.tuple #[]) ∧ Lib.IsBuilder 56 5 b b (Lib.byteCells (acc ++ aK.iU (word :: more))) w' ∧ Below b w w' := by
 have hbw : b < w.heap.size := by rcases hB with h | h <;> exact h.lt
 have hJ : (Lib.join (word.data.toList :: List.map (fun x => x.data.toList) more) [32]).length + 1 ≤ 140737488355328 := by
  have h := hlen
  unfold aK.iU at h
  rw [List.length_append] at h
  exact Nat.le_trans (Nat.le_add_left _ _) h
 have HBD := am_ hB
 have HR := am_ hr
 have HC := am_ hc
 have HM := am_ hm
 have HL := am_ hlen
 clear hB hr hc hm hlen
 have hu9 := Tryz.underlying9
 go_enter Tryz.func25, Tryz.ntmps25
 go_wp2_with (first | ((with_reducible refine gn_ 6 rfl ?_); refine Kd.R_lit Kd.string _ 9 ?hg (N := 6) ?hd (xs := ([word] : List ByteArray)) (inner := [.string word]) (ok := fun _ => True) (okp := fun _ => True) ?hr ?hp (fun _ hk => hk) trivial (Below.refl w.heap.size w) (Nat.le_refl _) (by simp) ?_; (case hd => rfl); (case hg => rfl); (case hr => first | (go_simp; done) | (go_simp; rfl)); (case hp => exact (Reps.one (show Kd.M Kd.string _ _ _ word [.string word] from rfl) (Reps.none _ _))); intro v1 w1 ho hb hg_ hnew_; have HO := am_ ho; have HB := am_ hb; clear hg_ hnew_ ho hb; obtain ⟨A1, c1, e1⟩ := Kd.R_slice HO.out; subst e1) | ((with_reducible refine gate_builtin (b := .append) (xs := #[.tmp 6, .tmp 7]) rfl ?_); at_builtin; refine Kd.R_append_rows Kd.string (w0 := w) w.heap.size rfl (.tmp 6) (.tmp 7) 57 9 (.string ⟨#[]⟩) 16 rfl Tryz.underlying57 info9 rfl (by decide) (by omega) (.slice A1 [word].length c1) ([word] : List ByteArray) more _ _ _ (fun _ => True) (fun _ => False) rfl rfl ?aO ?aR (fun _ _ h => h) (fun _ h => h.elim) ?aF ?aB ?aS ?aL ?_; (case aR => exact Kd.C_below HR.out HB.out); (case aO => exact HO.out); (case aF => exact fun _ _ => trivial); (case aB => exact HB.out); (case aS => exact HB.out.size); (case aL => have := HM.out; simp only [List.length_cons, List.length_nil]; omega); intro v2 w2 ho hb hg_ hnew_; have HO2 : Aside0 (Kd.R Kd.string 9 w2 w.heap.size (fun _ => True) v2 (word :: more)) := am_ ho; have HB2 := am_ hb; clear hg_ hnew_ ho hb HO HB; obtain ⟨g2, c2, e2, hg2, hg2', _⟩ := Kd.R_form HO2.out (by simp); subst e2) | (go_at_call 27; (refine (Tryz.strings_Join g2 0 c2 (word :: more) ⟨#[32]⟩ _ (fun j x hx => ?jc) ?jb ?jn ?jk ?jl).mono ?_; (case jc => have hj := (List.getElem?_eq_some_iff.1 hx).1; have h1 := (Kd.R_cell ByteArray.empty HO2.out (j : Int) (by omega) (by omega)).1; rw [Int.toNat_natCast] at h1; rw [show rdOf ByteArray.empty (word :: more) (j : Int) = x by unfold rdOf; rw [Int.toNat_natCast, List.getD_eq_getElem?_getD, hx]; rfl] at h1; rw [Nat.zero_add]; exact h1); (case jb => exact hg2'); (case jn => have := HM.out; simp only [List.length_cons]; omega); (case jk => exact (Kd.R_reads' HO2.out).2.1); (case jl => have := HL.out; unfold aK.iU at this; rw [List.length_append] at this; exact Nat.le_trans (Nat.le_trans (Nat.le_add_right _ _) (Nat.le_add_left _ _)) this); rintro e w3 ⟨rfl, hb⟩; have HB3 := am_ (below_step HB2.out hb); clear hb)) | (go_at_call 26; (refine (Tryz.Builder_WriteString b b (Lib.byteCells acc) _ _ (aK.bld_below HBD.out HB3.out) ?wl (Nat.le_trans (Nat.le_of_lt hbw) HB3.out.size)).mono ?_; (case wl => rw [Lib.byteCells_length]; exact Nat.le_trans (Nat.le_of_eq (congrArg (acc.length + ·) (aK.line_size (word :: more)))) HL.out); rintro e w4 ⟨rfl, hat, hb⟩; have HF := am_ hat; have HB4 := am_ hb; clear hat hb)))
 go_end0
 refine ⟨rfl, ?_, (HB3.out.mono (Nat.le_of_lt hbw)).trans HB4.out⟩
 have := HF.out
 exact .inr (by rw [← aK.line_cells acc (word :: more)]; exact this)
theorem aK.calls (k : Nat) (a0_0 : Int) (a0_1 : Int) (a0_2 : Int) (a0_3 : Int) (a0_4 : Int) (A0_5 : Option Addr) (c0_5 : Nat) (l0_5 : List (S66)) (A0_6 : Option Addr) (c0_6 : Nat) (l0_6 : List (S68)) (r1 : ByteArray) (r2 : Int) (w : World) (hG : Tryz.GW w) (hr0_5 : Kd.C k66 w A0_5 l0_5.length l0_5) (hc0_5 : l0_5.length ≤ c0_5) (hr0_6 : Kd.C k68 w A0_6 l0_6.length l0_6) (hc0_6 : l0_6.length ≤ c0_6) (h : aK.f k a0_0 a0_1 a0_2 a0_3 a0_4 l0_5 l0_6 = some (r1, r2)) :
 Calls Tryz.prog 10 #[.agg #[.int .i64 a0_0, .int .i64 a0_1, .int .i64 a0_2, .int .i64 a0_3, .int .i64 a0_4, .slice A0_5 l0_5.length c0_5, .slice A0_6 l0_6.length c0_6]] w fun e w' => e = .returned (.tuple #[.string r1, .int .i64 r2]) ∧ Below w.heap.size w w' := by
 have hu25 := Tryz.underlying25
 have HG := am_ hG
 have HR5 := am_ hr0_5
 have HC5 := am_ hc0_5
 have HR6 := am_ hr0_6
 have HC6 := am_ hc0_6
 have HB := am_ (Below.refl w.heap.size w)
 clear hG hr0_5 hc0_5 hr0_6 hc0_6
 unfold aK.f at h
 obtain ⟨t, ht, h⟩ := Option.bind_eq_some_iff.1 h
 have HT := am_ ht
 have H := am_ h
 clear ht h
 have hmf : ∀ (fn : Fn) (first cap : Array Value) (w : World), (Instr.makeFunc fn first cap).run Tryz.prog w = .ok (.func fn first cap) w := fun _ _ _ _ => rfl
 by_cases ht0 : t = 0
 rotate_left
 · have z1 : (t == 0) = false := beq_eq_false_iff_ne.2 ht0
   have z2 : (t != 0) = true := bne_iff_ne.2 ht0
   have h := H.out
   rw [if_neg ht0] at h
   obtain ⟨rfl, rfl⟩ := Prod.mk.inj (Option.some.inj h)
   go_enter Tryz.func10, Tryz.ntmps10
   go_wp2_with (first | ((with_reducible refine gn_ 1 rfl ?_); refine bx_ (N := 1) (cs := #[.int .i64 a0_0, .int .i64 a0_1, .int .i64 a0_2, .int .i64 a0_3, .int .i64 a0_4, .slice A0_5 l0_5.length c0_5, .slice A0_6 l0_6.length c0_6]) (t := 25) ?_; intro gb hg w2 hbox hb; have BK := am_ hbox; have n1 := am_ (below_step HB.out hb); have GB : w.heap.size ≤ gb := (by rw [hg]; exact HB.out.size); clear HB; have HB := n1; clear n1 hb hbox hg; have hcz_0 : w2.cell? ⟨gb, 0, none⟩ = some (.int .i64 a0_0) := (blk_cell BK.out 0).trans rfl; have hcz_1 : w2.cell? ⟨gb, 1, none⟩ = some (.int .i64 a0_1) := (blk_cell BK.out 1).trans rfl; have hcz_2 : w2.cell? ⟨gb, 2, none⟩ = some (.int .i64 a0_2) := (blk_cell BK.out 2).trans rfl; have hcz_3 : w2.cell? ⟨gb, 3, none⟩ = some (.int .i64 a0_3) := (blk_cell BK.out 3).trans rfl; have hcz_4 : w2.cell? ⟨gb, 4, none⟩ = some (.int .i64 a0_4) := (blk_cell BK.out 4).trans rfl; have hcz_5 : w2.cell? ⟨gb, 5, none⟩ = some (.slice A0_5 l0_5.length c0_5) := (blk_cell BK.out 5).trans rfl; have hcz_6 : w2.cell? ⟨gb, 6, none⟩ = some (.slice A0_6 l0_6.length c0_6) := (blk_cell BK.out 6).trans rfl) | (go_at_call 12; refine (bQ.calls k a0_0 a0_1 a0_2 a0_3 a0_4 A0_5 c0_5 l0_5 A0_6 c0_6 l0_6 t _ (Tryz.dZ HG.out HB.out) (Kd.C_below HR5.out HB.out) HC5.out (Kd.C_below HR6.out HB.out) HC6.out HT.out).mono ?_; rintro e w3 ⟨rfl, hb⟩; have BK2 := am_ (blk_below BK.out hb); have n1 := am_ (below_step HB.out hb); clear HB; have HB := n1; clear n1 hb))
   first | go_ret2 | go_ret
   exact ⟨rfl, HB.out⟩
 subst ht0
 go_enter Tryz.func10, Tryz.ntmps10
 go_upto_region 4 with (first | ((with_reducible refine gn_ 1 rfl ?_); refine bx_ (N := 1) (cs := #[.int .i64 a0_0, .int .i64 a0_1, .int .i64 a0_2, .int .i64 a0_3, .int .i64 a0_4, .slice A0_5 l0_5.length c0_5, .slice A0_6 l0_6.length c0_6]) (t := 25) ?_; intro gb hg w2 hbox hb; have BK := am_ hbox; have n1 := am_ (below_step HB.out hb); have GB : w.heap.size ≤ gb := (by rw [hg]; exact HB.out.size); clear HB; have HB := n1; clear n1 hb hbox hg; have hcz_0 : w2.cell? ⟨gb, 0, none⟩ = some (.int .i64 a0_0) := (blk_cell BK.out 0).trans rfl; have hcz_1 : w2.cell? ⟨gb, 1, none⟩ = some (.int .i64 a0_1) := (blk_cell BK.out 1).trans rfl; have hcz_2 : w2.cell? ⟨gb, 2, none⟩ = some (.int .i64 a0_2) := (blk_cell BK.out 2).trans rfl; have hcz_3 : w2.cell? ⟨gb, 3, none⟩ = some (.int .i64 a0_3) := (blk_cell BK.out 3).trans rfl; have hcz_4 : w2.cell? ⟨gb, 4, none⟩ = some (.int .i64 a0_4) := (blk_cell BK.out 4).trans rfl; have hcz_5 : w2.cell? ⟨gb, 5, none⟩ = some (.slice A0_5 l0_5.length c0_5) := (blk_cell BK.out 5).trans rfl; have hcz_6 : w2.cell? ⟨gb, 6, none⟩ = some (.slice A0_6 l0_6.length c0_6) := (blk_cell BK.out 6).trans rfl) | (go_at_call 12; refine (bQ.calls k a0_0 a0_1 a0_2 a0_3 a0_4 A0_5 c0_5 l0_5 A0_6 c0_6 l0_6 0 _ (Tryz.dZ HG.out HB.out) (Kd.C_below HR5.out HB.out) HC5.out (Kd.C_below HR6.out HB.out) HC6.out HT.out).mono ?_; rintro e w3 ⟨rfl, hb⟩; have BK2 := am_ (blk_below BK.out hb); have n1 := am_ (below_step HB.out hb); clear HB; have HB := n1; clear n1 hb))
 have h := H.out
 first | rw [if_pos rfl] at h | rw [if_true] at h
 by_cases hi : aK.inI a0_0 ∧ aK.inI a0_1 ∧ aK.inI a0_2 ∧ aK.inI a0_3 ∧ aK.inI a0_4
 case neg => rw [if_neg hi] at h; cases h
 rw [if_pos hi] at h
 by_cases h5 : l0_5.length = 0
 case neg => rw [if_neg h5] at h; cases h
 rw [if_pos h5] at h
 by_cases h6 : l0_6.length = 0
 case neg => rw [if_neg h6] at h; cases h
 rw [if_pos h6] at h
 by_cases hsz : (aK.iU (aK.w1 a0_0 a0_1 a0_2 a0_3 a0_4)).length ≤ 200000
 case neg => rw [if_neg hsz] at h; cases h
 rw [if_pos hsz] at h
 obtain ⟨rfl, rfl⟩ := Prod.mk.inj (Option.some.inj h)
 have HI := am_ hi
 have H5 := am_ h5
 have H6 := am_ h6
 have HSZ := am_ hsz
 clear h H HT hi h5 h6 hsz hcz_0 hcz_1 hcz_2 hcz_3 hcz_4 hcz_5 hcz_6 BK
 go_upto_region 7 with (((with_reducible refine gn_ 5 rfl ?_); refine bx_ (N := 5) (cs := #[.pointer none, .slice none 0 0]) (t := 56) ?_; intro b hg w4 hbox hb; have JC : Aside0 (aK.Ctx w w4 gb b a0_0 a0_1 a0_2 a0_3 a0_4 (.slice A0_5 l0_5.length c0_5) (.slice A0_6 l0_6.length c0_6) []) := ⟨⟨below_step HB.out hb, blk_below BK2.out hb, GB, by rw [hg]; exact blk_lt BK2.out, .inl ⟨Nat.le_refl _, _, hbox, World.ownsRow_nil _ _ _ _, by simp [Value.ownBlock]⟩⟩⟩; clear hg hb hbox))
 go_wp2
 have JX := am_ (JC.out.step (below_drew1 (Below.refl _ _)))
 clear JC HB BK2
 have JC := JX
 clear JX
 refine start_ (n := 23) (S := (fun w' => w'.cell? ⟨gb, 0, none⟩ = some (.int .i64 a0_0) ∧ w'.cell? ⟨gb, 1, none⟩ = some (.int .i64 a0_1) ∧ w'.cell? ⟨gb, 2, none⟩ = some (.int .i64 a0_2) ∧ w'.cell? ⟨gb, 3, none⟩ = some (.int .i64 a0_3) ∧ w'.cell? ⟨gb, 4, none⟩ = some (.int .i64 a0_4))) (ds := []) (bv 23 0) (by kernel_rfl) rfl rfl JC.out.cells (fun hHeld => ?_)
 generalize w4.drew = w5 at JC hHeld ⊢
 refine pu_ 0 21 (bv 23 1) ?_
 refine pu_ 1 22 (bv 23 3) ?_
 refine pu_ 2 23 (bv 23 7) ?_
 refine tk_ 3 24 (bv 23 15) hHeld ?_
 refine pu_ 5 26 (bv 23 47) ?_
 refine pu_ 6 27 (bv 23 111) ?_
 refine tk_ 7 28 (bv 23 239) hHeld ?_
 refine pu_ 9 30 (bv 23 751) ?_
 refine pu_ 10 31 (bv 23 1775) ?_
 refine tk_ 11 32 (bv 23 3823) hHeld ?_
 refine pu_ 13 34 (bv 23 12015) ?_
 refine pu_ 14 35 (bv 23 28399) ?_
 refine tk_ 15 36 (bv 23 61167) hHeld ?_
 refine pu_ 17 38 (bv 23 192239) ?_
 refine pu_ 18 39 (bv 23 454383) ?_
 refine tk_ 19 40 (bv 23 978671) hHeld ?_
 refine one_ (i := 4) (N := some 25) (bv 23 978687) rfl rfl (by kernel_rfl) (by decide) (fun K hK => ?_)
 refine aK.goesV Tryz.func28 (by kernel_rfl) rfl #[.int .i64 a0_0] (by rfl) rfl rfl rfl (by (try simp only [List.map_toArray, List.map_cons, List.map_nil]); first | done | rfl) ?_
 refine (strconv_Itoa.calls a0_0 (aK.num a0_0) _ (Tryz.dZ HG.out JC.out.below) (aK.jQ HI.out.1)).mono ?_
 rintro e wX ⟨rfl, hbX⟩
 refine ⟨_, rfl, ?_⟩
 have JX := am_ (JC.out.step hbX)
 clear JC hbX
 have JC := JX
 clear JX
 refine hK.out _ _ JC.out.cells (fun hHeld => ?_)
 clear hK K
 refine norm_ (a' := ?_) ?_ ?_
 rotate_left
 · show Act.put _ (some 25) _ = _
   simp only [Act.put, List.setIfInBounds_toArray, List.set_cons_zero, List.set_cons_succ, i64_w, i32_w]
   rfl
 refine one_ (i := 8) (N := some 29) (bv 23 978943) rfl rfl (by kernel_rfl) (by decide) (fun K hK => ?_)
 refine aK.goesV Tryz.func28 (by kernel_rfl) rfl #[.int .i64 a0_1] (by rfl) rfl rfl rfl (by (try simp only [List.map_toArray, List.map_cons, List.map_nil]); first | done | rfl) ?_
 refine (strconv_Itoa.calls a0_1 (aK.num a0_1) _ (Tryz.dZ HG.out JC.out.below) (aK.jQ HI.out.2.1)).mono ?_
 rintro e wX ⟨rfl, hbX⟩
 refine ⟨_, rfl, ?_⟩
 have JX := am_ (JC.out.step hbX)
 clear JC hbX
 have JC := JX
 clear JX
 refine hK.out _ _ JC.out.cells (fun hHeld => ?_)
 clear hK K
 refine norm_ (a' := ?_) ?_ ?_
 rotate_left
 · show Act.put _ (some 29) _ = _
   simp only [Act.put, List.setIfInBounds_toArray, List.set_cons_zero, List.set_cons_succ, i64_w, i32_w]
   rfl
 refine one_ (i := 12) (N := some 33) (bv 23 983039) rfl rfl (by kernel_rfl) (by decide) (fun K hK => ?_)
 refine aK.goesV Tryz.func28 (by kernel_rfl) rfl #[.int .i64 a0_2] (by rfl) rfl rfl rfl (by (try simp only [List.map_toArray, List.map_cons, List.map_nil]); first | done | rfl) ?_
 refine (strconv_Itoa.calls a0_2 (aK.num a0_2) _ (Tryz.dZ HG.out JC.out.below) (aK.jQ HI.out.2.2.1)).mono ?_
 rintro e wX ⟨rfl, hbX⟩
 refine ⟨_, rfl, ?_⟩
 have JX := am_ (JC.out.step hbX)
 clear JC hbX
 have JC := JX
 clear JX
 refine hK.out _ _ JC.out.cells (fun hHeld => ?_)
 clear hK K
 refine norm_ (a' := ?_) ?_ ?_
 rotate_left
 · show Act.put _ (some 33) _ = _
   simp only [Act.put, List.setIfInBounds_toArray, List.set_cons_zero, List.set_cons_succ, i64_w, i32_w]
   rfl
 refine one_ (i := 16) (N := some 37) (bv 23 1048575) rfl rfl (by kernel_rfl) (by decide) (fun K hK => ?_)
 refine aK.goesV Tryz.func28 (by kernel_rfl) rfl #[.int .i64 a0_3] (by rfl) rfl rfl rfl (by (try simp only [List.map_toArray, List.map_cons, List.map_nil]); first | done | rfl) ?_
 refine (strconv_Itoa.calls a0_3 (aK.num a0_3) _ (Tryz.dZ HG.out JC.out.below) (aK.jQ HI.out.2.2.2.1)).mono ?_
 rintro e wX ⟨rfl, hbX⟩
 refine ⟨_, rfl, ?_⟩
 have JX := am_ (JC.out.step hbX)
 clear JC hbX
 have JC := JX
 clear JX
 refine hK.out _ _ JC.out.cells (fun hHeld => ?_)
 clear hK K
 refine norm_ (a' := ?_) ?_ ?_
 rotate_left
 · show Act.put _ (some 37) _ = _
   simp only [Act.put, List.setIfInBounds_toArray, List.set_cons_zero, List.set_cons_succ, i64_w, i32_w]
   rfl
 refine one_ (i := 20) (N := some 41) (bv 23 2097151) rfl rfl (by kernel_rfl) (by decide) (fun K hK => ?_)
 refine aK.goesV Tryz.func28 (by kernel_rfl) rfl #[.int .i64 a0_4] (by rfl) rfl rfl rfl (by (try simp only [List.map_toArray, List.map_cons, List.map_nil]); first | done | rfl) ?_
 refine (strconv_Itoa.calls a0_4 (aK.num a0_4) _ (Tryz.dZ HG.out JC.out.below) (aK.jQ HI.out.2.2.2.2)).mono ?_
 rintro e wX ⟨rfl, hbX⟩
 refine ⟨_, rfl, ?_⟩
 have JX := am_ (JC.out.step hbX)
 clear JC hbX
 have JC := JX
 clear JX
 refine hK.out _ _ JC.out.cells (fun hHeld => ?_)
 clear hK K
 refine norm_ (a' := ?_) ?_ ?_
 rotate_left
 · show Act.put _ (some 41) _ = _
   simp only [Act.put, List.setIfInBounds_toArray, List.set_cons_zero, List.set_cons_succ, i64_w, i32_w]
   rfl
 refine one_ (i := 21) (N := some 42) (bv 23 4194303) rfl rfl (by kernel_rfl) (by decide) (fun K hK => ?_)
 refine Kd.R_lit_step Kd.string _ 9 (by rfl) (N := 42) rfl (xs := ([aK.num a0_0, aK.num a0_1, aK.num a0_2, aK.num a0_3, aK.num a0_4] : List ByteArray)) (inner := [.string (aK.num a0_0), .string (aK.num a0_1), .string (aK.num a0_2), .string (aK.num a0_3), .string (aK.num a0_4)]) (ok := fun _ => True) (okp := fun _ => True) ?hr ?hp (fun _ hk => hk) trivial (Below.refl _ _) (Nat.le_refl _) (by simp) ?_
 case hr => first | (go_simp; done) | (go_simp; rfl)
 case hp => exact Reps.one (show Kd.M Kd.string _ _ _ (aK.num a0_0) [.string (aK.num a0_0)] from rfl) (Reps.one (show Kd.M Kd.string _ _ _ (aK.num a0_1) [.string (aK.num a0_1)] from rfl) (Reps.one (show Kd.M Kd.string _ _ _ (aK.num a0_2) [.string (aK.num a0_2)] from rfl) (Reps.one (show Kd.M Kd.string _ _ _ (aK.num a0_3) [.string (aK.num a0_3)] from rfl) (Reps.one (show Kd.M Kd.string _ _ _ (aK.num a0_4) [.string (aK.num a0_4)] from rfl) (Reps.none _ _)))))
 intro vL wL hL hbL _ _
 obtain ⟨AL, cL, eL⟩ := Kd.R_slice hL
 subst eL
 have HLR := am_ hL
 have JX := am_ (JC.out.step hbL)
 clear JC hbL hL
 have JC := JX
 clear JX
 refine hK.out _ _ JC.out.cells (fun hHeld => ?_)
 clear hK K
 refine norm_ (a' := ?_) ?_ ?_
 rotate_left
 · show Act.put _ (some 42) _ = _
   simp only [Act.put, List.setIfInBounds_toArray, List.set_cons_zero, List.set_cons_succ, i64_w, i32_w]
   rfl
 refine one_ (i := 22) (N := some 43) (bv 23 8388607) rfl rfl (by kernel_rfl) (by decide) (fun K hK => ?_)
 refine aK.goesV Tryz.func25 (by kernel_rfl) rfl #[.string ⟨#[114, 117, 108, 101, 115]⟩, .slice AL [aK.num a0_0, aK.num a0_1, aK.num a0_2, aK.num a0_3, aK.num a0_4].length cL, .pointer (some ⟨b, 0, none⟩)] (by rfl) rfl rfl rfl (by (try simp only [List.map_toArray, List.map_cons, List.map_nil]); first | done | rfl) ?_
 refine (aK.line b [] ⟨#[114, 117, 108, 101, 115]⟩ AL cL [aK.num a0_0, aK.num a0_1, aK.num a0_2, aK.num a0_3, aK.num a0_4] _ JC.out.bld (Kd.R_reads' HLR.out).2.2 (Kd.R_reads' HLR.out).2.1 (by simp) (by have h := HSZ.out; unfold aK.w1 at h; simp only [List.length_nil]; omega)).mono ?_
 rintro e wY ⟨rfl, hbld, hbX⟩
 refine ⟨_, rfl, ?_⟩
 have JX := am_ (JC.out.lined hbld hbX)
 clear JC hbX hbld
 have JC := JX
 clear JX
 refine hK.out _ _ JC.out.cells (fun hHeld => ?_)
 clear hK K
 refine norm_ (a' := ?_) ?_ ?_
 rotate_left
 · show Act.put _ (some 43) _ = _
   simp only [Act.put, List.setIfInBounds_toArray, List.set_cons_zero, List.set_cons_succ, i64_w, i32_w]
   rfl
 refine done_ (by kernel_rfl) ?_
 clear hHeld HLR
 have hcz_1 : wY.cell? ⟨gb, 5, none⟩ = some (.slice A0_5 l0_5.length c0_5) := (blk_cell JC.out.bk 5).trans rfl
 have hcz_2 : wY.cell? ⟨gb, 6, none⟩ = some (.slice A0_6 l0_6.length c0_6) := (blk_cell JC.out.bk 6).trans rfl
 have e5 : decide (0 < l0_5.length) = false := decide_eq_false (by have := H5.out; omega)
 have e6 : decide (0 < l0_6.length) = false := decide_eq_false (by have := H6.out; omega)
 have e5' : decide ((0 : Int) < (l0_5.length : Int)) = false := decide_eq_false (by have := H5.out; omega)
 have e6' : decide ((0 : Int) < (l0_6.length : Int)) = false := decide_eq_false (by have := H6.out; omega)
 have hln : (Lib.byteCells ([] ++ aK.iU [⟨#[114, 117, 108, 101, 115]⟩, aK.num a0_0, aK.num a0_1, aK.num a0_2, aK.num a0_3, aK.num a0_4])).length = (aK.iU (aK.w1 a0_0 a0_1 a0_2 a0_3 a0_4)).length := by rw [Lib.byteCells_length]; rfl
 have eL : decide ((200000 : Int) < ((Lib.byteCells ([] ++ aK.iU [⟨#[114, 117, 108, 101, 115]⟩, aK.num a0_0, aK.num a0_1, aK.num a0_2, aK.num a0_3, aK.num a0_4])).length : Int)) = false := decide_eq_false (by rw [hln]; have := HSZ.out; omega)
 have HLN := am_ hln
 clear hln
 obtain ⟨L, hL⟩ : ∃ L, Aside0 ((Lib.byteCells ([] ++ aK.iU [⟨#[114, 117, 108, 101, 115]⟩, aK.num a0_0, aK.num a0_1, aK.num a0_2, aK.num a0_3, aK.num a0_4])).length = L) := ⟨_, ⟨rfl⟩⟩
 rw [hL.out] at eL
 go_wp2
 go_loopg [47] 0 (fun _ v47 wr => v47 = .int .i64 0 ∧ Aside0 (wr = wY))
 case atStart => exact ⟨rfl, ⟨rfl⟩⟩
 case round =>
  obtain ⟨rfl, hwr⟩ := hrel
  obtain rfl := hwr.out
  go_wp2
  go_loopg [71] 0 (fun _ v71 wr2 => v71 = .int .i64 0 ∧ Aside0 (wr2 = wr))
  case atStart => exact ⟨rfl, ⟨rfl⟩⟩
  case round =>
   obtain ⟨rfl, hwr⟩ := hrel
   obtain rfl := hwr.out
   go_wp2_with (first | (go_at_call 29; refine (Tryz.Builder_Len b b _ _ JC.out.bld).mono ?_; rintro e w' ⟨rfl, rfl⟩; rw [hL.out]) | (go_at_call 30; refine (Tryz.Builder_String_any b b _ _ JC.out.bld (Nat.le_of_lt (by rcases JC.out.bld with h | h <;> exact h.lt))).mono ?_; rintro e w9 ⟨rfl, hb9⟩; have HB9 := am_ hb9; clear hb9))
   first | go_ret2 | go_ret
   exact ⟨rfl, JC.out.below.trans (HB9.out.mono (Nat.le_of_lt (Nat.lt_of_le_of_lt JC.out.ge JC.out.lt)))⟩
def eU.f (k : Nat)  : Option (Bool) := (aK.f k 0 5 0 0 0 ([] : List (S66)) ([] : List (S68))).bind fun bt196 => (if bt196.2 = 0 then (some (bt196.1.toList == ([114, 117, 108, 101, 115, 32, 48, 32, 53, 32, 48, 32, 48, 32, 48, 10] : List UInt8))) else (some false))
theorem eU.calls (k : Nat)  (r : Bool) (w : World) (hG : Tryz.GW w) (h : eU.f k  = some r) :
 Calls Tryz.prog 14 #[] w fun e w' => e = .returned (.bool r) ∧ Below w.heap.size w w' := by
 have hu25 := Tryz.underlying25
 have HG := am_ hG
 clear hG
 have HB := am_ (Below.refl w.heap.size w)
 have H : ((aK.f k 0 5 0 0 0 ([] : List (S66)) ([] : List (S68))).bind fun bt196 => (if bt196.2 = 0 then (some (bt196.1.toList == ([114, 117, 108, 101, 115, 32, 48, 32, 53, 32, 48, 32, 48, 32, 48, 10] : List UInt8))) else (some false))) = some r := h
 clear h
 obtain ⟨⟨t196, t197⟩, A1, H⟩ := bs_ H
 by_cases c2 : t197 = 0
 · rw [if_pos c2] at H
   have c2b0 : (t197 == 0) = true := beq_iff_eq.mpr c2
   have c2b1 : (t197 != 0) = false := bne_eq_false_iff_eq.mpr c2
   clear c2
   obtain rfl := sj_ H
   go_enter Tryz.func14, Tryz.ntmps14
   go_wp2_with (first | ((with_reducible refine gf_ 10 rfl ?_); refine gl_ (some 5) Tryz.func10 #[.agg #[.int .i64 0, .int .i64 5, .int .i64 0, .int .i64 0, .int .i64 0, .slice none 0 0, .slice none 0 0]] ?_; (refine (aK.calls k 0 5 0 0 0 _ _ ([] : List (S66)) _ _ ([] : List (S68)) t196 t197 _ ?s1 ?s2 ?s3 ?s4 ?s5 A1.out).mono ?_); (case s1 => exact gw_ HG.out); (case s2 => exact Kd.C_nil _ _); (case s3 => exact Nat.le_refl _); (case s4 => exact Kd.C_nil _ _); (case s5 => exact Nat.le_refl _); rintro e w3 ⟨rfl, hb⟩; refine ⟨_, rfl, ?_⟩; replace HB := bp_ hb; (try clear hb)))
   go_ret
   exact ⟨er_, bl_⟩
 rw [if_neg c2] at H
 have c2b0 : (t197 == 0) = false := beq_eq_false_iff_ne.mpr c2
 have c2b1 : (t197 != 0) = true := bne_iff_ne.mpr c2
 obtain rfl := sj_ H
 go_enter Tryz.func14, Tryz.ntmps14
 go_wp2_with (first | ((with_reducible refine gf_ 10 rfl ?_); refine gl_ (some 5) Tryz.func10 #[.agg #[.int .i64 0, .int .i64 5, .int .i64 0, .int .i64 0, .int .i64 0, .slice none 0 0, .slice none 0 0]] ?_; (refine (aK.calls k 0 5 0 0 0 _ _ ([] : List (S66)) _ _ ([] : List (S68)) t196 t197 _ ?s1 ?s2 ?s3 ?s4 ?s5 A1.out).mono ?_); (case s1 => exact gw_ HG.out); (case s2 => exact Kd.C_nil _ _); (case s3 => exact Nat.le_refl _); (case s4 => exact Kd.C_nil _ _); (case s5 => exact Nat.le_refl _); rintro e w4 ⟨rfl, hb⟩; refine ⟨_, rfl, ?_⟩; replace HB := bp_ hb; (try clear hb)))
 go_ret
 exact ⟨er_, bl_⟩
def eP.f (k : Nat) (a0 : ByteArray) : Option (Bool) := if a0.toList = ([] : List UInt8) then (some true) else ((eH.f k a0).bind fun t198 => (some t198))
theorem eP.calls (k : Nat) (a0 : ByteArray) (r : Bool) (w : World) (hG : Tryz.GW w) (h : eP.f k a0 = some r) :
 Calls Tryz.prog 42 #[.string a0] w fun e w' => e = .returned (.bool r) ∧ Below w.heap.size w w' := by
 have HG := am_ hG
 clear hG
 have HB := am_ (Below.refl w.heap.size w)
 have H : (if a0.toList = ([] : List UInt8) then (some true) else ((eH.f k a0).bind fun t198 => (some t198))) = some r := h
 clear h
 by_cases c2 : a0.toList = ([] : List UInt8)
 · rw [if_pos c2] at H
   have c2b0 : (a0.toList == ([] : List UInt8)) = true := beq_iff_eq.mpr c2
   have c2b1 : (a0.toList != ([] : List UInt8)) = false := bne_eq_false_iff_eq.mpr c2
   clear c2
   obtain rfl := sj_ H
   go_enter Tryz.func42, Tryz.ntmps42
   go_wp2
   go_ret
   exact ⟨er_, bl_⟩
 rw [if_neg c2] at H
 have c2b0 : (a0.toList == ([] : List UInt8)) = false := beq_eq_false_iff_ne.mpr c2
 have c2b1 : (a0.toList != ([] : List UInt8)) = true := bne_iff_ne.mpr c2
 obtain ⟨t198, A3, H⟩ := bs_ H
 obtain rfl := sj_ H
 go_enter Tryz.func42, Tryz.ntmps42
 go_wp2_with (first | (go_at_call 66; refine (eH.calls k a0 t198 _ (gw_ HG.out) A3.out).mono ?_; rintro e w4 ⟨rfl, hb⟩; replace HB := bp_ hb; (try clear hb)))
 go_ret
 exact ⟨er_, bl_⟩
def gB.f (a0_0 : Int) (a0_1 : Int) : Option (Bool) := (dS.f a0_0).bind fun t200 => (if t200 = true then ((dS.f a0_1).bind fun t201 => (some t201)) else (some false))
theorem gB.calls (a0_0 : Int) (a0_1 : Int) (r : Bool) (w : World) (hG : Tryz.GW w) (h : gB.f a0_0 a0_1 = some r) :
 Calls Tryz.prog 43 #[.agg #[.int .i64 a0_0, .int .i64 a0_1]] w fun e w' => e = .returned (.bool r) ∧ Below w.heap.size w w' := by
 have hu33 := Tryz.underlying33
 have HG := am_ hG
 clear hG
 have HB := am_ (Below.refl w.heap.size w)
 have H : ((dS.f a0_0).bind fun t200 => (if t200 = true then ((dS.f a0_1).bind fun t201 => (some t201)) else (some false))) = some r := h
 clear h
 obtain ⟨t200, A2, H⟩ := bs_ H
 by_cases c3 : t200 = true
 · subst c3
   rw [if_pos rfl] at H
   obtain ⟨t201, A4, H⟩ := bs_ H
   obtain rfl := sj_ H
   go_enter Tryz.func43, Tryz.ntmps43
   go_wp2_with (first | ((with_reducible refine gn_ 1 rfl ?_); refine bq_ (N := 1) (cs := #[.int .i64 a0_0, .int .i64 a0_1]) (t := 33) ?_; intro gb199 hg w5 BK199 hb; have GW199 := ga_ w hg; have GE199 := GW199; replace HB := bp_ hb; clear hb hg; have bz6 := bc2_ BK199) | ((with_reducible refine gf_ 76 rfl ?_); refine gl_ (some 5) Tryz.func76 #[.int .i64 a0_0] ?_; refine (dS.calls a0_0 true _ (gw_ HG.out) A2.out).mono ?_; rintro e w' ⟨rfl, ⟨nd, rfl⟩⟩; refine ⟨_, rfl, ?_⟩) | (go_at_call 76; refine (dS.calls a0_1 t201 _ (gw_ HG.out) A4.out).mono ?_; rintro e w' ⟨rfl, ⟨nd, rfl⟩⟩))
   go_ret
   exact ⟨er_, bl_⟩
 obtain rfl := bf_ c3
 clear c3
 rw [if_neg ft_] at H
 obtain rfl := sj_ H
 go_enter Tryz.func43, Tryz.ntmps43
 go_wp2_with (first | ((with_reducible refine gn_ 1 rfl ?_); refine bq_ (N := 1) (cs := #[.int .i64 a0_0, .int .i64 a0_1]) (t := 33) ?_; intro gb199 hg w7 BK199 hb; have GW199 := ga_ w hg; have GE199 := GW199; replace HB := bp_ hb; clear hb hg; have bz8 := bc2_ BK199) | ((with_reducible refine gf_ 76 rfl ?_); refine gl_ (some 5) Tryz.func76 #[.int .i64 a0_0] ?_; refine (dS.calls a0_0 false _ (gw_ HG.out) A2.out).mono ?_; rintro e w' ⟨rfl, ⟨nd, rfl⟩⟩; refine ⟨_, rfl, ?_⟩))
 go_ret
 exact ⟨er_, bl_⟩
def bY.enc (x : S44) : List Value := [.int .i64 x.f0, .int .i64 x.f1, .int .i64 x.f2, .int .i64 x.f3]
def bY.in_ (px py : Int) (x : S44) : Bool := decide (x.f0 ≤ px) && (decide (px < x.f2) && (decide (x.f1 ≤ py) && decide (py < x.f3)))
def bY.f (l0 : List (S44)) (a1_0 : Int) (a1_1 : Int) : Option (Bool) := if l0.length ≤ 9223372036854775807 then some (l0.any (bY.in_ a1_0 a1_1)) else none
theorem bY.closure (gp : Nat) (px py : Int) (x : S44) (W : World) (h0 : W.cell? ⟨gp, 0, none⟩ = some (.int .i64 px)) (h1 : W.cell? ⟨gp, 1, none⟩ = some (.int .i64 py)) :
 Calls Tryz.prog 99 #[.agg #[.int .i64 x.f0, .int .i64 x.f1, .int .i64 x.f2, .int .i64 x.f3], .pointer (some ⟨gp, 0, none⟩)] W fun e w' => e = .returned (.bool (bY.in_ px py x)) ∧ Below W.heap.size W w' := by
 obtain ⟨x0, x1, x2, x3⟩ := x
 unfold bY.in_
 simp only
 have hu44 := Tryz.underlying44
 have hu33 := Tryz.underlying33
 have hu3 := Tryz.underlying3
 have e0 := Lib.cell?_alloc_some (Obj.cells #[Value.int IntKind.i64 x0, Value.int IntKind.i64 x1, Value.int IntKind.i64 x2, Value.int IntKind.i64 x3] 44) h0
 have e1 := Lib.cell?_alloc_some (Obj.cells #[Value.int IntKind.i64 x0, Value.int IntKind.i64 x1, Value.int IntKind.i64 x2, Value.int IntKind.i64 x3] 44) h1
 have ec : ∀ j v, (#[Value.int IntKind.i64 x0, Value.int IntKind.i64 x1, Value.int IntKind.i64 x2, Value.int IntKind.i64 x3] : Array Value)[j]? = some v → (W.alloc (Obj.cells #[Value.int IntKind.i64 x0, Value.int IntKind.i64 x1, Value.int IntKind.i64 x2, Value.int IntKind.i64 x3] 44)).cell? ⟨W.heap.size, j, none⟩ = some v := by
  intro j v hj
  show (match (W.heap.push _)[W.heap.size]? with | some (.cells c _ _) => if (none : Option _).isSome then none else c[j]? | _ => none) = _
  rw [Array.getElem?_push_size]; exact hj
 have f0 := ec 0 _ rfl
 have f1 := ec 1 _ rfl
 have f2 := ec 2 _ rfl
 have f3 := ec 3 _ rfl
 clear ec
 have BEL := am_ (below_alloc (Below.refl W.heap.size W) (Obj.cells #[Value.int IntKind.i64 x0, Value.int IntKind.i64 x1, Value.int IntKind.i64 x2, Value.int IntKind.i64 x3] 44))
 cases c1 : decide (x0 ≤ px)
 · simp only [Bool.false_and]
   go_enter Tryz.func99, Tryz.ntmps99
   go_wp2
   go_ret
   exact ⟨rfl, BEL.out⟩
 cases c2 : decide (px < x2)
 · simp only [Bool.true_and, Bool.false_and]
   go_enter Tryz.func99, Tryz.ntmps99
   go_wp2
   go_ret
   exact ⟨rfl, BEL.out⟩
 cases c3 : decide (x1 ≤ py)
 · simp only [Bool.true_and, Bool.false_and]
   go_enter Tryz.func99, Tryz.ntmps99
   go_wp2
   go_ret
   exact ⟨rfl, BEL.out⟩
 simp only [Bool.true_and]
 go_enter Tryz.func99, Tryz.ntmps99
 go_wp2
 go_ret
 exact ⟨rfl, BEL.out⟩
theorem bY.none224 (A : Option Addr) (c : Nat) (fv : Value) (w : World) : Calls Tryz.prog 128 #[.slice A 0 c, fv] w fun e w' => e = .returned (.int .i64 (-1)) ∧ w' = w := by
 go_enter Tryz.func128, Tryz.ntmps128
 go_wp2
 go_loopg [8] 0 (fun _ v8 wr => v8 = .int .i64 0 ∧ wr = w)
 case atStart => exact ⟨rfl, rfl⟩
 case round =>
  obtain ⟨rfl, rfl⟩ := hrel
  go_wp2
  go_ret
  exact ⟨rfl, rfl⟩
theorem bY.none153 (A : Option Addr) (c : Nat) (fv : Value) (w : World) : Calls Tryz.prog 98 #[.slice A 0 c, fv] w fun e w' => e = .returned (.bool false) ∧ w' = w := by
 go_enter Tryz.func98, Tryz.ntmps98
 go_wp2_with (go_at_call 128; refine (bY.none224 A c fv _).mono ?_; rintro e w' ⟨rfl, rfl⟩)
 go_ret
 exact ⟨rfl, rfl⟩
theorem bY.calls (A0 : Option Addr) (c0 : Nat) (l0 : List (S44)) (a1_0 : Int) (a1_1 : Int) (r : Bool) (w : World) (hG : Tryz.GW w) (hr0 : Kd.C k44 w A0 l0.length l0) (hc0 : l0.length ≤ c0) (h : bY.f l0 a1_0 a1_1 = some r) :
 Calls Tryz.prog 55 #[.slice A0 l0.length c0, .agg #[.int .i64 a1_0, .int .i64 a1_1]] w fun e w' => e = .returned (.bool r) ∧ Below w.heap.size w w' := by
 unfold bY.f at h
 split at h
 · rename_i hbig
   obtain rfl := Option.some.inj h
   have hu33 := Tryz.underlying33
   have f0 : (w.alloc (Obj.cells #[Value.int IntKind.i64 a1_0, Value.int IntKind.i64 a1_1] 33)).cell? ⟨w.heap.size, 0, none⟩ = some (.int .i64 a1_0) := by
    show (match (w.heap.push _)[w.heap.size]? with | some (.cells c _ _) => if (none : Option _).isSome then none else c[0]? | _ => none) = _
    rw [Array.getElem?_push_size]; rfl
   have f1 : (w.alloc (Obj.cells #[Value.int IntKind.i64 a1_0, Value.int IntKind.i64 a1_1] 33)).cell? ⟨w.heap.size, 1, none⟩ = some (.int .i64 a1_1) := by
    show (match (w.heap.push _)[w.heap.size]? with | some (.cells c _ _) => if (none : Option _).isSome then none else c[1]? | _ => none) = _
    rw [Array.getElem?_push_size]; rfl
   have hlt : w.heap.size < (w.alloc (Obj.cells #[Value.int IntKind.i64 a1_0, Value.int IntKind.i64 a1_1] 33)).heap.size := by
    show w.heap.size < (w.heap.push _).size
    rw [Array.size_push]; omega
   have bel := below_alloc (Below.refl w.heap.size w) (Obj.cells #[Value.int IntKind.i64 a1_0, Value.int IntKind.i64 a1_1] 33)
   have key : Calls Tryz.prog 98 #[.slice A0 l0.length c0, .func (.func 99) #[] #[.pointer (some ⟨w.heap.size, 0, none⟩)]] (w.alloc (Obj.cells #[Value.int IntKind.i64 a1_0, Value.int IntKind.i64 a1_1] 33)) fun e w' => e = .returned (.bool (l0.any (bY.in_ a1_0 a1_1))) ∧ Below w.heap.size w w' := by
    by_cases hz : l0 = []
    · subst hz
      exact (bY.none153 A0 c0 _ _).mono fun e w' ⟨he, hw⟩ => ⟨he, by rw [hw]; exact bel⟩
    have hpos : 0 < l0.length := List.length_pos_iff.2 hz
    have hr1 := Kd.C_below hr0 bel
    obtain ⟨_, _, hx⟩ := hr1
    obtain ⟨ad, rfl, hcells⟩ := hx hpos
    obtain ⟨b, off, sp⟩ := ad
    letI : Inhabited S44 := ⟨z44⟩
    have hcell : ∀ j (hj : j < l0.length) i v, (bY.enc l0[j]!)[i]? = some v → (w.alloc (Obj.cells #[Value.int IntKind.i64 a1_0, Value.int IntKind.i64 a1_1] 33)).cell? ((⟨b, off, sp⟩ : Addr).add (j * 4 + i)) = some v := by
     intro j hj i v hv
     obtain ⟨c, _, hK, hc⟩ := hcells j _ (List.getElem?_eq_getElem hj)
     obtain rfl := k44_open hK
     rw [getElem!_pos l0 j hj] at hv
     exact hc i v hv
    have hsp : sp = none := by
     have h := hcell 0 hpos 0 _ rfl
     cases sp with
     | none => rfl
     | some s =>
      exfalso
      have h' : (w.alloc (Obj.cells #[Value.int IntKind.i64 a1_0, Value.int IntKind.i64 a1_1] 33)).cell? ⟨b, off, some s⟩ = some _ := h
      unfold World.cell? at h'
      split at h' <;> simp at h'
    subst hsp
    have hb := World.block_lt_of_cell? _ _ (hcell 0 hpos 0 _ rfl)
    have eg : ∀ args w, (callFunc 99 args).run Tryz.prog w = .ok (.enter 99 args) w := enters_of Tryz.func99 (by kernel_rfl) rfl
    have hp : PredBelow Tryz.prog 99 #[.pointer (some ⟨w.heap.size, 0, none⟩)] (fun x => .agg (bY.enc x).toArray) (bY.in_ a1_0 a1_1) (w.alloc (Obj.cells #[Value.int IntKind.i64 a1_0, Value.int IntKind.i64 a1_1] 33)) := by
     intro W x hW
     refine (bY.closure w.heap.size a1_0 a1_1 x W ((hW.cell hlt).trans f0) ((hW.cell hlt).trans f1)).mono fun e w' ⟨he, hb⟩ => ⟨he, hW.trans ⟨hb.os, hb.tape, hb.output, hb.size, fun k hk => hb.block k (Nat.lt_of_lt_of_le hk hW.size)⟩⟩
    have hc := Tryz.containsRects bY.enc (fun _ => rfl) (bY.in_ a1_0 a1_1) 99 #[.pointer (some ⟨w.heap.size, 0, none⟩)] eg b off l0.length c0 l0 _ hp (Nat.le_refl _) hbig hb (by
     intro j hj i v hv
     have := hcell j hj i v hv
     rwa [Addr.add_lit, ← Nat.add_assoc] at this)
    rw [List.take_length] at hc
    exact hc.mono fun e w' ⟨he, hw⟩ => ⟨he, bel.trans ⟨hw.os, hw.tape, hw.output, hw.size, fun k hk => hw.block k (by omega)⟩⟩
   have KEY := am_ key
   clear key f0 f1 hlt bel hr0
   go_enter Tryz.func55, Tryz.ntmps55
   go_wp2_with (go_at_call 98; refine KEY.out.mono ?_; rintro e w' ⟨rfl, hb'⟩)
   go_ret
   exact ⟨rfl, hb'⟩
 cases h
def gV.f (a0_0 : Int) (l0_1 : List (S44)) (a0_2 : Int) (a1 : Int) : Option (Bool) := if a0_0 < 0 then (some true) else (some (a0_0 == a1))
theorem gV.calls (a0_0 : Int) (A0_1 : Option Addr) (c0_1 : Nat) (l0_1 : List (S44)) (a0_2 : Int) (a1 : Int) (r : Bool) (w : World) (hG : Tryz.GW w) (hr0_1 : Kd.C k44 w A0_1 l0_1.length l0_1) (hc0_1 : l0_1.length ≤ c0_1) (h : gV.f a0_0 l0_1 a0_2 a1 = some r) :
 Calls Tryz.prog 77 #[.agg #[.int .i64 a0_0, .slice A0_1 l0_1.length c0_1, .int .i64 a0_2], .int .i64 a1] w fun e w' => e = .returned (.bool r) ∧ Below w.heap.size w w' := by
 have hu68 := Tryz.underlying68
 have HR0_1 := am_ hr0_1
 have HC0_1 := am_ hc0_1
 clear hr0_1 hc0_1
 have HG := am_ hG
 clear hG
 have HB := am_ (Below.refl w.heap.size w)
 have H : (if a0_0 < 0 then (some true) else (some (a0_0 == a1))) = some r := h
 clear h
 by_cases c3 : a0_0 < 0
 · rw [if_pos c3] at H
   have c3b0 := decide_eq_true c3
   clear c3
   obtain rfl := sj_ H
   go_enter Tryz.func77, Tryz.ntmps77
   go_wp2_with (first | ((with_reducible refine gn_ 2 rfl ?_); refine bq_ (N := 2) (cs := #[.int .i64 a0_0, .slice A0_1 l0_1.length c0_1, .int .i64 a0_2]) (t := 68) ?_; intro gb202 hg w4 BK202 hb; have GW202 := ga_ w hg; have GE202 := GW202; replace HB := bp_ hb; clear hb hg; have bz5 := bc3_ BK202))
   go_ret
   exact ⟨er_, bl_⟩
 rw [if_neg c3] at H
 have c3b0 := decide_eq_false c3
 clear c3
 obtain rfl := sj_ H
 go_enter Tryz.func77, Tryz.ntmps77
 go_wp2_with (first | ((with_reducible refine gn_ 2 rfl ?_); refine bq_ (N := 2) (cs := #[.int .i64 a0_0, .slice A0_1 l0_1.length c0_1, .int .i64 a0_2]) (t := 68) ?_; intro gb202 hg w6 BK202 hb; have GW202 := ga_ w hg; have GE202 := GW202; replace HB := bp_ hb; clear hb hg; have bz7 := bc3_ BK202))
 go_ret
 exact ⟨er_, bl_⟩
def cmp_isNaN_string.f (a0 : ByteArray) : Option (Bool) := some (a0.toList != a0.toList)
theorem cmp_isNaN_string.calls (a0 : ByteArray) (r : Bool) (w : World) (hG : Tryz.GW w) (h : cmp_isNaN_string.f a0 = some r) :
 Calls Tryz.prog 187 #[.string a0] w fun e w' => e = .returned (.bool r) ∧ Drawn0 w w' := by
 have HG := am_ hG
 clear hG
 have H : (some (a0.toList != a0.toList)) = some r := h
 clear h
 obtain rfl := sj_ H
 go_enter Tryz.func187, Tryz.ntmps187
 go_wp2
 go_ret
 exact ⟨ra_, dr_⟩
def cmp_Less_string.f (a0 : ByteArray) (a1 : ByteArray) : Option (Bool) := (cmp_isNaN_string.f a0).bind fun t203 => (if t203 = true then ((cmp_isNaN_string.f a1).bind fun t204 => (if t204 = true then (some (Op.bytesLess a0.toList a1.toList)) else (some true))) else (some (Op.bytesLess a0.toList a1.toList)))
theorem cmp_Less_string.calls (a0 : ByteArray) (a1 : ByteArray) (r : Bool) (w : World) (hG : Tryz.GW w) (h : cmp_Less_string.f a0 a1 = some r) :
 Calls Tryz.prog 149 #[.string a0, .string a1] w fun e w' => e = .returned (.bool r) ∧ Drawn0 w w' := by
 have HG := am_ hG
 clear hG
 have H : ((cmp_isNaN_string.f a0).bind fun t203 => (if t203 = true then ((cmp_isNaN_string.f a1).bind fun t204 => (if t204 = true then (some (Op.bytesLess a0.toList a1.toList)) else (some true))) else (some (Op.bytesLess a0.toList a1.toList)))) = some r := h
 clear h
 obtain ⟨t203, A3, H⟩ := bs_ H
 by_cases c4 : t203 = true
 rotate_left
 · obtain rfl := bf_ c4
   clear c4
   rw [if_neg ft_] at H
   obtain rfl := sj_ H
   go_enter Tryz.func149, Tryz.ntmps149
   go_wp2_with (first | ((with_reducible refine gf_ 187 rfl ?_); refine gl_ (some 6) Tryz.func187 #[.string a0] ?_; refine (cmp_isNaN_string.calls a0 false _ gd_ A3.out).mono ?_; rintro e w' ⟨rfl, ⟨nd, rfl⟩⟩; refine ⟨_, rfl, ?_⟩))
   go_ret
   exact ⟨ra_, dr_⟩
 subst c4
 rw [if_pos rfl] at H
 obtain ⟨t204, A5, H⟩ := bs_ H
 by_cases c6 : t204 = true
 · subst c6
   rw [if_pos rfl] at H
   obtain rfl := sj_ H
   go_enter Tryz.func149, Tryz.ntmps149
   go_wp2_with (first | ((with_reducible refine gf_ 187 rfl ?_); refine gl_ (some 6) Tryz.func187 #[.string a0] ?_; refine (cmp_isNaN_string.calls a0 true _ gd_ A3.out).mono ?_; rintro e w' ⟨rfl, ⟨nd, rfl⟩⟩; refine ⟨_, rfl, ?_⟩) | (go_at_call 187; refine (cmp_isNaN_string.calls a1 true _ gd_ A5.out).mono ?_; rintro e w' ⟨rfl, ⟨nd, rfl⟩⟩))
   go_ret
   exact ⟨ra_, dr_⟩
 obtain rfl := bf_ c6
 clear c6
 rw [if_neg ft_] at H
 obtain rfl := sj_ H
 go_enter Tryz.func149, Tryz.ntmps149
 go_wp2_with (first | ((with_reducible refine gf_ 187 rfl ?_); refine gl_ (some 6) Tryz.func187 #[.string a0] ?_; refine (cmp_isNaN_string.calls a0 true _ gd_ A3.out).mono ?_; rintro e w' ⟨rfl, ⟨nd, rfl⟩⟩; refine ⟨_, rfl, ?_⟩) | (go_at_call 187; refine (cmp_isNaN_string.calls a1 false _ gd_ A5.out).mono ?_; rintro e w' ⟨rfl, ⟨nd, rfl⟩⟩))
 go_ret
 exact ⟨ra_, dr_⟩
def slices_isNaN_string.f (a0 : ByteArray) : Option (Bool) := some (a0.toList != a0.toList)
theorem slices_isNaN_string.calls (a0 : ByteArray) (r : Bool) (w : World) (hG : Tryz.GW w) (h : slices_isNaN_string.f a0 = some r) :
 Calls Tryz.prog 150 #[.string a0] w fun e w' => e = .returned (.bool r) ∧ Drawn0 w w' := by
 have HG := am_ hG
 clear hG
 have H : (some (a0.toList != a0.toList)) = some r := h
 clear h
 obtain rfl := sj_ H
 go_enter Tryz.func150, Tryz.ntmps150
 go_wp2
 go_ret
 exact ⟨ra_, dr_⟩
end Go.Proofs.YthkeonbmgcphkaaGreatDoor.PN
