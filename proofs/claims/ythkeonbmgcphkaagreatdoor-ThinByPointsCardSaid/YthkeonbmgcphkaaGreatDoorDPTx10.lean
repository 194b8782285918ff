-- Written by this session's own programs (wip/tools).
import Derived.Test.YthkeonbmgcphkaaGreatDoorDPTx0
import Derived.Test.YthkeonbmgcphkaaGreatDoorDPTx9
namespace Go.Proofs.YthkeonbmgcphkaaGreatDoor.PT
open Go.RowKit Go.Proofs.YthkeonbmgcphkaaGreatDoorW.PrintWords Go.Proofs.YthkeonbmgcphkaaGreatDoorW.PrintLast Go.Proofs.YthkeonbmgcphkaaGreatDoorW.PrintMore
attribute [local go_sem] max2_int min2_int max_two min_two max_three min_three max_four min_four
set_option linter.unusedVariables false
set_option linter.unusedSimpArgs false
theorem rules_Text.goesV {P : Program} {ops : Array Oper} {Q : Exit → Act → World → Prop} {oi : Oper} {N : Option Tmp} {a : Act} {w : World} {K : Act → World → Prop} {f : FuncId} {fn : Func} {x : Operand} {ags : Array Operand} {ts : Array TypeId} {cap : Array Value} (hf : P.funcs[f]? = some fn) (hname : (fn.name == "runtime.NumGoroutine") = false) (hb : fn.body.isSome = true) (args : Array Value)
    (hw : Region.wanted oi (yielded ops a.tmps) = true) (hN : oi.dst = N) (hop : oi.op = .call { callee := .value x, args := ags, argTypes := ts }) (hx : a.eval x = .func (.func f) #[] cap) (hargs : ags.map a.eval ++ cap = args)
    (h : Calls P f args w fun e w' => ∃ v, e = .returned v ∧ K (a.put N v) w') : if Region.wanted oi (yielded ops a.tmps) = true then Oper.wp P oi a w K Q else K (a.put N undef) w := by
  refine call_ f args hw hN ?_ h
  have he := enters_ hf hname hb args w
  unfold execOp
  simp [hop, resolve, Deferred.ofValue, invoke, hx, hargs, he]
theorem rules_Text.bld_below {T e : TypeId} {B b : Nat} {bs : List Value} {W W' : World} (h : Lib.IsBuilder T e B b bs W) (hb : Below W.heap.size W W') : Lib.IsBuilder T e B b bs W' := by
  have go : ∀ p, Lib.BuilderAt T e B b p bs W → Lib.BuilderAt T e B b p bs W' := by
    intro p h
    have hlt := h.lt
    obtain ⟨hB, v, hbk, hown, hne⟩ := h
    exact ⟨hB, v, (hb.block b hlt).trans hbk, hown.kept (row := none) ⟨hb.os, hb.tape, hb.output, hb.size, fun i hi _ => hb.block i hi⟩ (by simp; exact Classical.em _), hne⟩
  rcases h with h | h
  · exact .inl (go _ h)
  · exact .inr (go _ h)
def rules_Text.lineB (ws : List ByteArray) : List UInt8 := Lib.join (ws.map (·.data.toList)) [32] ++ [10]
theorem rules_Text.line_str (ws : List ByteArray) : ((⟨(Lib.join (ws.map (·.data.toList)) [32]).toArray⟩ : ByteArray) ++ ⟨#[10]⟩) = ⟨(rules_Text.lineB ws).toArray⟩ := by
  unfold rules_Text.lineB
  have h : (⟨#[10]⟩ : ByteArray) = ⟨([10] : List UInt8).toArray⟩ := rfl
  rw [h, ByteArray.mk_append_mk]
theorem rules_Text.line_cells (acc : List UInt8) (ws : List ByteArray) : Lib.byteCells acc ++ Lib.strCells ((⟨(Lib.join (ws.map (·.data.toList)) [32]).toArray⟩ : ByteArray) ++ ⟨#[10]⟩) = Lib.byteCells (acc ++ rules_Text.lineB ws) := by
  rw [rules_Text.line_str]
  unfold Lib.byteCells Lib.strCells
  rw [List.map_append]
theorem rules_Text.line_size (ws : List ByteArray) : ((⟨(Lib.join (ws.map (·.data.toList)) [32]).toArray⟩ : ByteArray) ++ ⟨#[10]⟩).size = (rules_Text.lineB ws).length := by
  rw [rules_Text.line_str]
  unfold ByteArray.size
  exact List.size_toArray
def rules_Text.num (n : Int) : ByteArray := ⟨(Lib.itoa n).toArray⟩
def rules_Text.inI (n : Int) : Prop := -9223372036854775808 ≤ n ∧ n ≤ 9223372036854775807
instance (n : Int) : Decidable (rules_Text.inI n) := by unfold rules_Text.inI; infer_instance
def rules_Text.w1 (a0 a1 a2 a3 a4 : Int) : List ByteArray := [⟨#[114, 117, 108, 101, 115]⟩, rules_Text.num a0, rules_Text.num a1, rules_Text.num a2, rules_Text.num a3, rules_Text.num a4]
def rules_Text.f (k : Nat) (a0_0 : Int) (a0_1 : Int) (a0_2 : Int) (a0_3 : Int) (a0_4 : Int) (l0_5 : List (S66)) (l0_6 : List (S68)) : Option (ByteArray × Int) := (rules_CheckRules.f k a0_0 a0_1 a0_2 a0_3 a0_4 l0_5 l0_6).bind fun t => if t = 0 then (if rules_Text.inI a0_0 ∧ rules_Text.inI a0_1 ∧ rules_Text.inI a0_2 ∧ rules_Text.inI a0_3 ∧ rules_Text.inI a0_4 then (if l0_5.length = 0 then (if l0_6.length = 0 then (if (rules_Text.lineB (rules_Text.w1 a0_0 a0_1 a0_2 a0_3 a0_4)).length ≤ 200000 then some (⟨(rules_Text.lineB (rules_Text.w1 a0_0 a0_1 a0_2 a0_3 a0_4)).toArray⟩, 0) else none) else none) else none) else none) else some (⟨#[]⟩, t)
theorem rules_Text.itoa_some {n : Int} (h : rules_Text.inI n) : strconv_Itoa.f n = some (rules_Text.num n) := by
  unfold strconv_Itoa.f
  rw [if_pos h.1, if_pos h.2]
  rfl
structure rules_Text.Ctx (w0 w : World) (gb b : Nat) (a0_0 a0_1 a0_2 a0_3 a0_4 : Int) (v5 v6 : Value) (acc : List UInt8) : Prop where
  below : Below w0.heap.size w0 w
  bk : w.heap[gb]? = some (.cells #[.int .i64 a0_0, .int .i64 a0_1, .int .i64 a0_2, .int .i64 a0_3, .int .i64 a0_4, v5, v6] 25 (0, 0))
  ge : w0.heap.size ≤ gb
  lt : gb < b
  bld : Lib.IsBuilder 56 5 b b (Lib.byteCells acc) w
variable {w0 w w' : World} {gb b : Nat} {a0_0 a0_1 a0_2 a0_3 a0_4 : Int} {v5 v6 : Value} {acc acc' : List UInt8}
theorem rules_Text.Ctx.step (h : rules_Text.Ctx w0 w gb b a0_0 a0_1 a0_2 a0_3 a0_4 v5 v6 acc) (hb : Below w.heap.size w w') : rules_Text.Ctx w0 w' gb b a0_0 a0_1 a0_2 a0_3 a0_4 v5 v6 acc :=
  ⟨below_step h.below hb, blk_below h.bk hb, h.ge, h.lt, rules_Text.bld_below h.bld hb⟩
theorem rules_Text.Ctx.lined (h : rules_Text.Ctx w0 w gb b a0_0 a0_1 a0_2 a0_3 a0_4 v5 v6 acc) (hl : Lib.IsBuilder 56 5 b b (Lib.byteCells acc') w') (hb : Below b w w') : rules_Text.Ctx w0 w' gb b a0_0 a0_1 a0_2 a0_3 a0_4 v5 v6 acc' :=
  ⟨h.below.trans (hb.mono (Nat.le_of_lt (Nat.lt_of_le_of_lt h.ge h.lt))), (hb.block gb h.lt).trans h.bk, h.ge, h.lt, hl⟩
theorem rules_Text.Ctx.cells (h : rules_Text.Ctx w0 w gb b a0_0 a0_1 a0_2 a0_3 a0_4 v5 v6 acc) : w.cell? ⟨gb, 0, none⟩ = some (.int .i64 a0_0) ∧ w.cell? ⟨gb, 1, none⟩ = some (.int .i64 a0_1) ∧ w.cell? ⟨gb, 2, none⟩ = some (.int .i64 a0_2) ∧ w.cell? ⟨gb, 3, none⟩ = some (.int .i64 a0_3) ∧ w.cell? ⟨gb, 4, none⟩ = some (.int .i64 a0_4) :=
  ⟨(blk_cell h.bk 0).trans rfl, (blk_cell h.bk 1).trans rfl, (blk_cell h.bk 2).trans rfl, (blk_cell h.bk 3).trans rfl, (blk_cell h.bk 4).trans rfl⟩
set_option maxHeartbeats 8000000 in
set_option maxRecDepth 100000 in
theorem rules_Text.line (b : Nat) (acc : List UInt8) (word : ByteArray) (A : Option Addr) (c : Nat) (more : List ByteArray) (w : World) (hB : Lib.IsBuilder 56 5 b b (Lib.byteCells acc) w) (hr : Kd.C Kd.string w A more.length more) (hc : more.length ≤ c) (hm : more.length ≤ 1000000)
    (hlen : acc.length + (rules_Text.lineB (word :: more)).length ≤ 140737488355328) :
    Calls Tryz.prog 25 #[.string word, .slice A more.length c, .pointer (some ⟨b, 0, none⟩)] w fun e w' => e = .returned (.tuple #[]) ∧ Lib.IsBuilder 56 5 b b (Lib.byteCells (acc ++ rules_Text.lineB (word :: more))) w' ∧ Below b w w' := by
  have hbw : b < w.heap.size := by rcases hB with h | h <;> exact h.lt
  have hJ : (Lib.join (word.data.toList :: List.map (fun x => x.data.toList) more) [32]).length + 1 ≤ 140737488355328 := by
    have h := hlen
    unfold rules_Text.lineB at h
    rw [List.length_append] at h
    exact Nat.le_trans (Nat.le_add_left _ _) h
  have HBD := Aside0.mk hB
  have HR := Aside0.mk hr
  have HC := Aside0.mk hc
  have HM := Aside0.mk hm
  have HL := Aside0.mk hlen
  clear hB hr hc hm hlen
  have hu9 := Tryz.underlying9
  go_enter Tryz.func25, Tryz.ntmps25
  go_wp2_with (first | ((with_reducible refine gate_dst (N := 6) rfl ?_); refine Kd.R_lit Kd.string _ 9 ?hg (N := 6) ?hd (xs := ([word] : List ByteArray)) (inner := [.string word]) (ok := fun _ => True) (okp := fun _ => True) ?hr ?hp (fun _ hk => hk) trivial (Below.refl w.heap.size w) (Nat.le_refl _) (by simp) ?_; (case hd => rfl); (case hg => rfl); (case hr => first | (go_simp; done) | (go_simp; rfl)); (case hp => exact (Reps.one (show Kd.M Kd.string _ _ _ word [.string word] from rfl) (Reps.none _ _))); intro v1 w1 ho hb hg_ hnew_; have HO := Aside0.mk ho; have HB := Aside0.mk hb; clear hg_ hnew_ ho hb; obtain ⟨A1, c1, e1⟩ := Kd.R_slice HO.out; subst e1) | ((with_reducible refine gate_builtin (b := .append) (xs := #[.tmp 6, .tmp 7]) rfl ?_); at_builtin; refine Kd.R_append_rows Kd.string (w0 := w) w.heap.size rfl (.tmp 6) (.tmp 7) 57 9 (.string ⟨#[]⟩) 16 rfl Tryz.underlying57 info9 rfl (by decide) (by omega) (.slice A1 [word].length c1) ([word] : List ByteArray) more _ _ _ (fun _ => True) (fun _ => False) rfl rfl ?aO ?aR (fun _ _ h => h) (fun _ h => h.elim) ?aF ?aB ?aS ?aL ?_; (case aR => exact Kd.C_below HR.out HB.out); (case aO => exact HO.out); (case aF => exact fun _ _ => trivial); (case aB => exact HB.out); (case aS => exact HB.out.size); (case aL => have := HM.out; simp only [List.length_cons, List.length_nil]; omega); intro v2 w2 ho hb hg_ hnew_; have HO2 : Aside0 (Kd.R Kd.string 9 w2 w.heap.size (fun _ => True) v2 (word :: more)) := Aside0.mk ho; have HB2 := Aside0.mk hb; clear hg_ hnew_ ho hb HO HB; obtain ⟨g2, c2, e2, hg2, hg2', _⟩ := Kd.R_form HO2.out (by simp); subst e2) | (go_at_call 27; (refine (Tryz.strings_Join g2 0 c2 (word :: more) ⟨#[32]⟩ _ (fun j x hx => ?jc) ?jb ?jn ?jk ?jl).mono ?_; (case jc => have hj := (List.getElem?_eq_some_iff.1 hx).1; have h1 := (Kd.R_cell ByteArray.empty HO2.out (j : Int) (by omega) (by omega)).1; rw [Int.toNat_natCast] at h1; rw [show rdOf ByteArray.empty (word :: more) (j : Int) = x by unfold rdOf; rw [Int.toNat_natCast, List.getD_eq_getElem?_getD, hx]; rfl] at h1; rw [Nat.zero_add]; exact h1); (case jb => exact hg2'); (case jn => have := HM.out; simp only [List.length_cons]; omega); (case jk => exact (Kd.R_reads' HO2.out).2.1); (case jl => have := HL.out; unfold rules_Text.lineB at this; rw [List.length_append] at this; exact Nat.le_trans (Nat.le_trans (Nat.le_add_right _ _) (Nat.le_add_left _ _)) this); rintro e w3 ⟨rfl, hb⟩; have HB3 := Aside0.mk (below_step HB2.out hb); clear hb)) | (go_at_call 26; (refine (Tryz.Builder_WriteString b b (Lib.byteCells acc) _ _ (rules_Text.bld_below HBD.out HB3.out) ?wl (Nat.le_trans (Nat.le_of_lt hbw) HB3.out.size)).mono ?_; (case wl => rw [Lib.byteCells_length]; exact Nat.le_trans (Nat.le_of_eq (congrArg (acc.length + ·) (rules_Text.line_size (word :: more)))) HL.out); rintro e w4 ⟨rfl, hat, hb⟩; have HF := Aside0.mk hat; have HB4 := Aside0.mk hb; clear hat hb)))
  go_end0
  refine ⟨rfl, ?_, (HB3.out.mono (Nat.le_of_lt hbw)).trans HB4.out⟩
  have := HF.out
  exact .inr (by rw [← rules_Text.line_cells acc (word :: more)]; exact this)
set_option maxHeartbeats 8000000 in
set_option maxRecDepth 100000 in
theorem rules_Text.calls (k : Nat) (a0_0 : Int) (a0_1 : Int) (a0_2 : Int) (a0_3 : Int) (a0_4 : Int) (A0_5 : Option Addr) (c0_5 : Nat) (l0_5 : List (S66)) (A0_6 : Option Addr) (c0_6 : Nat) (l0_6 : List (S68)) (r1 : ByteArray) (r2 : Int) (w : World) (hG : Tryz.GW w) (hr0_5 : Kd.C k66 w A0_5 l0_5.length l0_5) (hc0_5 : l0_5.length ≤ c0_5) (hr0_6 : Kd.C k68 w A0_6 l0_6.length l0_6) (hc0_6 : l0_6.length ≤ c0_6) (h : rules_Text.f k a0_0 a0_1 a0_2 a0_3 a0_4 l0_5 l0_6 = some (r1, r2)) :
    Calls Tryz.prog 10 #[.agg #[.int .i64 a0_0, .int .i64 a0_1, .int .i64 a0_2, .int .i64 a0_3, .int .i64 a0_4, .slice A0_5 l0_5.length c0_5, .slice A0_6 l0_6.length c0_6]] w fun e w' => e = .returned (.tuple #[.string r1, .int .i64 r2]) ∧ Below w.heap.size w w' := by
  have hu25 := Tryz.underlying25
  have HG := Aside0.mk hG
  have HR5 := Aside0.mk hr0_5
  have HC5 := Aside0.mk hc0_5
  have HR6 := Aside0.mk hr0_6
  have HC6 := Aside0.mk hc0_6
  have HB := Aside0.mk (Below.refl w.heap.size w)
  clear hG hr0_5 hc0_5 hr0_6 hc0_6
  unfold rules_Text.f at h
  obtain ⟨t, ht, h⟩ := Option.bind_eq_some_iff.1 h
  have HT := Aside0.mk ht
  have H := Aside0.mk h
  clear ht h
  have hmf : ∀ (fn : Fn) (first cap : Array Value) (w : World), (Instr.makeFunc fn first cap).run Tryz.prog w = .ok (.func fn first cap) w := fun _ _ _ _ => rfl
  by_cases ht0 : t = 0
  · subst ht0
    go_enter Tryz.func10, Tryz.ntmps10
    go_upto_region 4 with (first | ((with_reducible refine gate_dst (N := 1) rfl ?_); refine bx_ (N := 1) (cs := #[.int .i64 a0_0, .int .i64 a0_1, .int .i64 a0_2, .int .i64 a0_3, .int .i64 a0_4, .slice A0_5 l0_5.length c0_5, .slice A0_6 l0_6.length c0_6]) (t := 25) ?_; intro gb hg w2 hbox hb; have BK := Aside0.mk hbox; have n1 := Aside0.mk (below_step HB.out hb); have GB : w.heap.size ≤ gb := (by rw [hg]; exact HB.out.size); clear HB; have HB := n1; clear n1 hb hbox hg; have hcz_0 : w2.cell? ⟨gb, 0, none⟩ = some (.int .i64 a0_0) := (blk_cell BK.out 0).trans rfl; have hcz_1 : w2.cell? ⟨gb, 1, none⟩ = some (.int .i64 a0_1) := (blk_cell BK.out 1).trans rfl; have hcz_2 : w2.cell? ⟨gb, 2, none⟩ = some (.int .i64 a0_2) := (blk_cell BK.out 2).trans rfl; have hcz_3 : w2.cell? ⟨gb, 3, none⟩ = some (.int .i64 a0_3) := (blk_cell BK.out 3).trans rfl; have hcz_4 : w2.cell? ⟨gb, 4, none⟩ = some (.int .i64 a0_4) := (blk_cell BK.out 4).trans rfl; have hcz_5 : w2.cell? ⟨gb, 5, none⟩ = some (.slice A0_5 l0_5.length c0_5) := (blk_cell BK.out 5).trans rfl; have hcz_6 : w2.cell? ⟨gb, 6, none⟩ = some (.slice A0_6 l0_6.length c0_6) := (blk_cell BK.out 6).trans rfl) | (go_at_call 12; refine (rules_CheckRules.calls k a0_0 a0_1 a0_2 a0_3 a0_4 A0_5 c0_5 l0_5 A0_6 c0_6 l0_6 0 _ (Tryz.gw_below HG.out HB.out) (Kd.C_below HR5.out HB.out) HC5.out (Kd.C_below HR6.out HB.out) HC6.out HT.out).mono ?_; rintro e w3 ⟨rfl, hb⟩; have BK2 := Aside0.mk (blk_below BK.out hb); have n1 := Aside0.mk (below_step HB.out hb); clear HB; have HB := n1; clear n1 hb))
    have h := H.out
    first | rw [if_pos rfl] at h | rw [if_true] at h
    by_cases hi : rules_Text.inI a0_0 ∧ rules_Text.inI a0_1 ∧ rules_Text.inI a0_2 ∧ rules_Text.inI a0_3 ∧ rules_Text.inI a0_4
    case neg => rw [if_neg hi] at h; cases h
    rw [if_pos hi] at h
    by_cases h5 : l0_5.length = 0
    case neg => rw [if_neg h5] at h; cases h
    rw [if_pos h5] at h
    by_cases h6 : l0_6.length = 0
    case neg => rw [if_neg h6] at h; cases h
    rw [if_pos h6] at h
    by_cases hsz : (rules_Text.lineB (rules_Text.w1 a0_0 a0_1 a0_2 a0_3 a0_4)).length ≤ 200000
    case neg => rw [if_neg hsz] at h; cases h
    rw [if_pos hsz] at h
    obtain ⟨rfl, rfl⟩ := Prod.mk.inj (Option.some.inj h)
    have HI := Aside0.mk hi
    have H5 := Aside0.mk h5
    have H6 := Aside0.mk h6
    have HSZ := Aside0.mk hsz
    clear h H HT hi h5 h6 hsz hcz_0 hcz_1 hcz_2 hcz_3 hcz_4 hcz_5 hcz_6 BK
    go_upto_region 7 with (((with_reducible refine gate_dst (N := 5) rfl ?_); refine bx_ (N := 5) (cs := #[.pointer none, .slice none 0 0]) (t := 56) ?_; intro b hg w4 hbox hb; have JC : Aside0 (rules_Text.Ctx w w4 gb b a0_0 a0_1 a0_2 a0_3 a0_4 (.slice A0_5 l0_5.length c0_5) (.slice A0_6 l0_6.length c0_6) []) := ⟨⟨below_step HB.out hb, blk_below BK2.out hb, GB, by rw [hg]; exact blk_lt BK2.out, .inl ⟨Nat.le_refl _, _, hbox, World.ownsRow_nil _ _ _ _, by simp [Value.ownBlock]⟩⟩⟩; clear hg hb hbox))
    go_wp2
    have JX := Aside0.mk (JC.out.step (below_drew1 (Below.refl _ _)))
    clear JC HB BK2
    have JC := JX
    clear JX
    refine start_ (n := 23) (S := (fun w' => w'.cell? ⟨gb, 0, none⟩ = some (.int .i64 a0_0) ∧ w'.cell? ⟨gb, 1, none⟩ = some (.int .i64 a0_1) ∧ w'.cell? ⟨gb, 2, none⟩ = some (.int .i64 a0_2) ∧ w'.cell? ⟨gb, 3, none⟩ = some (.int .i64 a0_3) ∧ w'.cell? ⟨gb, 4, none⟩ = some (.int .i64 a0_4))) (ds := []) (bv 23 0) (by kernel_rfl) rfl rfl JC.out.cells (fun hHeld => ?_)
    generalize w4.drew = w5 at JC hHeld ⊢
    refine pu_ 0 21 (bv 23 1) ?_
    refine pu_ 1 22 (bv 23 3) ?_
    refine pu_ 2 23 (bv 23 7) ?_
    refine tk_ 3 24 (bv 23 15) hHeld ?_
    refine pu_ 5 26 (bv 23 47) ?_
    refine pu_ 6 27 (bv 23 111) ?_
    refine tk_ 7 28 (bv 23 239) hHeld ?_
    refine pu_ 9 30 (bv 23 751) ?_
    refine pu_ 10 31 (bv 23 1775) ?_
    refine tk_ 11 32 (bv 23 3823) hHeld ?_
    refine pu_ 13 34 (bv 23 12015) ?_
    refine pu_ 14 35 (bv 23 28399) ?_
    refine tk_ 15 36 (bv 23 61167) hHeld ?_
    refine pu_ 17 38 (bv 23 192239) ?_
    refine pu_ 18 39 (bv 23 454383) ?_
    refine tk_ 19 40 (bv 23 978671) hHeld ?_
    refine one_ (i := 4) (N := some 25) (bv 23 978687) rfl rfl (by kernel_rfl) (by decide) (fun K hK => ?_)
    refine rules_Text.goesV Tryz.func28 (by kernel_rfl) rfl #[.int .i64 a0_0] (by rfl) rfl rfl rfl (by (try simp only [List.map_toArray, List.map_cons, List.map_nil]); first | done | rfl) ?_
    refine (strconv_Itoa.calls a0_0 (rules_Text.num a0_0) _ (Tryz.gw_below HG.out JC.out.below) (rules_Text.itoa_some HI.out.1)).mono ?_
    rintro e wX ⟨rfl, hbX⟩
    refine ⟨_, rfl, ?_⟩
    have JX := Aside0.mk (JC.out.step hbX)
    clear JC hbX
    have JC := JX
    clear JX
    refine hK.out _ _ JC.out.cells (fun hHeld => ?_)
    clear hK K
    refine norm_ (a' := ?_) ?_ ?_
    rotate_left
    · show Act.put _ (some 25) _ = _
      simp only [Act.put, List.setIfInBounds_toArray, List.set_cons_zero, List.set_cons_succ, i64_w, i32_w]
      rfl
    refine one_ (i := 8) (N := some 29) (bv 23 978943) rfl rfl (by kernel_rfl) (by decide) (fun K hK => ?_)
    refine rules_Text.goesV Tryz.func28 (by kernel_rfl) rfl #[.int .i64 a0_1] (by rfl) rfl rfl rfl (by (try simp only [List.map_toArray, List.map_cons, List.map_nil]); first | done | rfl) ?_
    refine (strconv_Itoa.calls a0_1 (rules_Text.num a0_1) _ (Tryz.gw_below HG.out JC.out.below) (rules_Text.itoa_some HI.out.2.1)).mono ?_
    rintro e wX ⟨rfl, hbX⟩
    refine ⟨_, rfl, ?_⟩
    have JX := Aside0.mk (JC.out.step hbX)
    clear JC hbX
    have JC := JX
    clear JX
    refine hK.out _ _ JC.out.cells (fun hHeld => ?_)
    clear hK K
    refine norm_ (a' := ?_) ?_ ?_
    rotate_left
    · show Act.put _ (some 29) _ = _
      simp only [Act.put, List.setIfInBounds_toArray, List.set_cons_zero, List.set_cons_succ, i64_w, i32_w]
      rfl
    refine one_ (i := 12) (N := some 33) (bv 23 983039) rfl rfl (by kernel_rfl) (by decide) (fun K hK => ?_)
    refine rules_Text.goesV Tryz.func28 (by kernel_rfl) rfl #[.int .i64 a0_2] (by rfl) rfl rfl rfl (by (try simp only [List.map_toArray, List.map_cons, List.map_nil]); first | done | rfl) ?_
    refine (strconv_Itoa.calls a0_2 (rules_Text.num a0_2) _ (Tryz.gw_below HG.out JC.out.below) (rules_Text.itoa_some HI.out.2.2.1)).mono ?_
    rintro e wX ⟨rfl, hbX⟩
    refine ⟨_, rfl, ?_⟩
    have JX := Aside0.mk (JC.out.step hbX)
    clear JC hbX
    have JC := JX
    clear JX
    refine hK.out _ _ JC.out.cells (fun hHeld => ?_)
    clear hK K
    refine norm_ (a' := ?_) ?_ ?_
    rotate_left
    · show Act.put _ (some 33) _ = _
      simp only [Act.put, List.setIfInBounds_toArray, List.set_cons_zero, List.set_cons_succ, i64_w, i32_w]
      rfl
    refine one_ (i := 16) (N := some 37) (bv 23 1048575) rfl rfl (by kernel_rfl) (by decide) (fun K hK => ?_)
    refine rules_Text.goesV Tryz.func28 (by kernel_rfl) rfl #[.int .i64 a0_3] (by rfl) rfl rfl rfl (by (try simp only [List.map_toArray, List.map_cons, List.map_nil]); first | done | rfl) ?_
    refine (strconv_Itoa.calls a0_3 (rules_Text.num a0_3) _ (Tryz.gw_below HG.out JC.out.below) (rules_Text.itoa_some HI.out.2.2.2.1)).mono ?_
    rintro e wX ⟨rfl, hbX⟩
    refine ⟨_, rfl, ?_⟩
    have JX := Aside0.mk (JC.out.step hbX)
    clear JC hbX
    have JC := JX
    clear JX
    refine hK.out _ _ JC.out.cells (fun hHeld => ?_)
    clear hK K
    refine norm_ (a' := ?_) ?_ ?_
    rotate_left
    · show Act.put _ (some 37) _ = _
      simp only [Act.put, List.setIfInBounds_toArray, List.set_cons_zero, List.set_cons_succ, i64_w, i32_w]
      rfl
    refine one_ (i := 20) (N := some 41) (bv 23 2097151) rfl rfl (by kernel_rfl) (by decide) (fun K hK => ?_)
    refine rules_Text.goesV Tryz.func28 (by kernel_rfl) rfl #[.int .i64 a0_4] (by rfl) rfl rfl rfl (by (try simp only [List.map_toArray, List.map_cons, List.map_nil]); first | done | rfl) ?_
    refine (strconv_Itoa.calls a0_4 (rules_Text.num a0_4) _ (Tryz.gw_below HG.out JC.out.below) (rules_Text.itoa_some HI.out.2.2.2.2)).mono ?_
    rintro e wX ⟨rfl, hbX⟩
    refine ⟨_, rfl, ?_⟩
    have JX := Aside0.mk (JC.out.step hbX)
    clear JC hbX
    have JC := JX
    clear JX
    refine hK.out _ _ JC.out.cells (fun hHeld => ?_)
    clear hK K
    refine norm_ (a' := ?_) ?_ ?_
    rotate_left
    · show Act.put _ (some 41) _ = _
      simp only [Act.put, List.setIfInBounds_toArray, List.set_cons_zero, List.set_cons_succ, i64_w, i32_w]
      rfl
    refine one_ (i := 21) (N := some 42) (bv 23 4194303) rfl rfl (by kernel_rfl) (by decide) (fun K hK => ?_)
    refine Kd.R_lit_step Kd.string _ 9 (by rfl) (N := 42) rfl (xs := ([rules_Text.num a0_0, rules_Text.num a0_1, rules_Text.num a0_2, rules_Text.num a0_3, rules_Text.num a0_4] : List ByteArray)) (inner := [.string (rules_Text.num a0_0), .string (rules_Text.num a0_1), .string (rules_Text.num a0_2), .string (rules_Text.num a0_3), .string (rules_Text.num a0_4)]) (ok := fun _ => True) (okp := fun _ => True) ?hr ?hp (fun _ hk => hk) trivial (Below.refl _ _) (Nat.le_refl _) (by simp) ?_
    case hr => first | (go_simp; done) | (go_simp; rfl)
    case hp => exact Reps.one (show Kd.M Kd.string _ _ _ (rules_Text.num a0_0) [.string (rules_Text.num a0_0)] from rfl) (Reps.one (show Kd.M Kd.string _ _ _ (rules_Text.num a0_1) [.string (rules_Text.num a0_1)] from rfl) (Reps.one (show Kd.M Kd.string _ _ _ (rules_Text.num a0_2) [.string (rules_Text.num a0_2)] from rfl) (Reps.one (show Kd.M Kd.string _ _ _ (rules_Text.num a0_3) [.string (rules_Text.num a0_3)] from rfl) (Reps.one (show Kd.M Kd.string _ _ _ (rules_Text.num a0_4) [.string (rules_Text.num a0_4)] from rfl) (Reps.none _ _)))))
    intro vL wL hL hbL _ _
    obtain ⟨AL, cL, eL⟩ := Kd.R_slice hL
    subst eL
    have HLR := Aside0.mk hL
    have JX := Aside0.mk (JC.out.step hbL)
    clear JC hbL hL
    have JC := JX
    clear JX
    refine hK.out _ _ JC.out.cells (fun hHeld => ?_)
    clear hK K
    refine norm_ (a' := ?_) ?_ ?_
    rotate_left
    · show Act.put _ (some 42) _ = _
      simp only [Act.put, List.setIfInBounds_toArray, List.set_cons_zero, List.set_cons_succ, i64_w, i32_w]
      rfl
    refine one_ (i := 22) (N := some 43) (bv 23 8388607) rfl rfl (by kernel_rfl) (by decide) (fun K hK => ?_)
    refine rules_Text.goesV Tryz.func25 (by kernel_rfl) rfl #[.string ⟨#[114, 117, 108, 101, 115]⟩, .slice AL [rules_Text.num a0_0, rules_Text.num a0_1, rules_Text.num a0_2, rules_Text.num a0_3, rules_Text.num a0_4].length cL, .pointer (some ⟨b, 0, none⟩)] (by rfl) rfl rfl rfl (by (try simp only [List.map_toArray, List.map_cons, List.map_nil]); first | done | rfl) ?_
    refine (rules_Text.line b [] ⟨#[114, 117, 108, 101, 115]⟩ AL cL [rules_Text.num a0_0, rules_Text.num a0_1, rules_Text.num a0_2, rules_Text.num a0_3, rules_Text.num a0_4] _ JC.out.bld (Kd.R_reads' HLR.out).2.2 (Kd.R_reads' HLR.out).2.1 (by simp) (by have h := HSZ.out; unfold rules_Text.w1 at h; simp only [List.length_nil]; omega)).mono ?_
    rintro e wY ⟨rfl, hbld, hbX⟩
    refine ⟨_, rfl, ?_⟩
    have JX := Aside0.mk (JC.out.lined hbld hbX)
    clear JC hbX hbld
    have JC := JX
    clear JX
    refine hK.out _ _ JC.out.cells (fun hHeld => ?_)
    clear hK K
    refine norm_ (a' := ?_) ?_ ?_
    rotate_left
    · show Act.put _ (some 43) _ = _
      simp only [Act.put, List.setIfInBounds_toArray, List.set_cons_zero, List.set_cons_succ, i64_w, i32_w]
      rfl
    refine done_ (by kernel_rfl) ?_
    clear hHeld HLR
    have hcz_1 : wY.cell? ⟨gb, 5, none⟩ = some (.slice A0_5 l0_5.length c0_5) := (blk_cell JC.out.bk 5).trans rfl
    have hcz_2 : wY.cell? ⟨gb, 6, none⟩ = some (.slice A0_6 l0_6.length c0_6) := (blk_cell JC.out.bk 6).trans rfl
    have e5 : decide (0 < l0_5.length) = false := decide_eq_false (by have := H5.out; omega)
    have e6 : decide (0 < l0_6.length) = false := decide_eq_false (by have := H6.out; omega)
    have e5' : decide ((0 : Int) < (l0_5.length : Int)) = false := decide_eq_false (by have := H5.out; omega)
    have e6' : decide ((0 : Int) < (l0_6.length : Int)) = false := decide_eq_false (by have := H6.out; omega)
    have hln : (Lib.byteCells ([] ++ rules_Text.lineB [⟨#[114, 117, 108, 101, 115]⟩, rules_Text.num a0_0, rules_Text.num a0_1, rules_Text.num a0_2, rules_Text.num a0_3, rules_Text.num a0_4])).length = (rules_Text.lineB (rules_Text.w1 a0_0 a0_1 a0_2 a0_3 a0_4)).length := by rw [Lib.byteCells_length]; rfl
    have eL : decide ((200000 : Int) < ((Lib.byteCells ([] ++ rules_Text.lineB [⟨#[114, 117, 108, 101, 115]⟩, rules_Text.num a0_0, rules_Text.num a0_1, rules_Text.num a0_2, rules_Text.num a0_3, rules_Text.num a0_4])).length : Int)) = false := decide_eq_false (by rw [hln]; have := HSZ.out; omega)
    have HLN := Aside0.mk hln
    clear hln
    obtain ⟨L, hL⟩ : ∃ L, Aside0 ((Lib.byteCells ([] ++ rules_Text.lineB [⟨#[114, 117, 108, 101, 115]⟩, rules_Text.num a0_0, rules_Text.num a0_1, rules_Text.num a0_2, rules_Text.num a0_3, rules_Text.num a0_4])).length = L) := ⟨_, ⟨rfl⟩⟩
    rw [hL.out] at eL
    go_wp2
    go_loopg [47] 0 (fun _ v47 wr => v47 = .int .i64 0 ∧ Aside0 (wr = wY))
    case atStart => exact ⟨rfl, ⟨rfl⟩⟩
    case round =>
      obtain ⟨rfl, hwr⟩ := hrel
      obtain rfl := hwr.out
      go_wp2
      go_loopg [71] 0 (fun _ v71 wr2 => v71 = .int .i64 0 ∧ Aside0 (wr2 = wr))
      case atStart => exact ⟨rfl, ⟨rfl⟩⟩
      case round =>
        obtain ⟨rfl, hwr⟩ := hrel
        obtain rfl := hwr.out
        go_wp2_with (first | (go_at_call 29; refine (Tryz.Builder_Len b b _ _ JC.out.bld).mono ?_; rintro e w' ⟨rfl, rfl⟩; rw [hL.out]) | (go_at_call 30; refine (Tryz.Builder_String_any b b _ _ JC.out.bld (Nat.le_of_lt (by rcases JC.out.bld with h | h <;> exact h.lt))).mono ?_; rintro e w9 ⟨rfl, hb9⟩; have HB9 := Aside0.mk hb9; clear hb9))
        first | go_ret2 | go_ret
        exact ⟨rfl, JC.out.below.trans (HB9.out.mono (Nat.le_of_lt (Nat.lt_of_le_of_lt JC.out.ge JC.out.lt)))⟩
  · have z1 : (t == 0) = false := beq_eq_false_iff_ne.2 ht0
    have z2 : (t != 0) = true := bne_iff_ne.2 ht0
    have h := H.out
    rw [if_neg ht0] at h
    obtain ⟨rfl, rfl⟩ := Prod.mk.inj (Option.some.inj h)
    go_enter Tryz.func10, Tryz.ntmps10
    go_wp2_with (first | ((with_reducible refine gate_dst (N := 1) rfl ?_); refine bx_ (N := 1) (cs := #[.int .i64 a0_0, .int .i64 a0_1, .int .i64 a0_2, .int .i64 a0_3, .int .i64 a0_4, .slice A0_5 l0_5.length c0_5, .slice A0_6 l0_6.length c0_6]) (t := 25) ?_; intro gb hg w2 hbox hb; have BK := Aside0.mk hbox; have n1 := Aside0.mk (below_step HB.out hb); have GB : w.heap.size ≤ gb := (by rw [hg]; exact HB.out.size); clear HB; have HB := n1; clear n1 hb hbox hg; have hcz_0 : w2.cell? ⟨gb, 0, none⟩ = some (.int .i64 a0_0) := (blk_cell BK.out 0).trans rfl; have hcz_1 : w2.cell? ⟨gb, 1, none⟩ = some (.int .i64 a0_1) := (blk_cell BK.out 1).trans rfl; have hcz_2 : w2.cell? ⟨gb, 2, none⟩ = some (.int .i64 a0_2) := (blk_cell BK.out 2).trans rfl; have hcz_3 : w2.cell? ⟨gb, 3, none⟩ = some (.int .i64 a0_3) := (blk_cell BK.out 3).trans rfl; have hcz_4 : w2.cell? ⟨gb, 4, none⟩ = some (.int .i64 a0_4) := (blk_cell BK.out 4).trans rfl; have hcz_5 : w2.cell? ⟨gb, 5, none⟩ = some (.slice A0_5 l0_5.length c0_5) := (blk_cell BK.out 5).trans rfl; have hcz_6 : w2.cell? ⟨gb, 6, none⟩ = some (.slice A0_6 l0_6.length c0_6) := (blk_cell BK.out 6).trans rfl) | (go_at_call 12; refine (rules_CheckRules.calls k a0_0 a0_1 a0_2 a0_3 a0_4 A0_5 c0_5 l0_5 A0_6 c0_6 l0_6 t _ (Tryz.gw_below HG.out HB.out) (Kd.C_below HR5.out HB.out) HC5.out (Kd.C_below HR6.out HB.out) HC6.out HT.out).mono ?_; rintro e w3 ⟨rfl, hb⟩; have BK2 := Aside0.mk (blk_below BK.out hb); have n1 := Aside0.mk (below_step HB.out hb); clear HB; have HB := n1; clear n1 hb))
    first | go_ret2 | go_ret
    exact ⟨rfl, HB.out⟩
def etchhouselaw6_awake.f (k : Nat)  : Option (Bool) := (rules_Text.f k 0 5 0 0 0 ([] : List (S66)) ([] : List (S68))).bind fun bt196 => (if bt196.2 = 0 then (some (bt196.1.toList == ([114, 117, 108, 101, 115, 32, 48, 32, 53, 32, 48, 32, 48, 32, 48, 10] : List UInt8))) else (some false))
set_option maxHeartbeats 8000000 in
set_option maxRecDepth 100000 in
theorem etchhouselaw6_awake.calls (k : Nat)  (r : Bool) (w : World) (hG : Tryz.GW w) (h : etchhouselaw6_awake.f k  = some r) :
    Calls Tryz.prog 14 #[] w fun e w' => e = .returned (.bool r) ∧ Below w.heap.size w w' := by
  have hu25 := Tryz.underlying25
  have HG := Aside0.mk hG
  clear hG
  have HB := Aside0.mk (Below.refl w.heap.size w)
  have H : ((rules_Text.f k 0 5 0 0 0 ([] : List (S66)) ([] : List (S68))).bind fun bt196 => (if bt196.2 = 0 then (some (bt196.1.toList == ([114, 117, 108, 101, 115, 32, 48, 32, 53, 32, 48, 32, 48, 32, 48, 10] : List UInt8))) else (some false))) = some r := h
  clear h
  replace H := Option.bind_eq_some_iff.mp H
  obtain ⟨⟨t196, t197⟩, A10, H⟩ := H
  try dsimp only at H
  have A1 := Aside0.mk A10
  clear A10
  by_cases c2 : t197 = 0
  · rw [if_pos c2] at H
    have c2b0 : (t197 == 0) = true := beq_iff_eq.mpr c2
    have c2b1 : (t197 != 0) = false := bne_eq_false_iff_eq.mpr c2
    clear c2
    obtain rfl := Option.some.inj H
    go_enter Tryz.func14, Tryz.ntmps14
    go_wp2_with (first | ((with_reducible refine gate_callee (f := 10) rfl ?_); refine gl_ (some 5) Tryz.func10 #[.agg #[.int .i64 0, .int .i64 5, .int .i64 0, .int .i64 0, .int .i64 0, .slice none 0 0, .slice none 0 0]] ?_; (refine (rules_Text.calls k 0 5 0 0 0 _ _ ([] : List (S66)) _ _ ([] : List (S68)) t196 t197 _ ?side1 ?side2 ?side3 ?side4 ?side5 A1.out).mono ?_); (case side1 => exact gw_ HG.out); (case side2 => exact Kd.C_nil _ _); (case side3 => exact Nat.le_refl _); (case side4 => exact Kd.C_nil _ _); (case side5 => exact Nat.le_refl _); rintro e w3 ⟨rfl, hb⟩; refine ⟨_, rfl, ?_⟩; replace HB := Aside0.mk (below_step bl_ hb); (try clear hb); (try clear hb2); (try clear hk); (try clear hi)))
    go_ret
    exact ⟨by first | rfl | (simp [errW_none, errW_some] <;> rfl) | (simp [*, errW_none, errW_some] <;> rfl), bl_⟩
  · rw [if_neg c2] at H
    have c2b0 : (t197 == 0) = false := beq_eq_false_iff_ne.mpr c2
    have c2b1 : (t197 != 0) = true := bne_iff_ne.mpr c2
    obtain rfl := Option.some.inj H
    go_enter Tryz.func14, Tryz.ntmps14
    go_wp2_with (first | ((with_reducible refine gate_callee (f := 10) rfl ?_); refine gl_ (some 5) Tryz.func10 #[.agg #[.int .i64 0, .int .i64 5, .int .i64 0, .int .i64 0, .int .i64 0, .slice none 0 0, .slice none 0 0]] ?_; (refine (rules_Text.calls k 0 5 0 0 0 _ _ ([] : List (S66)) _ _ ([] : List (S68)) t196 t197 _ ?side1 ?side2 ?side3 ?side4 ?side5 A1.out).mono ?_); (case side1 => exact gw_ HG.out); (case side2 => exact Kd.C_nil _ _); (case side3 => exact Nat.le_refl _); (case side4 => exact Kd.C_nil _ _); (case side5 => exact Nat.le_refl _); rintro e w4 ⟨rfl, hb⟩; refine ⟨_, rfl, ?_⟩; replace HB := Aside0.mk (below_step bl_ hb); (try clear hb); (try clear hb2); (try clear hk); (try clear hi)))
    go_ret
    exact ⟨by first | rfl | (simp [errW_none, errW_some] <;> rfl) | (simp [*, errW_none, errW_some] <;> rfl), bl_⟩
def shape_Set_at.f (l0 : List (S118)) (a1 : Int) (a2 : Int) : Option (List Int × Int) := if (l0.length : Int) = 0 then (some (([] : List Int), a2)) else (if 0 < (l0.length : Int) then (if a1 < ((rd_T118 l0 0).f0) then (some (([] : List Int), mn a2 ((rd_T118 l0 0).f0))) else (some ((rd_T118 l0 0).f2, mn a2 ((rd_T118 l0 0).f1)))) else (none))
set_option maxHeartbeats 8000000 in
set_option maxRecDepth 100000 in
theorem shape_Set_at.calls (P0_ : Nat → Prop) (A0 : Option Addr) (c0 : Nat) (l0 : List (S118)) (a1 : Int) (a2 : Int) (r1 : List Int) (r2 : Int) (w : World) (hG : Tryz.GW w) (hs0 : Kd.V k118 118 w w.heap.size (fun k_ => P0_ k_) (.slice A0 l0.length c0) l0) (h : shape_Set_at.f l0 a1 a2 = some (r1, r2)) :
    Calls Tryz.prog 131 #[.slice A0 l0.length c0, .int .i64 a1, .int .i64 a2] w fun e w' => ∃ v0_ : Value, e = .returned (.tuple #[v0_, .int .i64 r2]) ∧ Kd.V (Kd.int .i64) 3 w' w.heap.size (fun k_ => (P0_ k_ ∨ w.heap.size ≤ k_)) v0_ r1 ∧ Below w.heap.size w w' := by
  have HO0 := Aside0.mk (show Kd.V k118 118 w w.heap.size (fun k_ => (P0_ k_ ∨ w.heap.size ≤ k_)) (.slice A0 l0.length c0) l0 from Kd.V_mono hs0 (fun k_ hk => .inl hk))
  have HG := Aside0.mk hG
  clear hG
  have HB := Aside0.mk (Below.refl w.heap.size w)
  have H : (if (l0.length : Int) = 0 then (some (([] : List Int), a2)) else (if 0 < (l0.length : Int) then (if a1 < ((rd_T118 l0 0).f0) then (some (([] : List Int), mn a2 ((rd_T118 l0 0).f0))) else (some ((rd_T118 l0 0).f2, mn a2 ((rd_T118 l0 0).f1)))) else (none))) = some (r1, r2) := h
  clear h
  by_cases c4 : (l0.length : Int) = 0
  · rw [if_pos c4] at H
    have c4b0 : ((l0.length : Int) == 0) = true := beq_iff_eq.mpr c4
    have c4b1 : ((l0.length : Int) != 0) = false := bne_eq_false_iff_eq.mpr c4
    clear c4
    simp only [Option.some.injEq, Prod.mk.injEq] at H
    obtain ⟨rfl, rfl⟩ := H
    go_enter Tryz.func131, Tryz.ntmps131
    go_wp2
    repeat (go_quiet (fail); try go_wp2)
    go_ret2
    exact ⟨_, by first | rfl | (simp [errW_none, errW_some] <;> rfl) | (simp [*, errW_none, errW_some] <;> rfl), Kd.V_nil _ _ _ _ _, bl_⟩
  · rw [if_neg c4] at H
    have c4b0 : ((l0.length : Int) == 0) = false := beq_eq_false_iff_ne.mpr c4
    have c4b1 : ((l0.length : Int) != 0) = true := bne_iff_ne.mpr c4
    have c4b2 : ¬ (l0 = []) := fun h_ => c4 (by rw [h_]; rfl)
    by_cases c5 : 0 < (l0.length : Int)
    · rw [if_pos c5] at H
      have c5b0 : decide (0 < (l0.length : Int)) = true := decide_eq_true c5
      have c5b1 : decide (0 < l0.length) = true := decide_eq_true (by omega)
      clear c5
      by_cases c6 : a1 < ((rd_T118 l0 0).f0)
      · rw [if_pos c6] at H
        have c6b0 : decide (a1 < ((rd_T118 l0 0).f0)) = true := decide_eq_true c6
        clear c6
        obtain ⟨ji7, hji7⟩ : ∃ j_ : Int, (mn a2 ((rd_T118 l0 0).f0)) = j_ := ⟨_, rfl⟩
        first | rw [hji7] at H | simp only [hji7] at H
        have hji7_ : (if ((rd_T118 l0 0).f0) < a2 then ((rd_T118 l0 0).f0) else a2) = ji7 := hji7
        simp only [Option.some.injEq, Prod.mk.injEq] at H
        obtain ⟨rfl, rfl⟩ := H
        have p198 : 0 ≤ (0 : Int) := (by omega)
        have q198 : 0 < (l0.length : Int) := dt_
        obtain ⟨ad198, A198_2, c198_2, e198, hx198_0, hx198_1, hx198_2, hl198_2, hi198_2⟩ := at_T118 (Kd.V_reads' HO0.out).2.2 0 p198 q198
        cases e198
        obtain ⟨ce198, hce198, hMe198, hcc198⟩ := Kd.V_get HO0.out z118 0 p198 (by first | exact q198 | exact dt_ | (have e_ := (Kd.V_reads' HO0.out).1; omega))
        obtain ⟨ua198_2, uc198_2, rfl, ul198_2, ge198_2⟩ := k118_openF hMe198
        have hv198_2 := hcc198 2 _ rfl
        rw [add_field _ _ 2 (by omega)] at hv198_2
        replace hv198_2 := Option.some.inj (hv198_2.symm.trans hx198_2)
        injection hv198_2 with hva_ hvn_ hvc_
        rw [hva_] at ge198_2
        rw [hvc_] at ul198_2
        have HL198_2 := Aside0.mk (show Kd.V (Kd.int .i64) 3 _ w.heap.size _ _ ((rd_T118 l0 0).f2) from Kd.V_mk ul198_2 ge198_2)
        clear hva_ hvn_ hvc_ ge198_2 ul198_2
        clear hcc198 hce198
        have qi198 : (0 < l0.length) = True := eq_true (by omega)
        (try rw [show ((0 : Int)).toNat = 0 from rfl] at hx198_0)
        (try rw [show 0 * 3 = 0 from rfl] at hx198_0)
        (try rw [Addr.add_zero'] at hx198_0)
        (try rw [show ((0 : Int)).toNat = 0 from rfl] at hx198_1)
        (try rw [show 0 * 3 = 0 from rfl] at hx198_1)
        (try rw [Addr.add_zero'] at hx198_1)
        (try rw [show ((0 : Int)).toNat = 0 from rfl] at hx198_2)
        (try rw [show 0 * 3 = 0 from rfl] at hx198_2)
        (try rw [Addr.add_zero'] at hx198_2)
        have HR198_2 := Aside0.mk hi198_2
        have HC198_2 := Aside0.mk hl198_2
        clear hi198_2 hl198_2
        replace p198 := eq_true p198
        replace q198 := eq_true q198
        have p199 : 0 ≤ (0 : Int) := (by omega)
        have q199 : 0 < (l0.length : Int) := dt_
        obtain ⟨ad199, A199_2, c199_2, e199, hx199_0, hx199_1, hx199_2, hl199_2, hi199_2⟩ := at_T118 (Kd.V_reads' HO0.out).2.2 0 p199 q199
        obtain rfl : ad198 = ad199 := (by injection e199)
        obtain ⟨ce199, hce199, hMe199, hcc199⟩ := Kd.V_get HO0.out z118 0 p199 (by first | exact q199 | exact dt_ | (have e_ := (Kd.V_reads' HO0.out).1; omega))
        obtain ⟨ua199_2, uc199_2, rfl, ul199_2, ge199_2⟩ := k118_openF hMe199
        have hv199_2 := hcc199 2 _ rfl
        rw [add_field _ _ 2 (by omega)] at hv199_2
        replace hv199_2 := Option.some.inj (hv199_2.symm.trans hx199_2)
        injection hv199_2 with hva_ hvn_ hvc_
        rw [hva_] at ge199_2
        rw [hvc_] at ul199_2
        have HL199_2 := Aside0.mk (show Kd.V (Kd.int .i64) 3 _ w.heap.size _ _ ((rd_T118 l0 0).f2) from Kd.V_mk ul199_2 ge199_2)
        clear hva_ hvn_ hvc_ ge199_2 ul199_2
        clear hcc199 hce199
        have qi199 : (0 < l0.length) = True := eq_true (by omega)
        (try rw [show ((0 : Int)).toNat = 0 from rfl] at hx199_0)
        (try rw [show 0 * 3 = 0 from rfl] at hx199_0)
        (try rw [Addr.add_zero'] at hx199_0)
        (try rw [show ((0 : Int)).toNat = 0 from rfl] at hx199_1)
        (try rw [show 0 * 3 = 0 from rfl] at hx199_1)
        (try rw [Addr.add_zero'] at hx199_1)
        (try rw [show ((0 : Int)).toNat = 0 from rfl] at hx199_2)
        (try rw [show 0 * 3 = 0 from rfl] at hx199_2)
        (try rw [Addr.add_zero'] at hx199_2)
        have HR199_2 := Aside0.mk hi199_2
        have HC199_2 := Aside0.mk hl199_2
        clear hi199_2 hl199_2
        replace p199 := eq_true p199
        replace q199 := eq_true q199
        have ea_ := Option.some.inj (hx198_2.symm.trans hx199_2)
        injection ea_ with ea_ en_ ec_
        subst ea_
        subst ec_
        clear en_
        go_enter Tryz.func131, Tryz.ntmps131
        go_wp2
        repeat (go_quiet (fail); try go_wp2)
        go_ret2
        exact ⟨_, by first | rfl | (simp [errW_none, errW_some] <;> rfl) | (simp only [← hji7]; first | rfl | (simp [errW_none, errW_some] <;> rfl)) | (simp [*, errW_none, errW_some] <;> rfl), Kd.V_nil _ _ _ _ _, bl_⟩
      · rw [if_neg c6] at H
        have c6b0 : decide (a1 < ((rd_T118 l0 0).f0)) = false := decide_eq_false c6
        clear c6
        obtain ⟨ji8, hji8⟩ : ∃ j_ : Int, (mn a2 ((rd_T118 l0 0).f1)) = j_ := ⟨_, rfl⟩
        first | rw [hji8] at H | simp only [hji8] at H
        have hji8_ : (if ((rd_T118 l0 0).f1) < a2 then ((rd_T118 l0 0).f1) else a2) = ji8 := hji8
        simp only [Option.some.injEq, Prod.mk.injEq] at H
        obtain ⟨rfl, rfl⟩ := H
        have p198 : 0 ≤ (0 : Int) := (by omega)
        have q198 : 0 < (l0.length : Int) := dt_
        obtain ⟨ad198, A198_2, c198_2, e198, hx198_0, hx198_1, hx198_2, hl198_2, hi198_2⟩ := at_T118 (Kd.V_reads' HO0.out).2.2 0 p198 q198
        cases e198
        obtain ⟨ce198, hce198, hMe198, hcc198⟩ := Kd.V_get HO0.out z118 0 p198 (by first | exact q198 | exact dt_ | (have e_ := (Kd.V_reads' HO0.out).1; omega))
        obtain ⟨ua198_2, uc198_2, rfl, ul198_2, ge198_2⟩ := k118_openF hMe198
        have hv198_2 := hcc198 2 _ rfl
        rw [add_field _ _ 2 (by omega)] at hv198_2
        replace hv198_2 := Option.some.inj (hv198_2.symm.trans hx198_2)
        injection hv198_2 with hva_ hvn_ hvc_
        rw [hva_] at ge198_2
        rw [hvc_] at ul198_2
        have HL198_2 := Aside0.mk (show Kd.V (Kd.int .i64) 3 _ w.heap.size _ _ ((rd_T118 l0 0).f2) from Kd.V_mk ul198_2 ge198_2)
        clear hva_ hvn_ hvc_ ge198_2 ul198_2
        clear hcc198 hce198
        have qi198 : (0 < l0.length) = True := eq_true (by omega)
        (try rw [show ((0 : Int)).toNat = 0 from rfl] at hx198_0)
        (try rw [show 0 * 3 = 0 from rfl] at hx198_0)
        (try rw [Addr.add_zero'] at hx198_0)
        (try rw [show ((0 : Int)).toNat = 0 from rfl] at hx198_1)
        (try rw [show 0 * 3 = 0 from rfl] at hx198_1)
        (try rw [Addr.add_zero'] at hx198_1)
        (try rw [show ((0 : Int)).toNat = 0 from rfl] at hx198_2)
        (try rw [show 0 * 3 = 0 from rfl] at hx198_2)
        (try rw [Addr.add_zero'] at hx198_2)
        have HR198_2 := Aside0.mk hi198_2
        have HC198_2 := Aside0.mk hl198_2
        clear hi198_2 hl198_2
        replace p198 := eq_true p198
        replace q198 := eq_true q198
        have p200 : 0 ≤ (0 : Int) := (by omega)
        have q200 : 0 < (l0.length : Int) := dt_
        obtain ⟨ad200, A200_2, c200_2, e200, hx200_0, hx200_1, hx200_2, hl200_2, hi200_2⟩ := at_T118 (Kd.V_reads' HO0.out).2.2 0 p200 q200
        obtain rfl : ad198 = ad200 := (by injection e200)
        obtain ⟨ce200, hce200, hMe200, hcc200⟩ := Kd.V_get HO0.out z118 0 p200 (by first | exact q200 | exact dt_ | (have e_ := (Kd.V_reads' HO0.out).1; omega))
        obtain ⟨ua200_2, uc200_2, rfl, ul200_2, ge200_2⟩ := k118_openF hMe200
        have hv200_2 := hcc200 2 _ rfl
        rw [add_field _ _ 2 (by omega)] at hv200_2
        replace hv200_2 := Option.some.inj (hv200_2.symm.trans hx200_2)
        injection hv200_2 with hva_ hvn_ hvc_
        rw [hva_] at ge200_2
        rw [hvc_] at ul200_2
        have HL200_2 := Aside0.mk (show Kd.V (Kd.int .i64) 3 _ w.heap.size _ _ ((rd_T118 l0 0).f2) from Kd.V_mk ul200_2 ge200_2)
        clear hva_ hvn_ hvc_ ge200_2 ul200_2
        clear hcc200 hce200
        have qi200 : (0 < l0.length) = True := eq_true (by omega)
        (try rw [show ((0 : Int)).toNat = 0 from rfl] at hx200_0)
        (try rw [show 0 * 3 = 0 from rfl] at hx200_0)
        (try rw [Addr.add_zero'] at hx200_0)
        (try rw [show ((0 : Int)).toNat = 0 from rfl] at hx200_1)
        (try rw [show 0 * 3 = 0 from rfl] at hx200_1)
        (try rw [Addr.add_zero'] at hx200_1)
        (try rw [show ((0 : Int)).toNat = 0 from rfl] at hx200_2)
        (try rw [show 0 * 3 = 0 from rfl] at hx200_2)
        (try rw [Addr.add_zero'] at hx200_2)
        have HR200_2 := Aside0.mk hi200_2
        have HC200_2 := Aside0.mk hl200_2
        clear hi200_2 hl200_2
        replace p200 := eq_true p200
        replace q200 := eq_true q200
        have ea_ := Option.some.inj (hx198_2.symm.trans hx200_2)
        injection ea_ with ea_ en_ ec_
        subst ea_
        subst ec_
        clear en_
        have p201 : 0 ≤ (0 : Int) := (by omega)
        have q201 : 0 < (l0.length : Int) := dt_
        obtain ⟨ad201, A201_2, c201_2, e201, hx201_0, hx201_1, hx201_2, hl201_2, hi201_2⟩ := at_T118 (Kd.V_reads' HO0.out).2.2 0 p201 q201
        obtain rfl : ad198 = ad201 := (by injection e201)
        obtain ⟨ce201, hce201, hMe201, hcc201⟩ := Kd.V_get HO0.out z118 0 p201 (by first | exact q201 | exact dt_ | (have e_ := (Kd.V_reads' HO0.out).1; omega))
        obtain ⟨ua201_2, uc201_2, rfl, ul201_2, ge201_2⟩ := k118_openF hMe201
        have hv201_2 := hcc201 2 _ rfl
        rw [add_field _ _ 2 (by omega)] at hv201_2
        replace hv201_2 := Option.some.inj (hv201_2.symm.trans hx201_2)
        injection hv201_2 with hva_ hvn_ hvc_
        rw [hva_] at ge201_2
        rw [hvc_] at ul201_2
        have HL201_2 := Aside0.mk (show Kd.V (Kd.int .i64) 3 _ w.heap.size _ _ ((rd_T118 l0 0).f2) from Kd.V_mk ul201_2 ge201_2)
        clear hva_ hvn_ hvc_ ge201_2 ul201_2
        clear hcc201 hce201
        have qi201 : (0 < l0.length) = True := eq_true (by omega)
        (try rw [show ((0 : Int)).toNat = 0 from rfl] at hx201_0)
        (try rw [show 0 * 3 = 0 from rfl] at hx201_0)
        (try rw [Addr.add_zero'] at hx201_0)
        (try rw [show ((0 : Int)).toNat = 0 from rfl] at hx201_1)
        (try rw [show 0 * 3 = 0 from rfl] at hx201_1)
        (try rw [Addr.add_zero'] at hx201_1)
        (try rw [show ((0 : Int)).toNat = 0 from rfl] at hx201_2)
        (try rw [show 0 * 3 = 0 from rfl] at hx201_2)
        (try rw [Addr.add_zero'] at hx201_2)
        have HR201_2 := Aside0.mk hi201_2
        have HC201_2 := Aside0.mk hl201_2
        clear hi201_2 hl201_2
        replace p201 := eq_true p201
        replace q201 := eq_true q201
        have ea_ := Option.some.inj (hx198_2.symm.trans hx201_2)
        injection ea_ with ea_ en_ ec_
        subst ea_
        subst ec_
        clear en_
        go_enter Tryz.func131, Tryz.ntmps131
        go_wp2
        repeat (go_quiet (fail); try go_wp2)
        go_ret2
        exact ⟨_, by first | rfl | (simp [errW_none, errW_some] <;> rfl) | (simp only [← hji8]; first | rfl | (simp [errW_none, errW_some] <;> rfl)) | (simp [*, errW_none, errW_some] <;> rfl), vv_ HL200_2, bl_⟩
    · rw [if_neg c5] at H
      exact absurd H (by simp)
def shape_Set_Less_1.f (a0 : Bool) (a1 : Bool) : Option (Bool) := if a0 = true then (some (!a1)) else (some false)
set_option maxHeartbeats 8000000 in
set_option maxRecDepth 100000 in
theorem shape_Set_Less_1.calls (a0 : Bool) (a1 : Bool) (r : Bool) (w : World) (hG : Tryz.GW w) (h : shape_Set_Less_1.f a0 a1 = some r) :
    Calls Tryz.prog 97 #[.bool a0, .bool a1] w fun e w' => e = .returned (.bool r) ∧ Drawn0 w w' := by
  have HG := Aside0.mk hG
  clear hG
  have H : (if a0 = true then (some (!a1)) else (some false)) = some r := h
  clear h
  by_cases c3 : a0 = true
  · subst c3
    rw [if_pos rfl] at H
    obtain rfl := Option.some.inj H
    go_enter Tryz.func97, Tryz.ntmps97
    go_wp2
    go_ret
    exact ⟨by first | rfl | (simp; done) | (simp [*]; done), by repeat (first | exact Drawn0.refl _ | apply Drawn0.step)⟩
  · replace c3 := Bool.eq_false_iff.mpr c3
    subst c3
    rw [if_neg (show ¬ (false = true) by decide)] at H
    obtain rfl := Option.some.inj H
    go_enter Tryz.func97, Tryz.ntmps97
    go_wp2
    go_ret
    exact ⟨by first | rfl | (simp; done) | (simp [*]; done), by repeat (first | exact Drawn0.refl _ | apply Drawn0.step)⟩
end Go.Proofs.YthkeonbmgcphkaaGreatDoor.PT
