-- Written by this session's own programs (wip/tools).
import Derived.Test.YthkeonbmgcphkaaGreatDoorEPBx0
import Derived.Test.YthkeonbmgcphkaaGreatDoorEPBx2
import Derived.Test.YthkeonbmgcphkaaGreatDoorEPBx7
import Derived.Test.YthkeonbmgcphkaaGreatDoorEPBx9
namespace Go.Proofs.YthkeonbmgcphkaaGreatDoor.PB
open Go.RowKit Go.Proofs.YthkeonbmgcphkaaGreatDoorW.PrintWords Go.Proofs.YthkeonbmgcphkaaGreatDoorW.PrintLast Go.Proofs.YthkeonbmgcphkaaGreatDoorW.PrintMore
attribute [local go_sem] max2_int min2_int max_two min_two max_three min_three max_four min_four
set_option linter.unusedVariables false
set_option linter.unusedSimpArgs false
theorem rules_Text.goesV {P : Program} {ops : Array Oper} {Q : Exit → Act → World → Prop} {oi : Oper} {N : Option Tmp} {a : Act} {w : World} {K : Act → World → Prop} {f : FuncId} {fn : Func} {x : Operand} {ags : Array Operand} {ts : Array TypeId} {cap : Array Value} (hf : P.funcs[f]? = some fn) (hname : (fn.name == "runtime.NumGoroutine") = false) (hb : fn.body.isSome = true) (args : Array Value)
    (hw : Region.wanted oi (yielded ops a.tmps) = true) (hN : oi.dst = N) (hop : oi.op = .call { callee := .value x, args := ags, argTypes := ts }) (hx : a.eval x = .func (.func f) #[] cap) (hargs : ags.map a.eval ++ cap = args)
    (h : Calls P f args w fun e w' => ∃ v, e = .returned v ∧ K (a.put N v) w') : if Region.wanted oi (yielded ops a.tmps) = true then Oper.wp P oi a w K Q else K (a.put N undef) w := by
  refine call_ f args hw hN ?_ h
  have he := enters_ hf hname hb args w
  unfold execOp
  simp [hop, resolve, Deferred.ofValue, invoke, hx, hargs, he]
theorem rules_Text.bld_below {T e : TypeId} {B b : Nat} {bs : List Value} {W W' : World} (h : Lib.IsBuilder T e B b bs W) (hb : Below W.heap.size W W') : Lib.IsBuilder T e B b bs W' := by
  have go : ∀ p, Lib.BuilderAt T e B b p bs W → Lib.BuilderAt T e B b p bs W' := by
    intro p h
    have hlt := h.lt
    obtain ⟨hB, v, hbk, hown, hne⟩ := h
    exact ⟨hB, v, (hb.block b hlt).trans hbk, hown.kept (row := none) ⟨hb.os, hb.tape, hb.output, hb.size, fun i hi _ => hb.block i hi⟩ (by simp; exact Classical.em _), hne⟩
  rcases h with h | h
  · exact .inl (go _ h)
  · exact .inr (go _ h)
def rules_Text.lineB (ws : List ByteArray) : List UInt8 := Lib.join (ws.map (·.data.toList)) [32] ++ [10]
theorem rules_Text.line_str (ws : List ByteArray) : ((⟨(Lib.join (ws.map (·.data.toList)) [32]).toArray⟩ : ByteArray) ++ ⟨#[10]⟩) = ⟨(rules_Text.lineB ws).toArray⟩ := by
  unfold rules_Text.lineB
  have h : (⟨#[10]⟩ : ByteArray) = ⟨([10] : List UInt8).toArray⟩ := rfl
  rw [h, ByteArray.mk_append_mk]
theorem rules_Text.line_cells (acc : List UInt8) (ws : List ByteArray) : Lib.byteCells acc ++ Lib.strCells ((⟨(Lib.join (ws.map (·.data.toList)) [32]).toArray⟩ : ByteArray) ++ ⟨#[10]⟩) = Lib.byteCells (acc ++ rules_Text.lineB ws) := by
  rw [rules_Text.line_str]
  unfold Lib.byteCells Lib.strCells
  rw [List.map_append]
theorem rules_Text.line_size (ws : List ByteArray) : ((⟨(Lib.join (ws.map (·.data.toList)) [32]).toArray⟩ : ByteArray) ++ ⟨#[10]⟩).size = (rules_Text.lineB ws).length := by
  rw [rules_Text.line_str]
  unfold ByteArray.size
  exact List.size_toArray
def rules_Text.num (n : Int) : ByteArray := ⟨(Lib.itoa n).toArray⟩
def rules_Text.inI (n : Int) : Prop := -9223372036854775808 ≤ n ∧ n ≤ 9223372036854775807
instance (n : Int) : Decidable (rules_Text.inI n) := by unfold rules_Text.inI; infer_instance
def rules_Text.w1 (a0 a1 a2 a3 a4 : Int) : List ByteArray := [⟨#[114, 117, 108, 101, 115]⟩, rules_Text.num a0, rules_Text.num a1, rules_Text.num a2, rules_Text.num a3, rules_Text.num a4]
def rules_Text.f (k : Nat) (a0_0 : Int) (a0_1 : Int) (a0_2 : Int) (a0_3 : Int) (a0_4 : Int) (l0_5 : List (S66)) (l0_6 : List (S68)) : Option (ByteArray × Int) := (rules_CheckRules.f k a0_0 a0_1 a0_2 a0_3 a0_4 l0_5 l0_6).bind fun t => if t = 0 then (if rules_Text.inI a0_0 ∧ rules_Text.inI a0_1 ∧ rules_Text.inI a0_2 ∧ rules_Text.inI a0_3 ∧ rules_Text.inI a0_4 then (if l0_5.length = 0 then (if l0_6.length = 0 then (if (rules_Text.lineB (rules_Text.w1 a0_0 a0_1 a0_2 a0_3 a0_4)).length ≤ 200000 then some (⟨(rules_Text.lineB (rules_Text.w1 a0_0 a0_1 a0_2 a0_3 a0_4)).toArray⟩, 0) else none) else none) else none) else none) else some (⟨#[]⟩, t)
theorem rules_Text.mono : ∀ y0 y1 y2 y3 y4 y5 y6 k, LeO (rules_Text.f k y0 y1 y2 y3 y4 y5 y6) (rules_Text.f (k + 1) y0 y1 y2 y3 y4 y5 y6) := by
  intro y0 y1 y2 y3 y4 y5 y6 k
  unfold rules_Text.f
  exact LeO.bind (rules_CheckRules.mono _ _ _ _ _ _ _ _) fun t => LeO.refl _
theorem rules_Text.itoa_some {n : Int} (h : rules_Text.inI n) : strconv_Itoa.f n = some (rules_Text.num n) := by
  unfold strconv_Itoa.f
  rw [if_pos h.1, if_pos h.2]
  rfl
structure rules_Text.Ctx (w0 w : World) (gb b : Nat) (a0_0 a0_1 a0_2 a0_3 a0_4 : Int) (v5 v6 : Value) (acc : List UInt8) : Prop where
  below : Below w0.heap.size w0 w
  bk : w.heap[gb]? = some (.cells #[.int .i64 a0_0, .int .i64 a0_1, .int .i64 a0_2, .int .i64 a0_3, .int .i64 a0_4, v5, v6] 25 (0, 0))
  ge : w0.heap.size ≤ gb
  lt : gb < b
  bld : Lib.IsBuilder 56 5 b b (Lib.byteCells acc) w
variable {w0 w w' : World} {gb b : Nat} {a0_0 a0_1 a0_2 a0_3 a0_4 : Int} {v5 v6 : Value} {acc acc' : List UInt8}
theorem rules_Text.Ctx.step (h : rules_Text.Ctx w0 w gb b a0_0 a0_1 a0_2 a0_3 a0_4 v5 v6 acc) (hb : Below w.heap.size w w') : rules_Text.Ctx w0 w' gb b a0_0 a0_1 a0_2 a0_3 a0_4 v5 v6 acc :=
  ⟨below_step h.below hb, blk_below h.bk hb, h.ge, h.lt, rules_Text.bld_below h.bld hb⟩
theorem rules_Text.Ctx.lined (h : rules_Text.Ctx w0 w gb b a0_0 a0_1 a0_2 a0_3 a0_4 v5 v6 acc) (hl : Lib.IsBuilder 56 5 b b (Lib.byteCells acc') w') (hb : Below b w w') : rules_Text.Ctx w0 w' gb b a0_0 a0_1 a0_2 a0_3 a0_4 v5 v6 acc' :=
  ⟨h.below.trans (hb.mono (Nat.le_of_lt (Nat.lt_of_le_of_lt h.ge h.lt))), (hb.block gb h.lt).trans h.bk, h.ge, h.lt, hl⟩
theorem rules_Text.Ctx.cells (h : rules_Text.Ctx w0 w gb b a0_0 a0_1 a0_2 a0_3 a0_4 v5 v6 acc) : w.cell? ⟨gb, 0, none⟩ = some (.int .i64 a0_0) ∧ w.cell? ⟨gb, 1, none⟩ = some (.int .i64 a0_1) ∧ w.cell? ⟨gb, 2, none⟩ = some (.int .i64 a0_2) ∧ w.cell? ⟨gb, 3, none⟩ = some (.int .i64 a0_3) ∧ w.cell? ⟨gb, 4, none⟩ = some (.int .i64 a0_4) :=
  ⟨(blk_cell h.bk 0).trans rfl, (blk_cell h.bk 1).trans rfl, (blk_cell h.bk 2).trans rfl, (blk_cell h.bk 3).trans rfl, (blk_cell h.bk 4).trans rfl⟩
set_option maxHeartbeats 8000000 in
set_option maxRecDepth 100000 in
theorem rules_Text.line (b : Nat) (acc : List UInt8) (word : ByteArray) (A : Option Addr) (c : Nat) (more : List ByteArray) (w : World) (hB : Lib.IsBuilder 56 5 b b (Lib.byteCells acc) w) (hr : Kd.C Kd.string w A more.length more) (hc : more.length ≤ c) (hm : more.length ≤ 1000000)
    (hlen : acc.length + (rules_Text.lineB (word :: more)).length ≤ 140737488355328) :
    Calls Tryz.prog 25 #[.string word, .slice A more.length c, .pointer (some ⟨b, 0, none⟩)] w fun e w' => e = .returned (.tuple #[]) ∧ Lib.IsBuilder 56 5 b b (Lib.byteCells (acc ++ rules_Text.lineB (word :: more))) w' ∧ Below b w w' := by
  have hbw : b < w.heap.size := by rcases hB with h | h <;> exact h.lt
  have hJ : (Lib.join (word.data.toList :: List.map (fun x => x.data.toList) more) [32]).length + 1 ≤ 140737488355328 := by
    have h := hlen
    unfold rules_Text.lineB at h
    rw [List.length_append] at h
    exact Nat.le_trans (Nat.le_add_left _ _) h
  have HBD := Aside0.mk hB
  have HR := Aside0.mk hr
  have HC := Aside0.mk hc
  have HM := Aside0.mk hm
  have HL := Aside0.mk hlen
  clear hB hr hc hm hlen
  have hu9 := Tryz.underlying9
  go_enter Tryz.func25, Tryz.ntmps25
  go_wp2_with (first | ((with_reducible refine gate_dst (N := 6) rfl ?_); refine Kd.R_lit Kd.string _ 9 ?hg (N := 6) ?hd (xs := ([word] : List ByteArray)) (inner := [.string word]) (ok := fun _ => True) (okp := fun _ => True) ?hr ?hp (fun _ hk => hk) trivial (Below.refl w.heap.size w) (Nat.le_refl _) (by simp) ?_; (case hd => rfl); (case hg => rfl); (case hr => first | (go_simp; done) | (go_simp; rfl)); (case hp => exact (Reps.one (show Kd.M Kd.string _ _ _ word [.string word] from rfl) (Reps.none _ _))); intro v1 w1 ho hb hg_ hnew_; have HO := Aside0.mk ho; have HB := Aside0.mk hb; clear hg_ hnew_ ho hb; obtain ⟨A1, c1, e1⟩ := Kd.R_slice HO.out; subst e1) | ((with_reducible refine gate_builtin (b := .append) (xs := #[.tmp 6, .tmp 7]) rfl ?_); at_builtin; refine Kd.R_append_rows Kd.string (w0 := w) w.heap.size rfl (.tmp 6) (.tmp 7) 57 9 (.string ⟨#[]⟩) 16 rfl Tryz.underlying57 info9 rfl (by decide) (by omega) (.slice A1 [word].length c1) ([word] : List ByteArray) more _ _ _ (fun _ => True) (fun _ => False) rfl rfl ?aO ?aR (fun _ _ h => h) (fun _ h => h.elim) ?aF ?aB ?aS ?aL ?_; (case aR => exact Kd.C_below HR.out HB.out); (case aO => exact HO.out); (case aF => exact fun _ _ => trivial); (case aB => exact HB.out); (case aS => exact HB.out.size); (case aL => have := HM.out; simp only [List.length_cons, List.length_nil]; omega); intro v2 w2 ho hb hg_ hnew_; have HO2 : Aside0 (Kd.R Kd.string 9 w2 w.heap.size (fun _ => True) v2 (word :: more)) := Aside0.mk ho; have HB2 := Aside0.mk hb; clear hg_ hnew_ ho hb HO HB; obtain ⟨g2, c2, e2, hg2, hg2', _⟩ := Kd.R_form HO2.out (by simp); subst e2) | (go_at_call 27; (refine (Tryz.strings_Join g2 0 c2 (word :: more) ⟨#[32]⟩ _ (fun j x hx => ?jc) ?jb ?jn ?jk ?jl).mono ?_; (case jc => have hj := (List.getElem?_eq_some_iff.1 hx).1; have h1 := (Kd.R_cell ByteArray.empty HO2.out (j : Int) (by omega) (by omega)).1; rw [Int.toNat_natCast] at h1; rw [show rdOf ByteArray.empty (word :: more) (j : Int) = x by unfold rdOf; rw [Int.toNat_natCast, List.getD_eq_getElem?_getD, hx]; rfl] at h1; rw [Nat.zero_add]; exact h1); (case jb => exact hg2'); (case jn => have := HM.out; simp only [List.length_cons]; omega); (case jk => exact (Kd.R_reads' HO2.out).2.1); (case jl => have := HL.out; unfold rules_Text.lineB at this; rw [List.length_append] at this; exact Nat.le_trans (Nat.le_trans (Nat.le_add_right _ _) (Nat.le_add_left _ _)) this); rintro e w3 ⟨rfl, hb⟩; have HB3 := Aside0.mk (below_step HB2.out hb); clear hb)) | (go_at_call 26; (refine (Tryz.Builder_WriteString b b (Lib.byteCells acc) _ _ (rules_Text.bld_below HBD.out HB3.out) ?wl (Nat.le_trans (Nat.le_of_lt hbw) HB3.out.size)).mono ?_; (case wl => rw [Lib.byteCells_length]; exact Nat.le_trans (Nat.le_of_eq (congrArg (acc.length + ·) (rules_Text.line_size (word :: more)))) HL.out); rintro e w4 ⟨rfl, hat, hb⟩; have HF := Aside0.mk hat; have HB4 := Aside0.mk hb; clear hat hb)))
  go_end0
  refine ⟨rfl, ?_, (HB3.out.mono (Nat.le_of_lt hbw)).trans HB4.out⟩
  have := HF.out
  exact .inr (by rw [← rules_Text.line_cells acc (word :: more)]; exact this)
set_option maxHeartbeats 8000000 in
set_option maxRecDepth 100000 in
theorem rules_Text.calls (k : Nat) (a0_0 : Int) (a0_1 : Int) (a0_2 : Int) (a0_3 : Int) (a0_4 : Int) (A0_5 : Option Addr) (c0_5 : Nat) (l0_5 : List (S66)) (A0_6 : Option Addr) (c0_6 : Nat) (l0_6 : List (S68)) (r1 : ByteArray) (r2 : Int) (w : World) (hG : Tryz.GW w) (hr0_5 : Kd.C k66 w A0_5 l0_5.length l0_5) (hc0_5 : l0_5.length ≤ c0_5) (hr0_6 : Kd.C k68 w A0_6 l0_6.length l0_6) (hc0_6 : l0_6.length ≤ c0_6) (h : rules_Text.f k a0_0 a0_1 a0_2 a0_3 a0_4 l0_5 l0_6 = some (r1, r2)) :
    Calls Tryz.prog 10 #[.agg #[.int .i64 a0_0, .int .i64 a0_1, .int .i64 a0_2, .int .i64 a0_3, .int .i64 a0_4, .slice A0_5 l0_5.length c0_5, .slice A0_6 l0_6.length c0_6]] w fun e w' => e = .returned (.tuple #[.string r1, .int .i64 r2]) ∧ Below w.heap.size w w' := by
  have hu25 := Tryz.underlying25
  have HG := Aside0.mk hG
  have HR5 := Aside0.mk hr0_5
  have HC5 := Aside0.mk hc0_5
  have HR6 := Aside0.mk hr0_6
  have HC6 := Aside0.mk hc0_6
  have HB := Aside0.mk (Below.refl w.heap.size w)
  clear hG hr0_5 hc0_5 hr0_6 hc0_6
  unfold rules_Text.f at h
  obtain ⟨t, ht, h⟩ := Option.bind_eq_some_iff.1 h
  have HT := Aside0.mk ht
  have H := Aside0.mk h
  clear ht h
  have hmf : ∀ (fn : Fn) (first cap : Array Value) (w : World), (Instr.makeFunc fn first cap).run Tryz.prog w = .ok (.func fn first cap) w := fun _ _ _ _ => rfl
  by_cases ht0 : t = 0
  · subst ht0
    go_enter Tryz.func10, Tryz.ntmps10
    go_upto_region 4 with (first | ((with_reducible refine gate_dst (N := 1) rfl ?_); refine box_event ?hg (N := 1) ?hd (cs := #[.int .i64 a0_0, .int .i64 a0_1, .int .i64 a0_2, .int .i64 a0_3, .int .i64 a0_4, .slice A0_5 l0_5.length c0_5, .slice A0_6 l0_6.length c0_6]) (t := 25) ?hr ?_; (case hd => rfl); (case hg => rfl); (case hr => first | (go_simp; done) | (go_simp; rfl)); intro gb hg w2 hbox hb; have BK := Aside0.mk hbox; have n1 := Aside0.mk (below_step HB.out hb); have GB : w.heap.size ≤ gb := (by rw [hg]; exact HB.out.size); clear HB; have HB := n1; clear n1 hb hbox hg; have hcz_0 : w2.cell? ⟨gb, 0, none⟩ = some (.int .i64 a0_0) := (blk_cell BK.out 0).trans rfl; have hcz_1 : w2.cell? ⟨gb, 1, none⟩ = some (.int .i64 a0_1) := (blk_cell BK.out 1).trans rfl; have hcz_2 : w2.cell? ⟨gb, 2, none⟩ = some (.int .i64 a0_2) := (blk_cell BK.out 2).trans rfl; have hcz_3 : w2.cell? ⟨gb, 3, none⟩ = some (.int .i64 a0_3) := (blk_cell BK.out 3).trans rfl; have hcz_4 : w2.cell? ⟨gb, 4, none⟩ = some (.int .i64 a0_4) := (blk_cell BK.out 4).trans rfl; have hcz_5 : w2.cell? ⟨gb, 5, none⟩ = some (.slice A0_5 l0_5.length c0_5) := (blk_cell BK.out 5).trans rfl; have hcz_6 : w2.cell? ⟨gb, 6, none⟩ = some (.slice A0_6 l0_6.length c0_6) := (blk_cell BK.out 6).trans rfl) | (go_at_call 12; refine (rules_CheckRules.calls k a0_0 a0_1 a0_2 a0_3 a0_4 A0_5 c0_5 l0_5 A0_6 c0_6 l0_6 0 _ (Tryz.gw_below HG.out HB.out) (Kd.C_below HR5.out HB.out) HC5.out (Kd.C_below HR6.out HB.out) HC6.out HT.out).mono ?_; rintro e w3 ⟨rfl, hb⟩; have BK2 := Aside0.mk (blk_below BK.out hb); have n1 := Aside0.mk (below_step HB.out hb); clear HB; have HB := n1; clear n1 hb))
    have h := H.out
    first | rw [if_pos rfl] at h | rw [if_true] at h
    by_cases hi : rules_Text.inI a0_0 ∧ rules_Text.inI a0_1 ∧ rules_Text.inI a0_2 ∧ rules_Text.inI a0_3 ∧ rules_Text.inI a0_4
    case neg => rw [if_neg hi] at h; cases h
    rw [if_pos hi] at h
    by_cases h5 : l0_5.length = 0
    case neg => rw [if_neg h5] at h; cases h
    rw [if_pos h5] at h
    by_cases h6 : l0_6.length = 0
    case neg => rw [if_neg h6] at h; cases h
    rw [if_pos h6] at h
    by_cases hsz : (rules_Text.lineB (rules_Text.w1 a0_0 a0_1 a0_2 a0_3 a0_4)).length ≤ 200000
    case neg => rw [if_neg hsz] at h; cases h
    rw [if_pos hsz] at h
    obtain ⟨rfl, rfl⟩ := Prod.mk.inj (Option.some.inj h)
    have HI := Aside0.mk hi
    have H5 := Aside0.mk h5
    have H6 := Aside0.mk h6
    have HSZ := Aside0.mk hsz
    clear h H HT hi h5 h6 hsz hcz_0 hcz_1 hcz_2 hcz_3 hcz_4 hcz_5 hcz_6 BK
    go_upto_region 7 with (((with_reducible refine gate_dst (N := 5) rfl ?_); refine box_event ?hg (N := 5) ?hd (cs := #[.pointer none, .slice none 0 0]) (t := 56) ?hr ?_; (case hd => rfl); (case hg => rfl); (case hr => first | (go_simp; done) | (go_simp; rfl)); intro b hg w4 hbox hb; have JC : Aside0 (rules_Text.Ctx w w4 gb b a0_0 a0_1 a0_2 a0_3 a0_4 (.slice A0_5 l0_5.length c0_5) (.slice A0_6 l0_6.length c0_6) []) := ⟨⟨below_step HB.out hb, blk_below BK2.out hb, GB, by rw [hg]; exact blk_lt BK2.out, .inl ⟨Nat.le_refl _, _, hbox, World.ownsRow_nil _ _ _ _, by simp [Value.ownBlock]⟩⟩⟩; clear hg hb hbox))
    go_wp2
    have JX := Aside0.mk (JC.out.step (below_drew1 (Below.refl _ _)))
    clear JC HB BK2
    have JC := JX
    clear JX
    refine start_ (n := 23) (S := (fun w' => w'.cell? ⟨gb, 0, none⟩ = some (.int .i64 a0_0) ∧ w'.cell? ⟨gb, 1, none⟩ = some (.int .i64 a0_1) ∧ w'.cell? ⟨gb, 2, none⟩ = some (.int .i64 a0_2) ∧ w'.cell? ⟨gb, 3, none⟩ = some (.int .i64 a0_3) ∧ w'.cell? ⟨gb, 4, none⟩ = some (.int .i64 a0_4))) (ds := []) #[false, false, false, false, false, false, false, false, false, false, false, false, false, false, false, false, false, false, false, false, false, false, false] (by kernel_rfl) rfl rfl JC.out.cells (fun hHeld => ?_)
    generalize w4.drew = w5 at JC hHeld ⊢
    refine pure_ (i := 0) (N := some 21) (v := ?_) (a' := ?_) #[true, false, false, false, false, false, false, false, false, false, false, false, false, false, false, false, false, false, false, false, false, false, false] rfl rfl (by kernel_rfl) (fun _ _ _ h => h) (Or.inl ⟨by rfl, ?_⟩) ?_ ?_
    rotate_left
    · intro w'
      go_simp
      with_reducible rfl
    rotate_left
    · simp only [Act.put, List.setIfInBounds_toArray, List.set_cons_zero, List.set_cons_succ, i64_w, i32_w]
      rfl
    refine pure_ (i := 1) (N := some 22) (v := ?_) (a' := ?_) #[true, true, false, false, false, false, false, false, false, false, false, false, false, false, false, false, false, false, false, false, false, false, false] rfl rfl (by kernel_rfl) (fun _ _ _ h => h) (Or.inl ⟨by rfl, ?_⟩) ?_ ?_
    rotate_left
    · intro w'
      go_simp
      with_reducible rfl
    rotate_left
    · simp only [Act.put, List.setIfInBounds_toArray, List.set_cons_zero, List.set_cons_succ, i64_w, i32_w]
      rfl
    refine pure_ (i := 2) (N := some 23) (v := ?_) (a' := ?_) #[true, true, true, false, false, false, false, false, false, false, false, false, false, false, false, false, false, false, false, false, false, false, false] rfl rfl (by kernel_rfl) (fun _ _ _ h => h) (Or.inl ⟨by rfl, ?_⟩) ?_ ?_
    rotate_left
    · intro w'
      go_simp
      with_reducible rfl
    rotate_left
    · simp only [Act.put, List.setIfInBounds_toArray, List.set_cons_zero, List.set_cons_succ, i64_w, i32_w]
      rfl
    refine take_ (i := 3) (N := some 24) (v := ?_) (a' := ?_) #[true, true, true, true, false, false, false, false, false, false, false, false, false, false, false, false, false, false, false, false, false, false, false] rfl rfl (by kernel_rfl) (fun _ _ _ h => h) (Or.inl ⟨by rfl, ?_⟩) hHeld ?_ ?_
    rotate_left
    · rintro w' ⟨s0, s1, s2, s3, s4⟩
      go_simp
      with_reducible rfl
    rotate_left
    · simp only [Act.put, List.setIfInBounds_toArray, List.set_cons_zero, List.set_cons_succ, i64_w, i32_w]
      rfl
    refine pure_ (i := 5) (N := some 26) (v := ?_) (a' := ?_) #[true, true, true, true, false, true, false, false, false, false, false, false, false, false, false, false, false, false, false, false, false, false, false] rfl rfl (by kernel_rfl) (fun _ _ _ h => h) (Or.inl ⟨by rfl, ?_⟩) ?_ ?_
    rotate_left
    · intro w'
      go_simp
      with_reducible rfl
    rotate_left
    · simp only [Act.put, List.setIfInBounds_toArray, List.set_cons_zero, List.set_cons_succ, i64_w, i32_w]
      rfl
    refine pure_ (i := 6) (N := some 27) (v := ?_) (a' := ?_) #[true, true, true, true, false, true, true, false, false, false, false, false, false, false, false, false, false, false, false, false, false, false, false] rfl rfl (by kernel_rfl) (fun _ _ _ h => h) (Or.inl ⟨by rfl, ?_⟩) ?_ ?_
    rotate_left
    · intro w'
      go_simp
      with_reducible rfl
    rotate_left
    · simp only [Act.put, List.setIfInBounds_toArray, List.set_cons_zero, List.set_cons_succ, i64_w, i32_w]
      rfl
    refine take_ (i := 7) (N := some 28) (v := ?_) (a' := ?_) #[true, true, true, true, false, true, true, true, false, false, false, false, false, false, false, false, false, false, false, false, false, false, false] rfl rfl (by kernel_rfl) (fun _ _ _ h => h) (Or.inl ⟨by rfl, ?_⟩) hHeld ?_ ?_
    rotate_left
    · rintro w' ⟨s0, s1, s2, s3, s4⟩
      go_simp
      with_reducible rfl
    rotate_left
    · simp only [Act.put, List.setIfInBounds_toArray, List.set_cons_zero, List.set_cons_succ, i64_w, i32_w]
      rfl
    refine pure_ (i := 9) (N := some 30) (v := ?_) (a' := ?_) #[true, true, true, true, false, true, true, true, false, true, false, false, false, false, false, false, false, false, false, false, false, false, false] rfl rfl (by kernel_rfl) (fun _ _ _ h => h) (Or.inl ⟨by rfl, ?_⟩) ?_ ?_
    rotate_left
    · intro w'
      go_simp
      with_reducible rfl
    rotate_left
    · simp only [Act.put, List.setIfInBounds_toArray, List.set_cons_zero, List.set_cons_succ, i64_w, i32_w]
      rfl
    refine pure_ (i := 10) (N := some 31) (v := ?_) (a' := ?_) #[true, true, true, true, false, true, true, true, false, true, true, false, false, false, false, false, false, false, false, false, false, false, false] rfl rfl (by kernel_rfl) (fun _ _ _ h => h) (Or.inl ⟨by rfl, ?_⟩) ?_ ?_
    rotate_left
    · intro w'
      go_simp
      with_reducible rfl
    rotate_left
    · simp only [Act.put, List.setIfInBounds_toArray, List.set_cons_zero, List.set_cons_succ, i64_w, i32_w]
      rfl
    refine take_ (i := 11) (N := some 32) (v := ?_) (a' := ?_) #[true, true, true, true, false, true, true, true, false, true, true, true, false, false, false, false, false, false, false, false, false, false, false] rfl rfl (by kernel_rfl) (fun _ _ _ h => h) (Or.inl ⟨by rfl, ?_⟩) hHeld ?_ ?_
    rotate_left
    · rintro w' ⟨s0, s1, s2, s3, s4⟩
      go_simp
      with_reducible rfl
    rotate_left
    · simp only [Act.put, List.setIfInBounds_toArray, List.set_cons_zero, List.set_cons_succ, i64_w, i32_w]
      rfl
    refine pure_ (i := 13) (N := some 34) (v := ?_) (a' := ?_) #[true, true, true, true, false, true, true, true, false, true, true, true, false, true, false, false, false, false, false, false, false, false, false] rfl rfl (by kernel_rfl) (fun _ _ _ h => h) (Or.inl ⟨by rfl, ?_⟩) ?_ ?_
    rotate_left
    · intro w'
      go_simp
      with_reducible rfl
    rotate_left
    · simp only [Act.put, List.setIfInBounds_toArray, List.set_cons_zero, List.set_cons_succ, i64_w, i32_w]
      rfl
    refine pure_ (i := 14) (N := some 35) (v := ?_) (a' := ?_) #[true, true, true, true, false, true, true, true, false, true, true, true, false, true, true, false, false, false, false, false, false, false, false] rfl rfl (by kernel_rfl) (fun _ _ _ h => h) (Or.inl ⟨by rfl, ?_⟩) ?_ ?_
    rotate_left
    · intro w'
      go_simp
      with_reducible rfl
    rotate_left
    · simp only [Act.put, List.setIfInBounds_toArray, List.set_cons_zero, List.set_cons_succ, i64_w, i32_w]
      rfl
    refine take_ (i := 15) (N := some 36) (v := ?_) (a' := ?_) #[true, true, true, true, false, true, true, true, false, true, true, true, false, true, true, true, false, false, false, false, false, false, false] rfl rfl (by kernel_rfl) (fun _ _ _ h => h) (Or.inl ⟨by rfl, ?_⟩) hHeld ?_ ?_
    rotate_left
    · rintro w' ⟨s0, s1, s2, s3, s4⟩
      go_simp
      with_reducible rfl
    rotate_left
    · simp only [Act.put, List.setIfInBounds_toArray, List.set_cons_zero, List.set_cons_succ, i64_w, i32_w]
      rfl
    refine pure_ (i := 17) (N := some 38) (v := ?_) (a' := ?_) #[true, true, true, true, false, true, true, true, false, true, true, true, false, true, true, true, false, true, false, false, false, false, false] rfl rfl (by kernel_rfl) (fun _ _ _ h => h) (Or.inl ⟨by rfl, ?_⟩) ?_ ?_
    rotate_left
    · intro w'
      go_simp
      with_reducible rfl
    rotate_left
    · simp only [Act.put, List.setIfInBounds_toArray, List.set_cons_zero, List.set_cons_succ, i64_w, i32_w]
      rfl
    refine pure_ (i := 18) (N := some 39) (v := ?_) (a' := ?_) #[true, true, true, true, false, true, true, true, false, true, true, true, false, true, true, true, false, true, true, false, false, false, false] rfl rfl (by kernel_rfl) (fun _ _ _ h => h) (Or.inl ⟨by rfl, ?_⟩) ?_ ?_
    rotate_left
    · intro w'
      go_simp
      with_reducible rfl
    rotate_left
    · simp only [Act.put, List.setIfInBounds_toArray, List.set_cons_zero, List.set_cons_succ, i64_w, i32_w]
      rfl
    refine take_ (i := 19) (N := some 40) (v := ?_) (a' := ?_) #[true, true, true, true, false, true, true, true, false, true, true, true, false, true, true, true, false, true, true, true, false, false, false] rfl rfl (by kernel_rfl) (fun _ _ _ h => h) (Or.inl ⟨by rfl, ?_⟩) hHeld ?_ ?_
    rotate_left
    · rintro w' ⟨s0, s1, s2, s3, s4⟩
      go_simp
      with_reducible rfl
    rotate_left
    · simp only [Act.put, List.setIfInBounds_toArray, List.set_cons_zero, List.set_cons_succ, i64_w, i32_w]
      rfl
    refine one_ (i := 4) (N := some 25) #[true, true, true, true, true, true, true, true, false, true, true, true, false, true, true, true, false, true, true, true, false, false, false] rfl rfl (by kernel_rfl) (by decide) (fun K hK => ?_)
    refine rules_Text.goesV Tryz.func28 (by kernel_rfl) rfl #[.int .i64 a0_0] (by rfl) rfl rfl rfl (by (try simp only [List.map_toArray, List.map_cons, List.map_nil]); first | done | rfl) ?_
    refine (strconv_Itoa.calls a0_0 (rules_Text.num a0_0) _ (Tryz.gw_below HG.out JC.out.below) (rules_Text.itoa_some HI.out.1)).mono ?_
    rintro e wX ⟨rfl, hbX⟩
    refine ⟨_, rfl, ?_⟩
    have JX := Aside0.mk (JC.out.step hbX)
    clear JC hbX
    have JC := JX
    clear JX
    refine hK.out _ _ JC.out.cells (fun hHeld => ?_)
    clear hK K
    refine norm_ (a' := ?_) ?_ ?_
    rotate_left
    · show Act.put _ (some 25) _ = _
      simp only [Act.put, List.setIfInBounds_toArray, List.set_cons_zero, List.set_cons_succ, i64_w, i32_w]
      rfl
    refine one_ (i := 8) (N := some 29) #[true, true, true, true, true, true, true, true, true, true, true, true, false, true, true, true, false, true, true, true, false, false, false] rfl rfl (by kernel_rfl) (by decide) (fun K hK => ?_)
    refine rules_Text.goesV Tryz.func28 (by kernel_rfl) rfl #[.int .i64 a0_1] (by rfl) rfl rfl rfl (by (try simp only [List.map_toArray, List.map_cons, List.map_nil]); first | done | rfl) ?_
    refine (strconv_Itoa.calls a0_1 (rules_Text.num a0_1) _ (Tryz.gw_below HG.out JC.out.below) (rules_Text.itoa_some HI.out.2.1)).mono ?_
    rintro e wX ⟨rfl, hbX⟩
    refine ⟨_, rfl, ?_⟩
    have JX := Aside0.mk (JC.out.step hbX)
    clear JC hbX
    have JC := JX
    clear JX
    refine hK.out _ _ JC.out.cells (fun hHeld => ?_)
    clear hK K
    refine norm_ (a' := ?_) ?_ ?_
    rotate_left
    · show Act.put _ (some 29) _ = _
      simp only [Act.put, List.setIfInBounds_toArray, List.set_cons_zero, List.set_cons_succ, i64_w, i32_w]
      rfl
    refine one_ (i := 12) (N := some 33) #[true, true, true, true, true, true, true, true, true, true, true, true, true, true, true, true, false, true, true, true, false, false, false] rfl rfl (by kernel_rfl) (by decide) (fun K hK => ?_)
    refine rules_Text.goesV Tryz.func28 (by kernel_rfl) rfl #[.int .i64 a0_2] (by rfl) rfl rfl rfl (by (try simp only [List.map_toArray, List.map_cons, List.map_nil]); first | done | rfl) ?_
    refine (strconv_Itoa.calls a0_2 (rules_Text.num a0_2) _ (Tryz.gw_below HG.out JC.out.below) (rules_Text.itoa_some HI.out.2.2.1)).mono ?_
    rintro e wX ⟨rfl, hbX⟩
    refine ⟨_, rfl, ?_⟩
    have JX := Aside0.mk (JC.out.step hbX)
    clear JC hbX
    have JC := JX
    clear JX
    refine hK.out _ _ JC.out.cells (fun hHeld => ?_)
    clear hK K
    refine norm_ (a' := ?_) ?_ ?_
    rotate_left
    · show Act.put _ (some 33) _ = _
      simp only [Act.put, List.setIfInBounds_toArray, List.set_cons_zero, List.set_cons_succ, i64_w, i32_w]
      rfl
    refine one_ (i := 16) (N := some 37) #[true, true, true, true, true, true, true, true, true, true, true, true, true, true, true, true, true, true, true, true, false, false, false] rfl rfl (by kernel_rfl) (by decide) (fun K hK => ?_)
    refine rules_Text.goesV Tryz.func28 (by kernel_rfl) rfl #[.int .i64 a0_3] (by rfl) rfl rfl rfl (by (try simp only [List.map_toArray, List.map_cons, List.map_nil]); first | done | rfl) ?_
    refine (strconv_Itoa.calls a0_3 (rules_Text.num a0_3) _ (Tryz.gw_below HG.out JC.out.below) (rules_Text.itoa_some HI.out.2.2.2.1)).mono ?_
    rintro e wX ⟨rfl, hbX⟩
    refine ⟨_, rfl, ?_⟩
    have JX := Aside0.mk (JC.out.step hbX)
    clear JC hbX
    have JC := JX
    clear JX
    refine hK.out _ _ JC.out.cells (fun hHeld => ?_)
    clear hK K
    refine norm_ (a' := ?_) ?_ ?_
    rotate_left
    · show Act.put _ (some 37) _ = _
      simp only [Act.put, List.setIfInBounds_toArray, List.set_cons_zero, List.set_cons_succ, i64_w, i32_w]
      rfl
    refine one_ (i := 20) (N := some 41) #[true, true, true, true, true, true, true, true, true, true, true, true, true, true, true, true, true, true, true, true, true, false, false] rfl rfl (by kernel_rfl) (by decide) (fun K hK => ?_)
    refine rules_Text.goesV Tryz.func28 (by kernel_rfl) rfl #[.int .i64 a0_4] (by rfl) rfl rfl rfl (by (try simp only [List.map_toArray, List.map_cons, List.map_nil]); first | done | rfl) ?_
    refine (strconv_Itoa.calls a0_4 (rules_Text.num a0_4) _ (Tryz.gw_below HG.out JC.out.below) (rules_Text.itoa_some HI.out.2.2.2.2)).mono ?_
    rintro e wX ⟨rfl, hbX⟩
    refine ⟨_, rfl, ?_⟩
    have JX := Aside0.mk (JC.out.step hbX)
    clear JC hbX
    have JC := JX
    clear JX
    refine hK.out _ _ JC.out.cells (fun hHeld => ?_)
    clear hK K
    refine norm_ (a' := ?_) ?_ ?_
    rotate_left
    · show Act.put _ (some 41) _ = _
      simp only [Act.put, List.setIfInBounds_toArray, List.set_cons_zero, List.set_cons_succ, i64_w, i32_w]
      rfl
    refine one_ (i := 21) (N := some 42) #[true, true, true, true, true, true, true, true, true, true, true, true, true, true, true, true, true, true, true, true, true, true, false] rfl rfl (by kernel_rfl) (by decide) (fun K hK => ?_)
    refine Kd.R_lit_step Kd.string _ 9 (by rfl) (N := 42) rfl (xs := ([rules_Text.num a0_0, rules_Text.num a0_1, rules_Text.num a0_2, rules_Text.num a0_3, rules_Text.num a0_4] : List ByteArray)) (inner := [.string (rules_Text.num a0_0), .string (rules_Text.num a0_1), .string (rules_Text.num a0_2), .string (rules_Text.num a0_3), .string (rules_Text.num a0_4)]) (ok := fun _ => True) (okp := fun _ => True) ?hr ?hp (fun _ hk => hk) trivial (Below.refl _ _) (Nat.le_refl _) (by simp) ?_
    case hr => first | (go_simp; done) | (go_simp; rfl)
    case hp => exact Reps.one (show Kd.M Kd.string _ _ _ (rules_Text.num a0_0) [.string (rules_Text.num a0_0)] from rfl) (Reps.one (show Kd.M Kd.string _ _ _ (rules_Text.num a0_1) [.string (rules_Text.num a0_1)] from rfl) (Reps.one (show Kd.M Kd.string _ _ _ (rules_Text.num a0_2) [.string (rules_Text.num a0_2)] from rfl) (Reps.one (show Kd.M Kd.string _ _ _ (rules_Text.num a0_3) [.string (rules_Text.num a0_3)] from rfl) (Reps.one (show Kd.M Kd.string _ _ _ (rules_Text.num a0_4) [.string (rules_Text.num a0_4)] from rfl) (Reps.none _ _)))))
    intro vL wL hL hbL _ _
    obtain ⟨AL, cL, eL⟩ := Kd.R_slice hL
    subst eL
    have HLR := Aside0.mk hL
    have JX := Aside0.mk (JC.out.step hbL)
    clear JC hbL hL
    have JC := JX
    clear JX
    refine hK.out _ _ JC.out.cells (fun hHeld => ?_)
    clear hK K
    refine norm_ (a' := ?_) ?_ ?_
    rotate_left
    · show Act.put _ (some 42) _ = _
      simp only [Act.put, List.setIfInBounds_toArray, List.set_cons_zero, List.set_cons_succ, i64_w, i32_w]
      rfl
    refine one_ (i := 22) (N := some 43) #[true, true, true, true, true, true, true, true, true, true, true, true, true, true, true, true, true, true, true, true, true, true, true] rfl rfl (by kernel_rfl) (by decide) (fun K hK => ?_)
    refine rules_Text.goesV Tryz.func25 (by kernel_rfl) rfl #[.string ⟨#[114, 117, 108, 101, 115]⟩, .slice AL [rules_Text.num a0_0, rules_Text.num a0_1, rules_Text.num a0_2, rules_Text.num a0_3, rules_Text.num a0_4].length cL, .pointer (some ⟨b, 0, none⟩)] (by rfl) rfl rfl rfl (by (try simp only [List.map_toArray, List.map_cons, List.map_nil]); first | done | rfl) ?_
    refine (rules_Text.line b [] ⟨#[114, 117, 108, 101, 115]⟩ AL cL [rules_Text.num a0_0, rules_Text.num a0_1, rules_Text.num a0_2, rules_Text.num a0_3, rules_Text.num a0_4] _ JC.out.bld (Kd.R_reads' HLR.out).2.2 (Kd.R_reads' HLR.out).2.1 (by simp) (by have h := HSZ.out; unfold rules_Text.w1 at h; simp only [List.length_nil]; omega)).mono ?_
    rintro e wY ⟨rfl, hbld, hbX⟩
    refine ⟨_, rfl, ?_⟩
    have JX := Aside0.mk (JC.out.lined hbld hbX)
    clear JC hbX hbld
    have JC := JX
    clear JX
    refine hK.out _ _ JC.out.cells (fun hHeld => ?_)
    clear hK K
    refine norm_ (a' := ?_) ?_ ?_
    rotate_left
    · show Act.put _ (some 43) _ = _
      simp only [Act.put, List.setIfInBounds_toArray, List.set_cons_zero, List.set_cons_succ, i64_w, i32_w]
      rfl
    refine done_ (by kernel_rfl) ?_
    clear hHeld HLR
    have hcz_1 : wY.cell? ⟨gb, 5, none⟩ = some (.slice A0_5 l0_5.length c0_5) := (blk_cell JC.out.bk 5).trans rfl
    have hcz_2 : wY.cell? ⟨gb, 6, none⟩ = some (.slice A0_6 l0_6.length c0_6) := (blk_cell JC.out.bk 6).trans rfl
    have e5 : decide (0 < l0_5.length) = false := decide_eq_false (by have := H5.out; omega)
    have e6 : decide (0 < l0_6.length) = false := decide_eq_false (by have := H6.out; omega)
    have e5' : decide ((0 : Int) < (l0_5.length : Int)) = false := decide_eq_false (by have := H5.out; omega)
    have e6' : decide ((0 : Int) < (l0_6.length : Int)) = false := decide_eq_false (by have := H6.out; omega)
    have hln : (Lib.byteCells ([] ++ rules_Text.lineB [⟨#[114, 117, 108, 101, 115]⟩, rules_Text.num a0_0, rules_Text.num a0_1, rules_Text.num a0_2, rules_Text.num a0_3, rules_Text.num a0_4])).length = (rules_Text.lineB (rules_Text.w1 a0_0 a0_1 a0_2 a0_3 a0_4)).length := by rw [Lib.byteCells_length]; rfl
    have eL : decide ((200000 : Int) < ((Lib.byteCells ([] ++ rules_Text.lineB [⟨#[114, 117, 108, 101, 115]⟩, rules_Text.num a0_0, rules_Text.num a0_1, rules_Text.num a0_2, rules_Text.num a0_3, rules_Text.num a0_4])).length : Int)) = false := decide_eq_false (by rw [hln]; have := HSZ.out; omega)
    have HLN := Aside0.mk hln
    clear hln
    obtain ⟨L, hL⟩ : ∃ L, Aside0 ((Lib.byteCells ([] ++ rules_Text.lineB [⟨#[114, 117, 108, 101, 115]⟩, rules_Text.num a0_0, rules_Text.num a0_1, rules_Text.num a0_2, rules_Text.num a0_3, rules_Text.num a0_4])).length = L) := ⟨_, ⟨rfl⟩⟩
    rw [hL.out] at eL
    go_wp2
    go_loopg [47] 0 (fun _ v47 wr => v47 = .int .i64 0 ∧ Aside0 (wr = wY))
    case atStart => exact ⟨rfl, ⟨rfl⟩⟩
    case round =>
      obtain ⟨rfl, hwr⟩ := hrel
      obtain rfl := hwr.out
      go_wp2
      go_loopg [71] 0 (fun _ v71 wr2 => v71 = .int .i64 0 ∧ Aside0 (wr2 = wr))
      case atStart => exact ⟨rfl, ⟨rfl⟩⟩
      case round =>
        obtain ⟨rfl, hwr⟩ := hrel
        obtain rfl := hwr.out
        go_wp2_with (first | (go_at_call 29; refine (Tryz.Builder_Len b b _ _ JC.out.bld).mono ?_; rintro e w' ⟨rfl, rfl⟩; rw [hL.out]) | (go_at_call 30; refine (Tryz.Builder_String_any b b _ _ JC.out.bld (Nat.le_of_lt (by rcases JC.out.bld with h | h <;> exact h.lt))).mono ?_; rintro e w9 ⟨rfl, hb9⟩; have HB9 := Aside0.mk hb9; clear hb9))
        first | go_ret2 | go_ret
        exact ⟨rfl, JC.out.below.trans (HB9.out.mono (Nat.le_of_lt (Nat.lt_of_le_of_lt JC.out.ge JC.out.lt)))⟩
  · have z1 : (t == 0) = false := beq_eq_false_iff_ne.2 ht0
    have z2 : (t != 0) = true := bne_iff_ne.2 ht0
    have h := H.out
    rw [if_neg ht0] at h
    obtain ⟨rfl, rfl⟩ := Prod.mk.inj (Option.some.inj h)
    go_enter Tryz.func10, Tryz.ntmps10
    go_wp2_with (first | ((with_reducible refine gate_dst (N := 1) rfl ?_); refine box_event ?hg (N := 1) ?hd (cs := #[.int .i64 a0_0, .int .i64 a0_1, .int .i64 a0_2, .int .i64 a0_3, .int .i64 a0_4, .slice A0_5 l0_5.length c0_5, .slice A0_6 l0_6.length c0_6]) (t := 25) ?hr ?_; (case hd => rfl); (case hg => rfl); (case hr => first | (go_simp; done) | (go_simp; rfl)); intro gb hg w2 hbox hb; have BK := Aside0.mk hbox; have n1 := Aside0.mk (below_step HB.out hb); have GB : w.heap.size ≤ gb := (by rw [hg]; exact HB.out.size); clear HB; have HB := n1; clear n1 hb hbox hg; have hcz_0 : w2.cell? ⟨gb, 0, none⟩ = some (.int .i64 a0_0) := (blk_cell BK.out 0).trans rfl; have hcz_1 : w2.cell? ⟨gb, 1, none⟩ = some (.int .i64 a0_1) := (blk_cell BK.out 1).trans rfl; have hcz_2 : w2.cell? ⟨gb, 2, none⟩ = some (.int .i64 a0_2) := (blk_cell BK.out 2).trans rfl; have hcz_3 : w2.cell? ⟨gb, 3, none⟩ = some (.int .i64 a0_3) := (blk_cell BK.out 3).trans rfl; have hcz_4 : w2.cell? ⟨gb, 4, none⟩ = some (.int .i64 a0_4) := (blk_cell BK.out 4).trans rfl; have hcz_5 : w2.cell? ⟨gb, 5, none⟩ = some (.slice A0_5 l0_5.length c0_5) := (blk_cell BK.out 5).trans rfl; have hcz_6 : w2.cell? ⟨gb, 6, none⟩ = some (.slice A0_6 l0_6.length c0_6) := (blk_cell BK.out 6).trans rfl) | (go_at_call 12; refine (rules_CheckRules.calls k a0_0 a0_1 a0_2 a0_3 a0_4 A0_5 c0_5 l0_5 A0_6 c0_6 l0_6 t _ (Tryz.gw_below HG.out HB.out) (Kd.C_below HR5.out HB.out) HC5.out (Kd.C_below HR6.out HB.out) HC6.out HT.out).mono ?_; rintro e w3 ⟨rfl, hb⟩; have BK2 := Aside0.mk (blk_below BK.out hb); have n1 := Aside0.mk (below_step HB.out hb); clear HB; have HB := n1; clear n1 hb))
    first | go_ret2 | go_ret
    exact ⟨rfl, HB.out⟩
def etchhouselaw6_awake.f (k : Nat)  : Option (Bool) := (rules_Text.f k 0 5 0 0 0 ([] : List (S66)) ([] : List (S68))).bind fun bt196 => (if bt196.2 = 0 then (some (bt196.1.toList == ([114, 117, 108, 101, 115, 32, 48, 32, 53, 32, 48, 32, 48, 32, 48, 10] : List UInt8))) else (some false))
theorem etchhouselaw6_awake.mono : ∀ k, LeO (etchhouselaw6_awake.f k ) (etchhouselaw6_awake.f (k + 1) ) := by
  intro  k
  unfold etchhouselaw6_awake.f
  repeat' first
      | (with_reducible exact rules_Text.mono _ _ _ _ _ _ _ _)
      | (with_reducible exact LeO.refl _)
      | (with_reducible exact LeO.none _)
      | (with_reducible refine LeO.ite ?_ ?_)
      | (with_reducible refine LeO.bind ?_ (fun _ => ?_))
      | exact rules_Text.mono _ _ _ _ _ _ _ _
      | exact LeO.none _
      | refine LeO.ite ?_ ?_
      | refine LeO.bind ?_ (fun _ => ?_)
set_option maxHeartbeats 8000000 in
set_option maxRecDepth 100000 in
theorem etchhouselaw6_awake.calls (k : Nat)  (r : Bool) (w : World) (hG : Tryz.GW w) (h : etchhouselaw6_awake.f k  = some r) :
    Calls Tryz.prog 14 #[] w fun e w' => e = .returned (.bool r) ∧ Below w.heap.size w w' := by
  have hu25 := Tryz.underlying25
  have HG := Aside0.mk hG
  clear hG
  have HB := Aside0.mk (Below.refl w.heap.size w)
  have H : ((rules_Text.f k 0 5 0 0 0 ([] : List (S66)) ([] : List (S68))).bind fun bt196 => (if bt196.2 = 0 then (some (bt196.1.toList == ([114, 117, 108, 101, 115, 32, 48, 32, 53, 32, 48, 32, 48, 32, 48, 10] : List UInt8))) else (some false))) = some r := h
  clear h
  replace H := Option.bind_eq_some_iff.mp H
  obtain ⟨⟨t196, t197⟩, A10, H⟩ := H
  replace H : (if t197 = 0 then (some (t196.toList == ([114, 117, 108, 101, 115, 32, 48, 32, 53, 32, 48, 32, 48, 32, 48, 10] : List UInt8))) else (some false)) = some r := H
  have A1 := Aside0.mk A10
  clear A10
  by_cases c2 : t197 = 0
  · rw [if_pos c2] at H
    have c2b0 : (t197 == 0) = true := beq_iff_eq.mpr c2
    have c2b1 : (t197 != 0) = false := bne_eq_false_iff_eq.mpr c2
    clear c2
    obtain rfl := Option.some.inj H
    go_enter Tryz.func14, Tryz.ntmps14
    go_wp2_with (first | ((with_reducible refine gate_callee (f := 10) rfl ?_); refine goesL_ (some 5) rfl rfl Tryz.func10 (by kernel_rfl) rfl #[.agg #[.int .i64 0, .int .i64 5, .int .i64 0, .int .i64 0, .int .i64 0, .slice none 0 0, .slice none 0 0]] rfl (by (try simp only [List.map_toArray, List.map_cons, List.map_nil]); first | done | rfl | (simp only [List.length_drop, List.length_take]; rfl)) ?_; (refine (rules_Text.calls k 0 5 0 0 0 _ _ ([] : List (S66)) _ _ ([] : List (S68)) t196 t197 _ ?side1 ?side2 ?side3 ?side4 ?side5 A1.out).mono ?_); (case side1 => exact Tryz.gw_below HG.out (by repeat (first | (with_reducible first | exact HB.out | apply below_alloc | apply pw_below_drewN | apply below_drew1) | exact HB.out))); (case side2 => exact Kd.C_nil _ _); (case side3 => exact Nat.le_refl _); (case side4 => exact Kd.C_nil _ _); (case side5 => exact Nat.le_refl _); rintro e w3 ⟨rfl, hb⟩; refine ⟨_, rfl, ?_⟩; have n0_ := Aside0.mk (below_step (by repeat (first | (with_reducible first | exact HB.out | apply below_alloc | apply pw_below_drewN | apply below_drew1) | exact HB.out)) hb); clear HB; have HB := n0_; clear n0_; (try clear hb); (try clear hb2); (try clear hk); (try clear hi)))
    go_ret
    exact ⟨by first | rfl | (simp [errW_none, errW_some] <;> rfl) | (simp [*, errW_none, errW_some] <;> rfl), by repeat (first | (with_reducible first | exact HB.out | apply below_alloc | apply pw_below_drewN | apply below_drew1) | exact HB.out)⟩
  · rw [if_neg c2] at H
    have c2b0 : (t197 == 0) = false := beq_eq_false_iff_ne.mpr c2
    have c2b1 : (t197 != 0) = true := bne_iff_ne.mpr c2
    obtain rfl := Option.some.inj H
    go_enter Tryz.func14, Tryz.ntmps14
    go_wp2_with (first | ((with_reducible refine gate_callee (f := 10) rfl ?_); refine goesL_ (some 5) rfl rfl Tryz.func10 (by kernel_rfl) rfl #[.agg #[.int .i64 0, .int .i64 5, .int .i64 0, .int .i64 0, .int .i64 0, .slice none 0 0, .slice none 0 0]] rfl (by (try simp only [List.map_toArray, List.map_cons, List.map_nil]); first | done | rfl | (simp only [List.length_drop, List.length_take]; rfl)) ?_; (refine (rules_Text.calls k 0 5 0 0 0 _ _ ([] : List (S66)) _ _ ([] : List (S68)) t196 t197 _ ?side1 ?side2 ?side3 ?side4 ?side5 A1.out).mono ?_); (case side1 => exact Tryz.gw_below HG.out (by repeat (first | (with_reducible first | exact HB.out | apply below_alloc | apply pw_below_drewN | apply below_drew1) | exact HB.out))); (case side2 => exact Kd.C_nil _ _); (case side3 => exact Nat.le_refl _); (case side4 => exact Kd.C_nil _ _); (case side5 => exact Nat.le_refl _); rintro e w4 ⟨rfl, hb⟩; refine ⟨_, rfl, ?_⟩; have n0_ := Aside0.mk (below_step (by repeat (first | (with_reducible first | exact HB.out | apply below_alloc | apply pw_below_drewN | apply below_drew1) | exact HB.out)) hb); clear HB; have HB := n0_; clear n0_; (try clear hb); (try clear hb2); (try clear hk); (try clear hi)))
    go_ret
    exact ⟨by first | rfl | (simp [errW_none, errW_some] <;> rfl) | (simp [*, errW_none, errW_some] <;> rfl), by repeat (first | (with_reducible first | exact HB.out | apply below_alloc | apply pw_below_drewN | apply below_drew1) | exact HB.out)⟩
def rules_isNet.f (k : Nat) (a0 : ByteArray) : Option (Bool) := if a0.toList = ([] : List UInt8) then (some true) else ((netlist_IsPath.f k a0).bind fun t198 => (some t198))
theorem rules_isNet.mono : ∀ a0 k, LeO (rules_isNet.f k a0) (rules_isNet.f (k + 1) a0) := by
  intro a0 k
  unfold rules_isNet.f
  repeat' first
      | (with_reducible exact netlist_IsPath.mono _ _)
      | (with_reducible exact LeO.refl _)
      | (with_reducible exact LeO.none _)
      | (with_reducible refine LeO.ite ?_ ?_)
      | (with_reducible refine LeO.bind ?_ (fun _ => ?_))
      | exact netlist_IsPath.mono _ _
      | exact LeO.none _
      | refine LeO.ite ?_ ?_
      | refine LeO.bind ?_ (fun _ => ?_)
set_option maxHeartbeats 8000000 in
set_option maxRecDepth 100000 in
theorem rules_isNet.calls (k : Nat) (a0 : ByteArray) (r : Bool) (w : World) (hG : Tryz.GW w) (h : rules_isNet.f k a0 = some r) :
    Calls Tryz.prog 42 #[.string a0] w fun e w' => e = .returned (.bool r) ∧ Below w.heap.size w w' := by
  have HG := Aside0.mk hG
  clear hG
  have HB := Aside0.mk (Below.refl w.heap.size w)
  have H : (if a0.toList = ([] : List UInt8) then (some true) else ((netlist_IsPath.f k a0).bind fun t198 => (some t198))) = some r := h
  clear h
  by_cases c2 : a0.toList = ([] : List UInt8)
  · rw [if_pos c2] at H
    have c2b0 : (a0.toList == ([] : List UInt8)) = true := beq_iff_eq.mpr c2
    have c2b1 : (a0.toList != ([] : List UInt8)) = false := bne_eq_false_iff_eq.mpr c2
    clear c2
    obtain rfl := Option.some.inj H
    go_enter Tryz.func42, Tryz.ntmps42
    go_wp2
    go_ret
    exact ⟨by first | rfl | (simp [errW_none, errW_some] <;> rfl) | (simp [*, errW_none, errW_some] <;> rfl), by repeat (first | (with_reducible first | exact HB.out | apply below_alloc | apply pw_below_drewN | apply below_drew1) | exact HB.out)⟩
  · rw [if_neg c2] at H
    have c2b0 : (a0.toList == ([] : List UInt8)) = false := beq_eq_false_iff_ne.mpr c2
    have c2b1 : (a0.toList != ([] : List UInt8)) = true := bne_iff_ne.mpr c2
    replace H := Option.bind_eq_some_iff.mp H
    obtain ⟨t198, A30, H⟩ := H
    replace H : (some t198) = some r := H
    have A3 := Aside0.mk A30
    clear A30
    obtain rfl := Option.some.inj H
    go_enter Tryz.func42, Tryz.ntmps42
    go_wp2_with (first | (go_at_call 66; (with_reducible refine (netlist_IsPath.calls k a0 t198 _ ?side1 A3.out).mono ?_); (case side1 => exact Tryz.gw_below HG.out (by repeat (first | (with_reducible first | exact HB.out | apply below_alloc | apply pw_below_drewN | apply below_drew1) | exact HB.out))); rintro e w4 ⟨rfl, hb⟩; have n0_ := Aside0.mk (below_step (by repeat (first | (with_reducible first | exact HB.out | apply below_alloc | apply pw_below_drewN | apply below_drew1) | exact HB.out)) hb); clear HB; have HB := n0_; clear n0_; (try clear hb); (try clear hb2); (try clear hk); (try clear hi)))
    go_ret
    exact ⟨by first | rfl | (simp [errW_none, errW_some] <;> rfl) | (simp [*, errW_none, errW_some] <;> rfl), by repeat (first | (with_reducible first | exact HB.out | apply below_alloc | apply pw_below_drewN | apply below_drew1) | exact HB.out)⟩
def shape_IsPoint.f (a0_0 : Int) (a0_1 : Int) : Option (Bool) := (shape_IsAt.f a0_0).bind fun t200 => (if t200 = true then ((shape_IsAt.f a0_1).bind fun t201 => (some t201)) else (some false))
set_option maxHeartbeats 8000000 in
set_option maxRecDepth 100000 in
theorem shape_IsPoint.calls (a0_0 : Int) (a0_1 : Int) (r : Bool) (w : World) (hG : Tryz.GW w) (h : shape_IsPoint.f a0_0 a0_1 = some r) :
    Calls Tryz.prog 43 #[.agg #[.int .i64 a0_0, .int .i64 a0_1]] w fun e w' => e = .returned (.bool r) ∧ Below w.heap.size w w' := by
  have hu33 := Tryz.underlying33
  have HG := Aside0.mk hG
  clear hG
  have HB := Aside0.mk (Below.refl w.heap.size w)
  have H : ((shape_IsAt.f a0_0).bind fun t200 => (if t200 = true then ((shape_IsAt.f a0_1).bind fun t201 => (some t201)) else (some false))) = some r := h
  clear h
  replace H := Option.bind_eq_some_iff.mp H
  obtain ⟨t200, A20, H⟩ := H
  replace H : (if t200 = true then ((shape_IsAt.f a0_1).bind fun t201 => (some t201)) else (some false)) = some r := H
  have A2 := Aside0.mk A20
  clear A20
  by_cases c3 : t200 = true
  · subst c3
    have H1 : ((shape_IsAt.f a0_1).bind fun t201 => (some t201)) = some r := by rw [if_pos rfl] at H; exact H
    clear H
    have H := H1
    clear H1
    replace H := Option.bind_eq_some_iff.mp H
    obtain ⟨t201, A40, H⟩ := H
    replace H : (some t201) = some r := H
    have A4 := Aside0.mk A40
    clear A40
    obtain rfl := Option.some.inj H
    go_enter Tryz.func43, Tryz.ntmps43
    go_wp2_with (first | ((with_reducible refine gate_dst (N := 1) rfl ?_); refine box_event ?hg (N := 1) ?hd (cs := #[.int .i64 a0_0, .int .i64 a0_1]) (t := 33) ?hr ?_; (case hd => rfl); (case hg => rfl); (case hr => first | (go_simp; done) | (go_simp; rfl)); intro gb199 hg w5 hbox hb; have n0_ := Aside0.mk (below_step (by repeat (first | (with_reducible first | exact HB.out | apply below_alloc | apply pw_below_drewN | apply below_drew1) | exact HB.out)) hb); have n1_ := Aside0.mk (hbox); have n2_ := Aside0.mk ((by rw [hg]; exact (below_size (by repeat (first | (with_reducible first | exact HB.out | apply below_alloc | apply pw_below_drewN | apply below_drew1) | exact HB.out))) : w.heap.size ≤ gb199)); have n3_ := Aside0.mk ((by rw [hg]; exact (below_size (by repeat (first | (with_reducible first | exact HB.out | apply below_alloc | apply pw_below_drewN | apply below_drew1) | exact HB.out))) : w.heap.size ≤ gb199)); clear HB; have HB := n0_; have BK199 := n1_; have GW199 := n2_; have GE199 := n3_; clear n0_ n1_ n2_ n3_; clear hb hbox hg; have hcz6_0 : w5.cell? ⟨gb199, 0, none⟩ = some (.int .i64 a0_0) := (blk_cell BK199.out 0).trans rfl; have hcz6_1 : w5.cell? ⟨gb199, 1, none⟩ = some (.int .i64 a0_1) := (blk_cell BK199.out 1).trans rfl; have hfz6_0 := blk_frozen BK199.out 0; have hfz6_1 := blk_frozen BK199.out 1) | ((with_reducible refine gate_callee (f := 76) rfl ?_); refine goesL_ (some 5) rfl rfl Tryz.func76 (by kernel_rfl) rfl #[.int .i64 a0_0] rfl (by (try simp only [List.map_toArray, List.map_cons, List.map_nil]); first | done | rfl | (simp only [List.length_drop, List.length_take]; rfl)) ?_; (with_reducible refine (shape_IsAt.calls a0_0 true _ ?side1 A2.out).mono ?_); (case side1 => exact Tryz.gw_below HG.out (by repeat (first | (with_reducible first | exact HB.out | apply below_alloc | apply pw_below_drewN | apply below_drew1 | refine below_set ?_ GE199.out) | exact HB.out))); rintro e w' ⟨rfl, ⟨nd, rfl⟩⟩; refine ⟨_, rfl, ?_⟩) | (go_at_call 76; (with_reducible refine (shape_IsAt.calls a0_1 t201 _ ?side1 A4.out).mono ?_); (case side1 => exact Tryz.gw_below HG.out (by repeat (first | (with_reducible first | exact HB.out | apply below_alloc | apply pw_below_drewN | apply below_drew1 | refine below_set ?_ GE199.out) | exact HB.out))); rintro e w' ⟨rfl, ⟨nd, rfl⟩⟩))
    go_ret
    exact ⟨by first | rfl | (simp [errW_none, errW_some] <;> rfl) | (simp [*, errW_none, errW_some] <;> rfl), by repeat (first | (with_reducible first | exact HB.out | apply below_alloc | apply pw_below_drewN | apply below_drew1 | refine below_set ?_ GE199.out) | exact HB.out)⟩
  · replace c3 := Bool.eq_false_iff.mpr c3
    subst c3
    have H1 : (some false) = some r := by rw [if_neg (show ¬ (false = true) by decide)] at H; exact H
    clear H
    have H := H1
    clear H1
    obtain rfl := Option.some.inj H
    go_enter Tryz.func43, Tryz.ntmps43
    go_wp2_with (first | ((with_reducible refine gate_dst (N := 1) rfl ?_); refine box_event ?hg (N := 1) ?hd (cs := #[.int .i64 a0_0, .int .i64 a0_1]) (t := 33) ?hr ?_; (case hd => rfl); (case hg => rfl); (case hr => first | (go_simp; done) | (go_simp; rfl)); intro gb199 hg w7 hbox hb; have n0_ := Aside0.mk (below_step (by repeat (first | (with_reducible first | exact HB.out | apply below_alloc | apply pw_below_drewN | apply below_drew1) | exact HB.out)) hb); have n1_ := Aside0.mk (hbox); have n2_ := Aside0.mk ((by rw [hg]; exact (below_size (by repeat (first | (with_reducible first | exact HB.out | apply below_alloc | apply pw_below_drewN | apply below_drew1) | exact HB.out))) : w.heap.size ≤ gb199)); have n3_ := Aside0.mk ((by rw [hg]; exact (below_size (by repeat (first | (with_reducible first | exact HB.out | apply below_alloc | apply pw_below_drewN | apply below_drew1) | exact HB.out))) : w.heap.size ≤ gb199)); clear HB; have HB := n0_; have BK199 := n1_; have GW199 := n2_; have GE199 := n3_; clear n0_ n1_ n2_ n3_; clear hb hbox hg; have hcz8_0 : w7.cell? ⟨gb199, 0, none⟩ = some (.int .i64 a0_0) := (blk_cell BK199.out 0).trans rfl; have hcz8_1 : w7.cell? ⟨gb199, 1, none⟩ = some (.int .i64 a0_1) := (blk_cell BK199.out 1).trans rfl; have hfz8_0 := blk_frozen BK199.out 0; have hfz8_1 := blk_frozen BK199.out 1) | ((with_reducible refine gate_callee (f := 76) rfl ?_); refine goesL_ (some 5) rfl rfl Tryz.func76 (by kernel_rfl) rfl #[.int .i64 a0_0] rfl (by (try simp only [List.map_toArray, List.map_cons, List.map_nil]); first | done | rfl | (simp only [List.length_drop, List.length_take]; rfl)) ?_; (with_reducible refine (shape_IsAt.calls a0_0 false _ ?side1 A2.out).mono ?_); (case side1 => exact Tryz.gw_below HG.out (by repeat (first | (with_reducible first | exact HB.out | apply below_alloc | apply pw_below_drewN | apply below_drew1 | refine below_set ?_ GE199.out) | exact HB.out))); rintro e w' ⟨rfl, ⟨nd, rfl⟩⟩; refine ⟨_, rfl, ?_⟩))
    go_ret
    exact ⟨by first | rfl | (simp [errW_none, errW_some] <;> rfl) | (simp [*, errW_none, errW_some] <;> rfl), by repeat (first | (with_reducible first | exact HB.out | apply below_alloc | apply pw_below_drewN | apply below_drew1 | refine below_set ?_ GE199.out) | exact HB.out)⟩
def shape_HasSquare.enc (x : S44) : List Value := [.int .i64 x.f0, .int .i64 x.f1, .int .i64 x.f2, .int .i64 x.f3]
def shape_HasSquare.in_ (px py : Int) (x : S44) : Bool := decide (x.f0 ≤ px) && (decide (px < x.f2) && (decide (x.f1 ≤ py) && decide (py < x.f3)))
def shape_HasSquare.f (l0 : List (S44)) (a1_0 : Int) (a1_1 : Int) : Option (Bool) := if l0.length ≤ 9223372036854775807 then some (l0.any (shape_HasSquare.in_ a1_0 a1_1)) else none
set_option maxHeartbeats 4000000 in
theorem shape_HasSquare.closure (gp : Nat) (px py : Int) (x : S44) (W : World) (h0 : W.cell? ⟨gp, 0, none⟩ = some (.int .i64 px)) (h1 : W.cell? ⟨gp, 1, none⟩ = some (.int .i64 py)) :
    Calls Tryz.prog 99 #[.agg #[.int .i64 x.f0, .int .i64 x.f1, .int .i64 x.f2, .int .i64 x.f3], .pointer (some ⟨gp, 0, none⟩)] W fun e w' => e = .returned (.bool (shape_HasSquare.in_ px py x)) ∧ Below W.heap.size W w' := by
  obtain ⟨x0, x1, x2, x3⟩ := x
  unfold shape_HasSquare.in_
  simp only
  have hu44 := Tryz.underlying44
  have hu33 := Tryz.underlying33
  have hu3 := Tryz.underlying3
  have e0 := Lib.cell?_alloc_some (Obj.cells #[Value.int IntKind.i64 x0, Value.int IntKind.i64 x1, Value.int IntKind.i64 x2, Value.int IntKind.i64 x3] 44) h0
  have e1 := Lib.cell?_alloc_some (Obj.cells #[Value.int IntKind.i64 x0, Value.int IntKind.i64 x1, Value.int IntKind.i64 x2, Value.int IntKind.i64 x3] 44) h1
  have ec : ∀ j v, (#[Value.int IntKind.i64 x0, Value.int IntKind.i64 x1, Value.int IntKind.i64 x2, Value.int IntKind.i64 x3] : Array Value)[j]? = some v → (W.alloc (Obj.cells #[Value.int IntKind.i64 x0, Value.int IntKind.i64 x1, Value.int IntKind.i64 x2, Value.int IntKind.i64 x3] 44)).cell? ⟨W.heap.size, j, none⟩ = some v := by
    intro j v hj
    show (match (W.heap.push _)[W.heap.size]? with | some (.cells c _ _) => if (none : Option _).isSome then none else c[j]? | _ => none) = _
    rw [Array.getElem?_push_size]; exact hj
  have f0 := ec 0 _ rfl
  have f1 := ec 1 _ rfl
  have f2 := ec 2 _ rfl
  have f3 := ec 3 _ rfl
  clear ec
  have BEL := Aside0.mk (below_alloc (Below.refl W.heap.size W) (Obj.cells #[Value.int IntKind.i64 x0, Value.int IntKind.i64 x1, Value.int IntKind.i64 x2, Value.int IntKind.i64 x3] 44))
  cases c1 : decide (x0 ≤ px)
  · simp only [Bool.false_and]
    go_enter Tryz.func99, Tryz.ntmps99
    go_wp2
    go_ret
    exact ⟨rfl, BEL.out⟩
  · cases c2 : decide (px < x2)
    · simp only [Bool.true_and, Bool.false_and]
      go_enter Tryz.func99, Tryz.ntmps99
      go_wp2
      go_ret
      exact ⟨rfl, BEL.out⟩
    · cases c3 : decide (x1 ≤ py)
      · simp only [Bool.true_and, Bool.false_and]
        go_enter Tryz.func99, Tryz.ntmps99
        go_wp2
        go_ret
        exact ⟨rfl, BEL.out⟩
      · simp only [Bool.true_and]
        go_enter Tryz.func99, Tryz.ntmps99
        go_wp2
        go_ret
        exact ⟨rfl, BEL.out⟩
theorem shape_HasSquare.none224 (A : Option Addr) (c : Nat) (fv : Value) (w : World) : Calls Tryz.prog 128 #[.slice A 0 c, fv] w fun e w' => e = .returned (.int .i64 (-1)) ∧ w' = w := by
  go_enter Tryz.func128, Tryz.ntmps128
  go_wp2
  go_loopg [8] 0 (fun _ v8 wr => v8 = .int .i64 0 ∧ wr = w)
  case atStart => exact ⟨rfl, rfl⟩
  case round =>
    obtain ⟨rfl, rfl⟩ := hrel
    go_wp2
    go_ret
    exact ⟨rfl, rfl⟩
theorem shape_HasSquare.none153 (A : Option Addr) (c : Nat) (fv : Value) (w : World) : Calls Tryz.prog 98 #[.slice A 0 c, fv] w fun e w' => e = .returned (.bool false) ∧ w' = w := by
  go_enter Tryz.func98, Tryz.ntmps98
  go_wp2_with (go_at_call 128; refine (shape_HasSquare.none224 A c fv _).mono ?_; rintro e w' ⟨rfl, rfl⟩)
  go_ret
  exact ⟨rfl, rfl⟩
set_option maxHeartbeats 4000000 in
theorem shape_HasSquare.calls (A0 : Option Addr) (c0 : Nat) (l0 : List (S44)) (a1_0 : Int) (a1_1 : Int) (r : Bool) (w : World) (hG : Tryz.GW w) (hr0 : Kd.C k44 w A0 l0.length l0) (hc0 : l0.length ≤ c0) (h : shape_HasSquare.f l0 a1_0 a1_1 = some r) :
    Calls Tryz.prog 55 #[.slice A0 l0.length c0, .agg #[.int .i64 a1_0, .int .i64 a1_1]] w fun e w' => e = .returned (.bool r) ∧ Below w.heap.size w w' := by
  unfold shape_HasSquare.f at h
  split at h
  · rename_i hbig
    obtain rfl := Option.some.inj h
    have hu33 := Tryz.underlying33
    have f0 : (w.alloc (Obj.cells #[Value.int IntKind.i64 a1_0, Value.int IntKind.i64 a1_1] 33)).cell? ⟨w.heap.size, 0, none⟩ = some (.int .i64 a1_0) := by
      show (match (w.heap.push _)[w.heap.size]? with | some (.cells c _ _) => if (none : Option _).isSome then none else c[0]? | _ => none) = _
      rw [Array.getElem?_push_size]; rfl
    have f1 : (w.alloc (Obj.cells #[Value.int IntKind.i64 a1_0, Value.int IntKind.i64 a1_1] 33)).cell? ⟨w.heap.size, 1, none⟩ = some (.int .i64 a1_1) := by
      show (match (w.heap.push _)[w.heap.size]? with | some (.cells c _ _) => if (none : Option _).isSome then none else c[1]? | _ => none) = _
      rw [Array.getElem?_push_size]; rfl
    have hlt : w.heap.size < (w.alloc (Obj.cells #[Value.int IntKind.i64 a1_0, Value.int IntKind.i64 a1_1] 33)).heap.size := by
      show w.heap.size < (w.heap.push _).size
      rw [Array.size_push]; omega
    have bel := below_alloc (Below.refl w.heap.size w) (Obj.cells #[Value.int IntKind.i64 a1_0, Value.int IntKind.i64 a1_1] 33)
    have key : Calls Tryz.prog 98 #[.slice A0 l0.length c0, .func (.func 99) #[] #[.pointer (some ⟨w.heap.size, 0, none⟩)]] (w.alloc (Obj.cells #[Value.int IntKind.i64 a1_0, Value.int IntKind.i64 a1_1] 33)) fun e w' => e = .returned (.bool (l0.any (shape_HasSquare.in_ a1_0 a1_1))) ∧ Below w.heap.size w w' := by
      by_cases hz : l0 = []
      · subst hz
        exact (shape_HasSquare.none153 A0 c0 _ _).mono fun e w' ⟨he, hw⟩ => ⟨he, by rw [hw]; exact bel⟩
      · have hpos : 0 < l0.length := List.length_pos_iff.2 hz
        have hr1 := Kd.C_below hr0 bel
        obtain ⟨_, _, hx⟩ := hr1
        obtain ⟨ad, rfl, hcells⟩ := hx hpos
        obtain ⟨b, off, sp⟩ := ad
        letI : Inhabited S44 := ⟨z44⟩
        have hcell : ∀ j (hj : j < l0.length) i v, (shape_HasSquare.enc l0[j]!)[i]? = some v → (w.alloc (Obj.cells #[Value.int IntKind.i64 a1_0, Value.int IntKind.i64 a1_1] 33)).cell? ((⟨b, off, sp⟩ : Addr).add (j * 4 + i)) = some v := by
          intro j hj i v hv
          obtain ⟨c, _, hK, hc⟩ := hcells j _ (List.getElem?_eq_getElem hj)
          obtain rfl := k44_open hK
          rw [getElem!_pos l0 j hj] at hv
          exact hc i v hv
        have hsp : sp = none := by
          have h := hcell 0 hpos 0 _ rfl
          cases sp with
          | none => rfl
          | some s =>
            exfalso
            have h' : (w.alloc (Obj.cells #[Value.int IntKind.i64 a1_0, Value.int IntKind.i64 a1_1] 33)).cell? ⟨b, off, some s⟩ = some _ := h
            unfold World.cell? at h'
            split at h' <;> simp at h'
        subst hsp
        have hb := World.block_lt_of_cell? _ _ (hcell 0 hpos 0 _ rfl)
        have eg : ∀ args w, (callFunc 99 args).run Tryz.prog w = .ok (.enter 99 args) w := enters_of Tryz.func99 (by kernel_rfl) rfl
        have hp : PredBelow Tryz.prog 99 #[.pointer (some ⟨w.heap.size, 0, none⟩)] (fun x => .agg (shape_HasSquare.enc x).toArray) (shape_HasSquare.in_ a1_0 a1_1) (w.alloc (Obj.cells #[Value.int IntKind.i64 a1_0, Value.int IntKind.i64 a1_1] 33)) := by
          intro W x hW
          refine (shape_HasSquare.closure w.heap.size a1_0 a1_1 x W ((hW.cell hlt).trans f0) ((hW.cell hlt).trans f1)).mono fun e w' ⟨he, hb⟩ => ⟨he, hW.trans ⟨hb.os, hb.tape, hb.output, hb.size, fun k hk => hb.block k (Nat.lt_of_lt_of_le hk hW.size)⟩⟩
        have hc := Tryz.containsRects shape_HasSquare.enc (fun _ => rfl) (shape_HasSquare.in_ a1_0 a1_1) 99 #[.pointer (some ⟨w.heap.size, 0, none⟩)] eg b off l0.length c0 l0 _ hp (Nat.le_refl _) hbig hb (by
          intro j hj i v hv
          have := hcell j hj i v hv
          rwa [Addr.add_lit, ← Nat.add_assoc] at this)
        rw [List.take_length] at hc
        exact hc.mono fun e w' ⟨he, hw⟩ => ⟨he, bel.trans ⟨hw.os, hw.tape, hw.output, hw.size, fun k hk => hw.block k (by omega)⟩⟩
    have KEY := Aside0.mk key
    clear key f0 f1 hlt bel hr0
    go_enter Tryz.func55, Tryz.ntmps55
    go_wp2_with (go_at_call 98; refine KEY.out.mono ?_; rintro e w' ⟨rfl, hb'⟩)
    go_ret
    exact ⟨rfl, hb'⟩
  · cases h
def rules_isOn.f (a0_0 : Int) (l0_1 : List (S44)) (a0_2 : Int) (a1 : Int) : Option (Bool) := if a0_0 < 0 then (some true) else (some (a0_0 == a1))
set_option maxHeartbeats 8000000 in
set_option maxRecDepth 100000 in
theorem rules_isOn.calls (a0_0 : Int) (A0_1 : Option Addr) (c0_1 : Nat) (l0_1 : List (S44)) (a0_2 : Int) (a1 : Int) (r : Bool) (w : World) (hG : Tryz.GW w) (hr0_1 : Kd.C k44 w A0_1 l0_1.length l0_1) (hc0_1 : l0_1.length ≤ c0_1) (h : rules_isOn.f a0_0 l0_1 a0_2 a1 = some r) :
    Calls Tryz.prog 77 #[.agg #[.int .i64 a0_0, .slice A0_1 l0_1.length c0_1, .int .i64 a0_2], .int .i64 a1] w fun e w' => e = .returned (.bool r) ∧ Below w.heap.size w w' := by
  have hu68 := Tryz.underlying68
  have HR0_1 := Aside0.mk hr0_1
  have HC0_1 := Aside0.mk hc0_1
  clear hr0_1 hc0_1
  have HG := Aside0.mk hG
  clear hG
  have HB := Aside0.mk (Below.refl w.heap.size w)
  have H : (if a0_0 < 0 then (some true) else (some (a0_0 == a1))) = some r := h
  clear h
  by_cases c3 : a0_0 < 0
  · rw [if_pos c3] at H
    have c3b0 : decide (a0_0 < 0) = true := decide_eq_true c3
    clear c3
    obtain rfl := Option.some.inj H
    go_enter Tryz.func77, Tryz.ntmps77
    go_wp2_with (first | ((with_reducible refine gate_dst (N := 2) rfl ?_); refine box_event ?hg (N := 2) ?hd (cs := #[.int .i64 a0_0, .slice A0_1 l0_1.length c0_1, .int .i64 a0_2]) (t := 68) ?hr ?_; (case hd => rfl); (case hg => rfl); (case hr => first | (go_simp; done) | (go_simp; rfl)); intro gb202 hg w4 hbox hb; have n0_ := Aside0.mk (below_step (by repeat (first | (with_reducible first | exact HB.out | apply below_alloc | apply pw_below_drewN | apply below_drew1) | exact HB.out)) hb); have n1_ := Aside0.mk (hbox); have n2_ := Aside0.mk ((by rw [hg]; exact (below_size (by repeat (first | (with_reducible first | exact HB.out | apply below_alloc | apply pw_below_drewN | apply below_drew1) | exact HB.out))) : w.heap.size ≤ gb202)); have n3_ := Aside0.mk ((by rw [hg]; exact (below_size (by repeat (first | (with_reducible first | exact HB.out | apply below_alloc | apply pw_below_drewN | apply below_drew1) | exact HB.out))) : w.heap.size ≤ gb202)); clear HB; have HB := n0_; have BK202 := n1_; have GW202 := n2_; have GE202 := n3_; clear n0_ n1_ n2_ n3_; clear hb hbox hg; have hcz5_0 : w4.cell? ⟨gb202, 0, none⟩ = some (.int .i64 a0_0) := (blk_cell BK202.out 0).trans rfl; have hcz5_1 : w4.cell? ⟨gb202, 1, none⟩ = some (.slice A0_1 l0_1.length c0_1) := (blk_cell BK202.out 1).trans rfl; have hcz5_2 : w4.cell? ⟨gb202, 2, none⟩ = some (.int .i64 a0_2) := (blk_cell BK202.out 2).trans rfl; have hfz5_0 := blk_frozen BK202.out 0; have hfz5_1 := blk_frozen BK202.out 1; have hfz5_2 := blk_frozen BK202.out 2))
    go_ret
    exact ⟨by first | rfl | (simp [errW_none, errW_some] <;> rfl) | (simp [*, errW_none, errW_some] <;> rfl), by repeat (first | (with_reducible first | exact HB.out | apply below_alloc | apply pw_below_drewN | apply below_drew1 | refine below_set ?_ GE202.out) | exact HB.out)⟩
  · rw [if_neg c3] at H
    have c3b0 : decide (a0_0 < 0) = false := decide_eq_false c3
    clear c3
    obtain rfl := Option.some.inj H
    go_enter Tryz.func77, Tryz.ntmps77
    go_wp2_with (first | ((with_reducible refine gate_dst (N := 2) rfl ?_); refine box_event ?hg (N := 2) ?hd (cs := #[.int .i64 a0_0, .slice A0_1 l0_1.length c0_1, .int .i64 a0_2]) (t := 68) ?hr ?_; (case hd => rfl); (case hg => rfl); (case hr => first | (go_simp; done) | (go_simp; rfl)); intro gb202 hg w6 hbox hb; have n0_ := Aside0.mk (below_step (by repeat (first | (with_reducible first | exact HB.out | apply below_alloc | apply pw_below_drewN | apply below_drew1) | exact HB.out)) hb); have n1_ := Aside0.mk (hbox); have n2_ := Aside0.mk ((by rw [hg]; exact (below_size (by repeat (first | (with_reducible first | exact HB.out | apply below_alloc | apply pw_below_drewN | apply below_drew1) | exact HB.out))) : w.heap.size ≤ gb202)); have n3_ := Aside0.mk ((by rw [hg]; exact (below_size (by repeat (first | (with_reducible first | exact HB.out | apply below_alloc | apply pw_below_drewN | apply below_drew1) | exact HB.out))) : w.heap.size ≤ gb202)); clear HB; have HB := n0_; have BK202 := n1_; have GW202 := n2_; have GE202 := n3_; clear n0_ n1_ n2_ n3_; clear hb hbox hg; have hcz7_0 : w6.cell? ⟨gb202, 0, none⟩ = some (.int .i64 a0_0) := (blk_cell BK202.out 0).trans rfl; have hcz7_1 : w6.cell? ⟨gb202, 1, none⟩ = some (.slice A0_1 l0_1.length c0_1) := (blk_cell BK202.out 1).trans rfl; have hcz7_2 : w6.cell? ⟨gb202, 2, none⟩ = some (.int .i64 a0_2) := (blk_cell BK202.out 2).trans rfl; have hfz7_0 := blk_frozen BK202.out 0; have hfz7_1 := blk_frozen BK202.out 1; have hfz7_2 := blk_frozen BK202.out 2))
    go_ret
    exact ⟨by first | rfl | (simp [errW_none, errW_some] <;> rfl) | (simp [*, errW_none, errW_some] <;> rfl), by repeat (first | (with_reducible first | exact HB.out | apply below_alloc | apply pw_below_drewN | apply below_drew1 | refine below_set ?_ GE202.out) | exact HB.out)⟩
def cmp_isNaN_string.f (a0 : ByteArray) : Option (Bool) := some (a0.toList != a0.toList)
set_option maxHeartbeats 8000000 in
set_option maxRecDepth 100000 in
theorem cmp_isNaN_string.calls (a0 : ByteArray) (r : Bool) (w : World) (hG : Tryz.GW w) (h : cmp_isNaN_string.f a0 = some r) :
    Calls Tryz.prog 187 #[.string a0] w fun e w' => e = .returned (.bool r) ∧ Drawn0 w w' := by
  have HG := Aside0.mk hG
  clear hG
  have H : (some (a0.toList != a0.toList)) = some r := h
  clear h
  obtain rfl := Option.some.inj H
  go_enter Tryz.func187, Tryz.ntmps187
  go_wp2
  go_ret
  exact ⟨by first | rfl | (simp; done) | (simp [*]; done), by repeat (first | exact Drawn0.refl _ | apply Drawn0.step)⟩
def cmp_Less_string.f (a0 : ByteArray) (a1 : ByteArray) : Option (Bool) := (cmp_isNaN_string.f a0).bind fun t203 => (if t203 = true then ((cmp_isNaN_string.f a1).bind fun t204 => (if t204 = true then (some (Op.bytesLess a0.toList a1.toList)) else (some true))) else (some (Op.bytesLess a0.toList a1.toList)))
set_option maxHeartbeats 8000000 in
set_option maxRecDepth 100000 in
theorem cmp_Less_string.calls (a0 : ByteArray) (a1 : ByteArray) (r : Bool) (w : World) (hG : Tryz.GW w) (h : cmp_Less_string.f a0 a1 = some r) :
    Calls Tryz.prog 149 #[.string a0, .string a1] w fun e w' => e = .returned (.bool r) ∧ Drawn0 w w' := by
  have HG := Aside0.mk hG
  clear hG
  have H : ((cmp_isNaN_string.f a0).bind fun t203 => (if t203 = true then ((cmp_isNaN_string.f a1).bind fun t204 => (if t204 = true then (some (Op.bytesLess a0.toList a1.toList)) else (some true))) else (some (Op.bytesLess a0.toList a1.toList)))) = some r := h
  clear h
  replace H := Option.bind_eq_some_iff.mp H
  obtain ⟨t203, A30, H⟩ := H
  replace H : (if t203 = true then ((cmp_isNaN_string.f a1).bind fun t204 => (if t204 = true then (some (Op.bytesLess a0.toList a1.toList)) else (some true))) else (some (Op.bytesLess a0.toList a1.toList))) = some r := H
  have A3 := Aside0.mk A30
  clear A30
  by_cases c4 : t203 = true
  · subst c4
    have H1 : ((cmp_isNaN_string.f a1).bind fun t204 => (if t204 = true then (some (Op.bytesLess a0.toList a1.toList)) else (some true))) = some r := by rw [if_pos rfl] at H; exact H
    clear H
    have H := H1
    clear H1
    replace H := Option.bind_eq_some_iff.mp H
    obtain ⟨t204, A50, H⟩ := H
    replace H : (if t204 = true then (some (Op.bytesLess a0.toList a1.toList)) else (some true)) = some r := H
    have A5 := Aside0.mk A50
    clear A50
    by_cases c6 : t204 = true
    · subst c6
      have H1 : (some (Op.bytesLess a0.toList a1.toList)) = some r := by rw [if_pos rfl] at H; exact H
      clear H
      have H := H1
      clear H1
      obtain rfl := Option.some.inj H
      go_enter Tryz.func149, Tryz.ntmps149
      go_wp2_with (first | ((with_reducible refine gate_callee (f := 187) rfl ?_); refine goesL_ (some 6) rfl rfl Tryz.func187 (by kernel_rfl) rfl #[.string a0] rfl (by (try simp only [List.map_toArray, List.map_cons, List.map_nil]); first | done | rfl | (simp only [List.length_drop, List.length_take]; rfl)) ?_; (with_reducible refine (cmp_isNaN_string.calls a0 true _ ?side1 A3.out).mono ?_); (case side1 => repeat (first | exact HG.out | apply Tryz.gw_drewN | apply Tryz.gw_drew)); rintro e w' ⟨rfl, ⟨nd, rfl⟩⟩; refine ⟨_, rfl, ?_⟩) | (go_at_call 187; (with_reducible refine (cmp_isNaN_string.calls a1 true _ ?side1 A5.out).mono ?_); (case side1 => repeat (first | exact HG.out | apply Tryz.gw_drewN | apply Tryz.gw_drew)); rintro e w' ⟨rfl, ⟨nd, rfl⟩⟩))
      go_ret
      exact ⟨by first | rfl | (simp; done) | (simp [*]; done), by repeat (first | exact Drawn0.refl _ | apply Drawn0.step)⟩
    · replace c6 := Bool.eq_false_iff.mpr c6
      subst c6
      have H1 : (some true) = some r := by rw [if_neg (show ¬ (false = true) by decide)] at H; exact H
      clear H
      have H := H1
      clear H1
      obtain rfl := Option.some.inj H
      go_enter Tryz.func149, Tryz.ntmps149
      go_wp2_with (first | ((with_reducible refine gate_callee (f := 187) rfl ?_); refine goesL_ (some 6) rfl rfl Tryz.func187 (by kernel_rfl) rfl #[.string a0] rfl (by (try simp only [List.map_toArray, List.map_cons, List.map_nil]); first | done | rfl | (simp only [List.length_drop, List.length_take]; rfl)) ?_; (with_reducible refine (cmp_isNaN_string.calls a0 true _ ?side1 A3.out).mono ?_); (case side1 => repeat (first | exact HG.out | apply Tryz.gw_drewN | apply Tryz.gw_drew)); rintro e w' ⟨rfl, ⟨nd, rfl⟩⟩; refine ⟨_, rfl, ?_⟩) | (go_at_call 187; (with_reducible refine (cmp_isNaN_string.calls a1 false _ ?side1 A5.out).mono ?_); (case side1 => repeat (first | exact HG.out | apply Tryz.gw_drewN | apply Tryz.gw_drew)); rintro e w' ⟨rfl, ⟨nd, rfl⟩⟩))
      go_ret
      exact ⟨by first | rfl | (simp; done) | (simp [*]; done), by repeat (first | exact Drawn0.refl _ | apply Drawn0.step)⟩
  · replace c4 := Bool.eq_false_iff.mpr c4
    subst c4
    have H1 : (some (Op.bytesLess a0.toList a1.toList)) = some r := by rw [if_neg (show ¬ (false = true) by decide)] at H; exact H
    clear H
    have H := H1
    clear H1
    obtain rfl := Option.some.inj H
    go_enter Tryz.func149, Tryz.ntmps149
    go_wp2_with (first | ((with_reducible refine gate_callee (f := 187) rfl ?_); refine goesL_ (some 6) rfl rfl Tryz.func187 (by kernel_rfl) rfl #[.string a0] rfl (by (try simp only [List.map_toArray, List.map_cons, List.map_nil]); first | done | rfl | (simp only [List.length_drop, List.length_take]; rfl)) ?_; (with_reducible refine (cmp_isNaN_string.calls a0 false _ ?side1 A3.out).mono ?_); (case side1 => repeat (first | exact HG.out | apply Tryz.gw_drewN | apply Tryz.gw_drew)); rintro e w' ⟨rfl, ⟨nd, rfl⟩⟩; refine ⟨_, rfl, ?_⟩))
    go_ret
    exact ⟨by first | rfl | (simp; done) | (simp [*]; done), by repeat (first | exact Drawn0.refl _ | apply Drawn0.step)⟩
def slices_isNaN_string.f (a0 : ByteArray) : Option (Bool) := some (a0.toList != a0.toList)
set_option maxHeartbeats 8000000 in
set_option maxRecDepth 100000 in
theorem slices_isNaN_string.calls (a0 : ByteArray) (r : Bool) (w : World) (hG : Tryz.GW w) (h : slices_isNaN_string.f a0 = some r) :
    Calls Tryz.prog 150 #[.string a0] w fun e w' => e = .returned (.bool r) ∧ Drawn0 w w' := by
  have HG := Aside0.mk hG
  clear hG
  have H : (some (a0.toList != a0.toList)) = some r := h
  clear h
  obtain rfl := Option.some.inj H
  go_enter Tryz.func150, Tryz.ntmps150
  go_wp2
  go_ret
  exact ⟨by first | rfl | (simp; done) | (simp [*]; done), by repeat (first | exact Drawn0.refl _ | apply Drawn0.step)⟩
end Go.Proofs.YthkeonbmgcphkaaGreatDoor.PB
