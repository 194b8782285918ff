import Derived.Test.YthkeonbmgcphkaaGreatDoorHg6
import Derived.Test.YthkeonbmgcphkaaGreatDoorHg15
namespace Go.Proofs.YthkeonbmgcphkaaGreatDoor.PM
open Go.RowKit Go.Proofs.YthkeonbmgcphkaaGreatDoorW.PrintWords Go.Proofs.YthkeonbmgcphkaaGreatDoorW.PrintLast Go.Proofs.YthkeonbmgcphkaaGreatDoorW.PrintMore
attribute [local go_sem] max2_int min2_int max_two min_two max_three min_three max_four min_four
set_option linter.unusedVariables false
set_option maxHeartbeats 8000000
set_option maxRecDepth 100000
set_option linter.unusedSimpArgs false
theorem aA.iL {P : Program} {ops : Array Oper} {Q : Exit → Act → World → Prop} {oi : Oper} {N : Option Tmp} {a : Act} {w : World} {K : Act → World → Prop} {f : FuncId} {fn : Func} {x : Operand} {ags : Array Operand} {ts : Array TypeId} {cap : Array Value} (hf : P.funcs[f]? = some fn) (hname : (fn.name == "runtime.NumGoroutine") = false) (hb : fn.body.isSome = true) (args : Array Value)
 (hw : Region.wanted oi (yielded ops a.tmps) = true) (hN : oi.dst = N) (hop : oi.op = .call { callee := .value x, args := ags, argTypes := ts }) (hx : a.eval x = .func (.func f) #[] cap) (hargs : ags.map a.eval ++ cap = args)
 (h : Calls P f args w fun e w' => ∃ v, e = .returned v ∧ K (a.put N v) w') : if Region.wanted oi (yielded ops a.tmps) = true then Oper.wp P oi a w K Q else K (a.put N undef) w := by
 refine call_ f args hw hN ?_ h
 have he := enters_ hf hname hb args w
 unfold execOp
 simp [hop, resolve, Deferred.ofValue, invoke, hx, hargs, he]
theorem aA.bld_below {T e : TypeId} {B b : Nat} {bs : List Value} {W W' : World} (h : Lib.IsBuilder T e B b bs W) (hb : Below W.heap.size W W') : Lib.IsBuilder T e B b bs W' := by
 have go : ∀ p, Lib.BuilderAt T e B b p bs W → Lib.BuilderAt T e B b p bs W' := by
  intro p h
  have hlt := h.lt
  obtain ⟨hB, v, hbk, hown, hne⟩ := h
  exact ⟨hB, v, (hb.block b hlt).trans hbk, hown.kept (row := none) ⟨hb.os, hb.tape, hb.output, hb.size, fun i hi _ => hb.block i hi⟩ (by simp; exact Classical.em _), hne⟩
 rcases h with h | h
 · exact .inl (go _ h)
 exact .inr (go _ h)
def aA.fG (ws : List ByteArray) : List UInt8 := Lib.join (ws.map (·.data.toList)) [32] ++ [10]
theorem aA.line_str (ws : List ByteArray) : ((⟨(Lib.join (ws.map (·.data.toList)) [32]).toArray⟩ : ByteArray) ++ ⟨#[10]⟩) = ⟨(aA.fG ws).toArray⟩ := by
 unfold aA.fG
 have h : (⟨#[10]⟩ : ByteArray) = ⟨([10] : List UInt8).toArray⟩ := rfl
 rw [h, ByteArray.mk_append_mk]
theorem aA.line_cells (acc : List UInt8) (ws : List ByteArray) : Lib.byteCells acc ++ Lib.strCells ((⟨(Lib.join (ws.map (·.data.toList)) [32]).toArray⟩ : ByteArray) ++ ⟨#[10]⟩) = Lib.byteCells (acc ++ aA.fG ws) := by
 rw [aA.line_str]
 unfold Lib.byteCells Lib.strCells
 rw [List.map_append]
theorem aA.line_size (ws : List ByteArray) : ((⟨(Lib.join (ws.map (·.data.toList)) [32]).toArray⟩ : ByteArray) ++ ⟨#[10]⟩).size = (aA.fG ws).length := by
 rw [aA.line_str]
 unfold ByteArray.size
 exact List.size_toArray
def aA.num (n : Int) : ByteArray := ⟨(Lib.itoa n).toArray⟩
def aA.inI (n : Int) : Prop := -9223372036854775808 ≤ n ∧ n ≤ 9223372036854775807
instance (n : Int) : Decidable (aA.inI n) := by unfold aA.inI; infer_instance
def aA.w1 (a0 a1 a2 a3 a4 : Int) : List ByteArray := [⟨#[114, 117, 108, 101, 115]⟩, aA.num a0, aA.num a1, aA.num a2, aA.num a3, aA.num a4]
def aA.cl (c : S66) : List ByteArray := c.f0 :: aA.num c.f2 :: aA.num c.f3 :: c.f1
def aA.rw4 (q : S44) : List ByteArray := [aA.num q.f0, aA.num q.f1, aA.num q.f2, aA.num q.f3]
def aA.arj (a : S68) (j : Nat) : List ByteArray := aA.num a.f0 :: aA.num a.f2 :: (a.f1.take j).flatMap aA.rw4
def aA.out5 (l : List S66) : List UInt8 := l.flatMap fun c => aA.fG (⟨#[99, 108, 97, 115, 115]⟩ :: aA.cl c)
def aA.out6 (l : List S68) : List UInt8 := l.flatMap fun a => aA.fG (⟨#[97, 114, 101, 97]⟩ :: aA.arj a a.f1.length)
def aA.acc5 (a0 a1 a2 a3 a4 : Int) (l5 : List S66) (i : Nat) : List UInt8 := aA.fG (aA.w1 a0 a1 a2 a3 a4) ++ aA.out5 (l5.take i)
def aA.acc6 (a0 a1 a2 a3 a4 : Int) (l5 : List S66) (l6 : List S68) (i : Nat) : List UInt8 := (aA.fG (aA.w1 a0 a1 a2 a3 a4) ++ aA.out5 l5) ++ aA.out6 (l6.take i)
def aA.all (a0 a1 a2 a3 a4 : Int) (l5 : List S66) (l6 : List S68) : List UInt8 := (aA.fG (aA.w1 a0 a1 a2 a3 a4) ++ aA.out5 l5) ++ aA.out6 l6
def aA.ok5 (c : S66) : Prop := aA.inI c.f2 ∧ aA.inI c.f3 ∧ c.f1.length ≤ 1000
def aA.ok4 (q : S44) : Prop := aA.inI q.f0 ∧ aA.inI q.f1 ∧ aA.inI q.f2 ∧ aA.inI q.f3
def aA.ok6 (a : S68) : Prop := aA.inI a.f0 ∧ aA.inI a.f2 ∧ a.f1.length ≤ 100000 ∧ ∀ q ∈ a.f1, aA.ok4 q
instance (c : S66) : Decidable (aA.ok5 c) := by unfold aA.ok5; infer_instance
instance (c : S44) : Decidable (aA.ok4 c) := by unfold aA.ok4; infer_instance
instance (c : S68) : Decidable (aA.ok6 c) := by unfold aA.ok6; infer_instance
def aA.f (k : Nat) (a0_0 : Int) (a0_1 : Int) (a0_2 : Int) (a0_3 : Int) (a0_4 : Int) (l0_5 : List (S66)) (l0_6 : List (S68)) : Option (ByteArray × Int) := (bZ.f k a0_0 a0_1 a0_2 a0_3 a0_4 l0_5 l0_6).bind fun t => if t = 0 then (if aA.inI a0_0 ∧ aA.inI a0_1 ∧ aA.inI a0_2 ∧ aA.inI a0_3 ∧ aA.inI a0_4 then (if (∀ c ∈ l0_5, aA.ok5 c) ∧ l0_5.length ≤ 1000 then (if (∀ c ∈ l0_6, aA.ok6 c) ∧ l0_6.length ≤ 1000 then (if (aA.all a0_0 a0_1 a0_2 a0_3 a0_4 l0_5 l0_6).length ≤ 70368744177664 then (if (aA.all a0_0 a0_1 a0_2 a0_3 a0_4 l0_5 l0_6).length ≤ 200000 then some (⟨(aA.all a0_0 a0_1 a0_2 a0_3 a0_4 l0_5 l0_6).toArray⟩, 0) else some (⟨#[]⟩, 2)) else none) else none) else none) else none) else some (⟨#[]⟩, t)
theorem aA.fA {n : Int} (h : aA.inI n) : strconv_Itoa.f n = some (aA.num n) := by
 unfold strconv_Itoa.f
 rw [if_pos h.1, if_pos h.2]
 rfl
structure aA.Ctx (w0 w : World) (gb b : Nat) (a0_0 a0_1 a0_2 a0_3 a0_4 : Int) (v5 v6 : Value) (acc : List UInt8) : Prop where
 below : Below w0.heap.size w0 w
 bk : w.heap[gb]? = some (.cells #[.int .i64 a0_0, .int .i64 a0_1, .int .i64 a0_2, .int .i64 a0_3, .int .i64 a0_4, v5, v6] 25 (0, 0))
 ge : w0.heap.size ≤ gb
 lt : gb < b
 bld : Lib.IsBuilder 56 5 b b (Lib.byteCells acc) w
variable {w0 w w' : World} {gb b : Nat} {a0_0 a0_1 a0_2 a0_3 a0_4 : Int} {v5 v6 : Value} {acc acc' : List UInt8}
theorem aA.Ctx.step (h : aA.Ctx w0 w gb b a0_0 a0_1 a0_2 a0_3 a0_4 v5 v6 acc) (hb : Below w.heap.size w w') : aA.Ctx w0 w' gb b a0_0 a0_1 a0_2 a0_3 a0_4 v5 v6 acc :=
 ⟨below_step h.below hb, blk_below h.bk hb, h.ge, h.lt, aA.bld_below h.bld hb⟩
theorem aA.Ctx.lined (h : aA.Ctx w0 w gb b a0_0 a0_1 a0_2 a0_3 a0_4 v5 v6 acc) (hl : Lib.IsBuilder 56 5 b b (Lib.byteCells acc') w') (hb : Below b w w') : aA.Ctx w0 w' gb b a0_0 a0_1 a0_2 a0_3 a0_4 v5 v6 acc' :=
 ⟨h.below.trans (hb.mono (Nat.le_of_lt (Nat.lt_of_le_of_lt h.ge h.lt))), (hb.block gb h.lt).trans h.bk, h.ge, h.lt, hl⟩
theorem aA.Ctx.cells (h : aA.Ctx w0 w gb b a0_0 a0_1 a0_2 a0_3 a0_4 v5 v6 acc) : w.cell? ⟨gb, 0, none⟩ = some (.int .i64 a0_0) ∧ w.cell? ⟨gb, 1, none⟩ = some (.int .i64 a0_1) ∧ w.cell? ⟨gb, 2, none⟩ = some (.int .i64 a0_2) ∧ w.cell? ⟨gb, 3, none⟩ = some (.int .i64 a0_3) ∧ w.cell? ⟨gb, 4, none⟩ = some (.int .i64 a0_4) :=
 ⟨(blk_cell h.bk 0).trans rfl, (blk_cell h.bk 1).trans rfl, (blk_cell h.bk 2).trans rfl, (blk_cell h.bk 3).trans rfl, (blk_cell h.bk 4).trans rfl⟩
theorem aA.take_rd {α : Type} (l : List α) (i : Nat) (d : α) (h : i < l.length) : l.take (i + 1) = l.take i ++ [l.getD i d] := by
 rw [List.getD_eq_getElem?_getD, List.getElem?_eq_getElem h, List.take_add_one, List.getElem?_eq_getElem h]
 rfl
theorem aA.acc5_zero (a0 a1 a2 a3 a4 : Int) (l5 : List S66) : [] ++ aA.fG [⟨#[114, 117, 108, 101, 115]⟩, aA.num a0, aA.num a1, aA.num a2, aA.num a3, aA.num a4] = aA.acc5 a0 a1 a2 a3 a4 l5 0 := by
 simp [aA.acc5, aA.out5, aA.w1]
theorem aA.acc5_succ (a0 a1 a2 a3 a4 : Int) (l5 : List S66) (i : Nat) (x : Int) (hx : x = (i : Int)) (h : i < l5.length) :
 aA.acc5 a0 a1 a2 a3 a4 l5 i ++ aA.fG (⟨#[99, 108, 97, 115, 115]⟩ :: aA.cl (aT l5 x)) = aA.acc5 a0 a1 a2 a3 a4 l5 (i + 1) := by
 subst hx
 have e : l5.take (i + 1) = l5.take i ++ [aT l5 (i : Int)] := aA.take_rd l5 i z66 h
 unfold aA.acc5 aA.out5
 rw [e, List.flatMap_append, List.append_assoc]
 simp
theorem aA.acc6_zero (a0 a1 a2 a3 a4 : Int) (l5 : List S66) (l6 : List S68) : aA.acc5 a0 a1 a2 a3 a4 l5 l5.length = aA.acc6 a0 a1 a2 a3 a4 l5 l6 0 := by
 simp [aA.acc5, aA.acc6, aA.out6]
theorem aA.acc6_succ (a0 a1 a2 a3 a4 : Int) (l5 : List S66) (l6 : List S68) (i : Nat) (x : Int) (hx : x = (i : Int)) (h : i < l6.length) :
 aA.acc6 a0 a1 a2 a3 a4 l5 l6 i ++ aA.fG (⟨#[97, 114, 101, 97]⟩ :: aA.arj (aV l6 x) (aV l6 x).f1.length) = aA.acc6 a0 a1 a2 a3 a4 l5 l6 (i + 1) := by
 subst hx
 have e : l6.take (i + 1) = l6.take i ++ [aV l6 (i : Int)] := aA.take_rd l6 i z68 h
 unfold aA.acc6 aA.out6
 rw [e, List.flatMap_append, List.append_assoc]
 simp
theorem aA.acc6_all (a0 a1 a2 a3 a4 : Int) (l5 : List S66) (l6 : List S68) : aA.acc6 a0 a1 a2 a3 a4 l5 l6 l6.length = aA.all a0 a1 a2 a3 a4 l5 l6 := by
 simp [aA.acc6, aA.all]
theorem aA.flat_take {α β : Type} (f : α → List β) (l : List α) (i : Nat) : ((l.take i).flatMap f).length ≤ (l.flatMap f).length := by
 have h : l.flatMap f = (l.take i).flatMap f ++ (l.drop i).flatMap f := by rw [← List.flatMap_append, List.take_append_drop]
 rw [h, List.length_append]
 exact Nat.le_add_right _ _
theorem aA.len_1 {a0 a1 a2 a3 a4 : Int} {l5 : List S66} {l6 : List S68} (h : (aA.all a0 a1 a2 a3 a4 l5 l6).length ≤ 70368744177664) : (aA.fG (aA.w1 a0 a1 a2 a3 a4)).length ≤ 70368744177664 := by
 unfold aA.all at h
 rw [List.length_append, List.length_append] at h
 omega
theorem aA.len_5 {a0 a1 a2 a3 a4 : Int} {l5 : List S66} {l6 : List S68} (h : (aA.all a0 a1 a2 a3 a4 l5 l6).length ≤ 70368744177664) {i : Nat} {x : Int} (hx : x = (i : Int)) (hi : i < l5.length) :
 (aA.acc5 a0 a1 a2 a3 a4 l5 i).length + (aA.fG (⟨#[99, 108, 97, 115, 115]⟩ :: aA.cl (aT l5 x))).length ≤ 140737488355328 := by
 rw [← List.length_append, aA.acc5_succ a0 a1 a2 a3 a4 l5 i x hx hi]
 have := aA.flat_take (fun c => aA.fG (⟨#[99, 108, 97, 115, 115]⟩ :: aA.cl c)) l5 (i + 1)
 unfold aA.all aA.out5 at h
 unfold aA.acc5 aA.out5
 rw [List.length_append, List.length_append] at h
 rw [List.length_append]
 omega
theorem aA.len_6 {a0 a1 a2 a3 a4 : Int} {l5 : List S66} {l6 : List S68} (h : (aA.all a0 a1 a2 a3 a4 l5 l6).length ≤ 70368744177664) {i : Nat} {x : Int} (hx : x = (i : Int)) (hi : i < l6.length) :
 (aA.acc6 a0 a1 a2 a3 a4 l5 l6 i).length + (aA.fG (⟨#[97, 114, 101, 97]⟩ :: aA.arj (aV l6 x) (aV l6 x).f1.length)).length ≤ 140737488355328 := by
 rw [← List.length_append, aA.acc6_succ a0 a1 a2 a3 a4 l5 l6 i x hx hi]
 have := aA.flat_take (fun a : S68 => aA.fG (⟨#[97, 114, 101, 97]⟩ :: aA.arj a a.f1.length)) l6 (i + 1)
 unfold aA.all aA.out6 at h
 unfold aA.acc6 aA.out6
 rw [List.length_append] at h
 rw [List.length_append]
 omega
theorem aA.cl_len {c : S66} (h : aA.ok5 c) : (aA.cl c).length ≤ 1000000 := by
 have := h.2.2
 unfold aA.cl
 simp only [List.length_cons]
 omega
theorem aA.flat4 (l : List S44) : (l.flatMap aA.rw4).length = 4 * l.length := by
 induction l with
 | nil => rfl
 | cons a l ih => rw [List.flatMap_cons, List.length_append, ih]; simp only [aA.rw4, List.length_cons, List.length_nil]; omega
theorem aA.arj_len (a : S68) (j : Nat) : (aA.arj a j).length ≤ 2 + 4 * a.f1.length := by
 unfold aA.arj
 simp only [List.length_cons]
 rw [aA.flat4, List.length_take]
 omega
theorem aA.arj_succ (a : S68) (j : Nat) (y : Int) (hy : y = (j : Int)) (h : j < a.f1.length) : aA.arj a j ++ [aA.num (aI a.f1 y).f0, aA.num (aI a.f1 y).f1, aA.num (aI a.f1 y).f2, aA.num (aI a.f1 y).f3] = aA.arj a (j + 1) := by
 subst hy
 have e : a.f1.take (j + 1) = a.f1.take j ++ [aI a.f1 (j : Int)] := aA.take_rd a.f1 j z44 h
 unfold aA.arj
 rw [e, List.flatMap_append]
 simp [aA.rw4]
theorem aA.inc {x : Int} {i : Nat} (hx : x = (i : Int)) (hi : i ≤ 1000000) : IntKind.i64.wrap (x + 1) = ((i + 1 : Nat) : Int) := by
 subst hx
 rw [i64_w]
 unfold Go.RowKit.wrap64
 omega
theorem aA.c4 {w : World} {g t : Nat} {c0 c1 c2 c3 : Value} (h : w.heap[g]? = some (.cells #[c0, c1, c2, c3] t (0, 0))) : w.cell? ⟨g, 0, none⟩ = some c0 ∧ w.cell? ⟨g, 1, none⟩ = some c1 ∧ w.cell? ⟨g, 2, none⟩ = some c2 ∧ w.cell? ⟨g, 3, none⟩ = some c3 := ⟨(blk_cell h 0).trans rfl, (blk_cell h 1).trans rfl, (blk_cell h 2).trans rfl, (blk_cell h 3).trans rfl⟩
theorem aA.c3 {w : World} {g t : Nat} {c0 c1 c2 : Value} (h : w.heap[g]? = some (.cells #[c0, c1, c2] t (0, 0))) : w.cell? ⟨g, 0, none⟩ = some c0 ∧ w.cell? ⟨g, 1, none⟩ = some c1 ∧ w.cell? ⟨g, 2, none⟩ = some c2 := ⟨(blk_cell h 0).trans rfl, (blk_cell h 1).trans rfl, (blk_cell h 2).trans rfl⟩
theorem aA.named {P : Program} {c : Code} {Q : Exit → Act → World → Prop} {a : Act} {W : World} (h : ∀ W', W' = W → c.wp P Q a W') : c.wp P Q a W := h W rfl
theorem aA.goesL {P : Program} {ops : Array Oper} {rest : List Oper} {oi : Oper} {a : Act} {Q : Exit → Act → World → Prop} {w : World} (N : Option Tmp) (hd : oi.dst = N) (hg : oi.guard = none) {f : FuncId} {fn : Func} {x : Operand} {as_ : Array Operand} {ts : Array TypeId} {cap : Array Value} (hf : P.funcs[f]? = some fn) (hname : (fn.name == "runtime.NumGoroutine") = false) (hb : fn.body.isSome = true) (args : Array Value)
 (hop : oi.op = .call { callee := .value x, args := as_, argTypes := ts }) (hv : a.eval x = .func (.func f) #[] cap) (hargs : as_.map a.eval ++ cap = args)
 (h : Calls P f args w fun e w' => ∃ v, e = .returned v ∧ wpList P ops Q rest (a.put N v) w') : wpList P ops Q (oi :: rest) a w := by
 refine wpList_plain hg fun K hK => ?_
 have he := enters_ hf hname hb args w
 have hrun : (execOp a.eval oi).run P w = .ok (.enter f args) w := by
  unfold execOp
  simp [hop, resolve, Deferred.ofValue, invoke, hv, hargs, he]
 unfold Oper.wp
 rw [hrun, Oper.upon_enter]
 refine h.mono fun e w'' hh => ?_
 obtain ⟨v, rfl, hk⟩ := hh
 subst hd
 exact hK _ _ hk
theorem aA.rd_mem5 {l : List S66} {x : Int} {i : Nat} (hx : x = (i : Int)) (h : i < l.length) : aT l x ∈ l := by
 subst hx
 unfold aT
 rw [Int.toNat_natCast, List.getD_eq_getElem?_getD, List.getElem?_eq_getElem h]
 exact List.getElem_mem h
theorem aA.rd_mem6 {l : List S68} {x : Int} {i : Nat} (hx : x = (i : Int)) (h : i < l.length) : aV l x ∈ l := by
 subst hx
 unfold aV
 rw [Int.toNat_natCast, List.getD_eq_getElem?_getD, List.getElem?_eq_getElem h]
 exact List.getElem_mem h
theorem aA.rd_mem4 {l : List S44} {x : Int} {i : Nat} (hx : x = (i : Int)) (h : i < l.length) : aI l x ∈ l := by
 subst hx
 unfold aI
 rw [Int.toNat_natCast, List.getD_eq_getElem?_getD, List.getElem?_eq_getElem h]
 exact List.getElem_mem h
theorem aA.arj_le {a : S68} (h : aA.ok6 a) : (aA.arj a a.f1.length).length ≤ 1000000 := by
 have := aA.arj_len a a.f1.length
 have := h.2.2.1
 omega
theorem aA.line (b : Nat) (acc : List UInt8) (word : ByteArray) (A : Option Addr) (c : Nat) (more : List ByteArray) (w : World) (hB : Lib.IsBuilder 56 5 b b (Lib.byteCells acc) w) (hr : Kd.C Kd.string w A more.length more) (hc : more.length ≤ c) (hm : more.length ≤ 1000000)
 (hlen : acc.length + (aA.fG (word :: more)).length ≤ 140737488355328) :
 Calls Tryz.prog 25 #[.string word, .slice A more.length c, .pointer (some ⟨b, 0, none⟩)] w fun e w' => e = .returned (.tuple #[]) ∧ Lib.IsBuilder 56 5 b b (Lib.byteCells (acc ++ aA.fG (word :: more))) w' ∧ Below b w w' := by
 have hbw : b < w.heap.size := by rcases hB with h | h <;> exact h.lt
 have hJ : (Lib.join (word.data.toList :: List.map (fun x => x.data.toList) more) [32]).length + 1 ≤ 140737488355328 := by
  have h := hlen
  unfold aA.fG at h
  rw [List.length_append] at h
  exact Nat.le_trans (Nat.le_add_left _ _) h
 have HBD := am_ hB
 have HR := am_ hr
 have HC := am_ hc
 have HM := am_ hm
 have HL := am_ hlen
 clear hB hr hc hm hlen
 have hu9 := Tryz.underlying9
 go_enter Tryz.func25, Tryz.ntmps25
 go_wp2_with (first | ((with_reducible refine gn_ 6 rfl ?_); refine Kd.R_lit Kd.string _ 9 ?hg (N := 6) ?hd (xs := ([word] : List ByteArray)) (inner := [.string word]) (ok := fun _ => True) (okp := fun _ => True) ?hr ?hp (fun _ hk => hk) trivial (Below.refl w.heap.size w) (Nat.le_refl _) (by simp) ?_; (case hd => rfl); (case hg => rfl); (case hr => first | (go_simp; done) | (go_simp; rfl)); (case hp => exact (Reps.one (show Kd.M Kd.string _ _ _ word [.string word] from rfl) (Reps.none _ _))); intro v1 w1 ho hb hg_ hnew_; have HO := am_ ho; have HB := am_ hb; clear hg_ hnew_ ho hb; obtain ⟨A1, c1, e1⟩ := Kd.R_slice HO.out; subst e1) | ((with_reducible refine gate_builtin (b := .append) (xs := #[.tmp 6, .tmp 7]) rfl ?_); at_builtin; refine Kd.R_append_rows Kd.string (w0 := w) w.heap.size rfl (.tmp 6) (.tmp 7) 57 9 (.string ⟨#[]⟩) 16 rfl Tryz.underlying57 info9 rfl (by decide) (by omega) (.slice A1 [word].length c1) ([word] : List ByteArray) more _ _ _ (fun _ => True) (fun _ => False) rfl rfl ?aO ?aR (fun _ _ h => h) (fun _ h => h.elim) ?aF ?aB ?aS ?aL ?_; (case aR => exact Kd.C_below HR.out HB.out); (case aO => exact HO.out); (case aF => exact fun _ _ => trivial); (case aB => exact HB.out); (case aS => exact HB.out.size); (case aL => have := HM.out; simp only [List.length_cons, List.length_nil]; omega); intro v2 w2 ho hb hg_ hnew_; have HO2 : Aside0 (Kd.R Kd.string 9 w2 w.heap.size (fun _ => True) v2 (word :: more)) := am_ ho; have HB2 := am_ hb; clear hg_ hnew_ ho hb HO HB; obtain ⟨g2, c2, e2, hg2, hg2', _⟩ := Kd.R_form HO2.out (by simp); subst e2) | (go_at_call 27; (refine (Tryz.strings_Join g2 0 c2 (word :: more) ⟨#[32]⟩ _ (fun j x hx => ?jc) ?jb ?jn ?jk ?jl).mono ?_; (case jc => have hj := (List.getElem?_eq_some_iff.1 hx).1; have h1 := (Kd.R_cell ByteArray.empty HO2.out (j : Int) (by omega) (by omega)).1; rw [Int.toNat_natCast] at h1; rw [show rdOf ByteArray.empty (word :: more) (j : Int) = x by unfold rdOf; rw [Int.toNat_natCast, List.getD_eq_getElem?_getD, hx]; rfl] at h1; rw [Nat.zero_add]; exact h1); (case jb => exact hg2'); (case jn => have := HM.out; simp only [List.length_cons]; omega); (case jk => exact (Kd.R_reads' HO2.out).2.1); (case jl => have := HL.out; unfold aA.fG at this; rw [List.length_append] at this; exact Nat.le_trans (Nat.le_trans (Nat.le_add_right _ _) (Nat.le_add_left _ _)) this); rintro e w3 ⟨rfl, hb⟩; have HB3 := am_ (below_step HB2.out hb); clear hb)) | (go_at_call 26; (refine (Tryz.Builder_WriteString b b (Lib.byteCells acc) _ _ (aA.bld_below HBD.out HB3.out) ?wl (Nat.le_trans (Nat.le_of_lt hbw) HB3.out.size)).mono ?_; (case wl => rw [Lib.byteCells_length]; exact Nat.le_trans (Nat.le_of_eq (congrArg (acc.length + ·) (aA.line_size (word :: more)))) HL.out); rintro e w4 ⟨rfl, hat, hb⟩; have HF := am_ hat; have HB4 := am_ hb; clear hat hb)))
 go_end0
 refine ⟨rfl, ?_, (HB3.out.mono (Nat.le_of_lt hbw)).trans HB4.out⟩
 have := HF.out
 exact .inr (by rw [← aA.line_cells acc (word :: more)]; exact this)
theorem aA.calls (k : Nat) (a0_0 : Int) (a0_1 : Int) (a0_2 : Int) (a0_3 : Int) (a0_4 : Int) (A0_5 : Option Addr) (c0_5 : Nat) (l0_5 : List (S66)) (A0_6 : Option Addr) (c0_6 : Nat) (l0_6 : List (S68)) (r1 : ByteArray) (r2 : Int) (w : World) (hG : Tryz.GW w) (hr0_5 : Kd.C k66 w A0_5 l0_5.length l0_5) (hc0_5 : l0_5.length ≤ c0_5) (hr0_6 : Kd.C k68 w A0_6 l0_6.length l0_6) (hc0_6 : l0_6.length ≤ c0_6) (h : aA.f k a0_0 a0_1 a0_2 a0_3 a0_4 l0_5 l0_6 = some (r1, r2)) :
 Calls Tryz.prog 10 #[.agg #[.int .i64 a0_0, .int .i64 a0_1, .int .i64 a0_2, .int .i64 a0_3, .int .i64 a0_4, .slice A0_5 l0_5.length c0_5, .slice A0_6 l0_6.length c0_6]] w fun e w' => e = .returned (.tuple #[.string r1, .int .i64 r2]) ∧ Below w.heap.size w w' := by
 have hu25 := Tryz.underlying25
 have HG := am_ hG
 have HR5 := am_ hr0_5
 have HC5 := am_ hc0_5
 have HR6 := am_ hr0_6
 have HC6 := am_ hc0_6
 have HB := am_ (Below.refl w.heap.size w)
 clear hG hr0_5 hc0_5 hr0_6 hc0_6
 unfold aA.f at h
 obtain ⟨t, ht, h⟩ := Option.bind_eq_some_iff.1 h
 have HT := am_ ht
 have H := am_ h
 clear ht h
 have hmf : ∀ (fn : Fn) (first cap : Array Value) (w : World), (Instr.makeFunc fn first cap).run Tryz.prog w = .ok (.func fn first cap) w := fun _ _ _ _ => rfl
 by_cases ht0 : t = 0
 rotate_left
 · have z1 : (t == 0) = false := beq_eq_false_iff_ne.2 ht0
   have z2 : (t != 0) = true := bne_iff_ne.2 ht0
   have h := H.out
   rw [if_neg ht0] at h
   obtain ⟨rfl, rfl⟩ := Prod.mk.inj (Option.some.inj h)
   go_enter Tryz.func10, Tryz.ntmps10
   go_wp2_with (first | ((with_reducible refine gn_ 1 rfl ?_); refine bx_ (N := 1) (cs := #[.int .i64 a0_0, .int .i64 a0_1, .int .i64 a0_2, .int .i64 a0_3, .int .i64 a0_4, .slice A0_5 l0_5.length c0_5, .slice A0_6 l0_6.length c0_6]) (t := 25) ?_; intro gb hg w2 hbox hb; have BK := am_ hbox; have n1 := am_ (below_step HB.out hb); have GB : w.heap.size ≤ gb := (by rw [hg]; exact HB.out.size); clear HB; have HB := n1; clear n1 hb hbox hg; have hcz_0 : w2.cell? ⟨gb, 0, none⟩ = some (.int .i64 a0_0) := (blk_cell BK.out 0).trans rfl; have hcz_1 : w2.cell? ⟨gb, 1, none⟩ = some (.int .i64 a0_1) := (blk_cell BK.out 1).trans rfl; have hcz_2 : w2.cell? ⟨gb, 2, none⟩ = some (.int .i64 a0_2) := (blk_cell BK.out 2).trans rfl; have hcz_3 : w2.cell? ⟨gb, 3, none⟩ = some (.int .i64 a0_3) := (blk_cell BK.out 3).trans rfl; have hcz_4 : w2.cell? ⟨gb, 4, none⟩ = some (.int .i64 a0_4) := (blk_cell BK.out 4).trans rfl; have hcz_5 : w2.cell? ⟨gb, 5, none⟩ = some (.slice A0_5 l0_5.length c0_5) := (blk_cell BK.out 5).trans rfl; have hcz_6 : w2.cell? ⟨gb, 6, none⟩ = some (.slice A0_6 l0_6.length c0_6) := (blk_cell BK.out 6).trans rfl) | (go_at_call 12; refine (bZ.calls k a0_0 a0_1 a0_2 a0_3 a0_4 A0_5 c0_5 l0_5 A0_6 c0_6 l0_6 t _ (Tryz.dJ HG.out HB.out) (Kd.C_below HR5.out HB.out) HC5.out (Kd.C_below HR6.out HB.out) HC6.out HT.out).mono ?_; rintro e w3 ⟨rfl, hb⟩; have BK2 := am_ (blk_below BK.out hb); have n1 := am_ (below_step HB.out hb); clear HB; have HB := n1; clear n1 hb))
   first | go_ret2 | go_ret
   exact ⟨rfl, HB.out⟩
 subst ht0
 go_enter Tryz.func10, Tryz.ntmps10
 go_upto_region 4 with (first | ((with_reducible refine gn_ 1 rfl ?_); refine bx_ (N := 1) (cs := #[.int .i64 a0_0, .int .i64 a0_1, .int .i64 a0_2, .int .i64 a0_3, .int .i64 a0_4, .slice A0_5 l0_5.length c0_5, .slice A0_6 l0_6.length c0_6]) (t := 25) ?_; intro gb hg w2 hbox hb; have BK := am_ hbox; have n1 := am_ (below_step HB.out hb); have GB : w.heap.size ≤ gb := (by rw [hg]; exact HB.out.size); clear HB; have HB := n1; clear n1 hb hbox hg; have hcz_0 : w2.cell? ⟨gb, 0, none⟩ = some (.int .i64 a0_0) := (blk_cell BK.out 0).trans rfl; have hcz_1 : w2.cell? ⟨gb, 1, none⟩ = some (.int .i64 a0_1) := (blk_cell BK.out 1).trans rfl; have hcz_2 : w2.cell? ⟨gb, 2, none⟩ = some (.int .i64 a0_2) := (blk_cell BK.out 2).trans rfl; have hcz_3 : w2.cell? ⟨gb, 3, none⟩ = some (.int .i64 a0_3) := (blk_cell BK.out 3).trans rfl; have hcz_4 : w2.cell? ⟨gb, 4, none⟩ = some (.int .i64 a0_4) := (blk_cell BK.out 4).trans rfl; have hcz_5 : w2.cell? ⟨gb, 5, none⟩ = some (.slice A0_5 l0_5.length c0_5) := (blk_cell BK.out 5).trans rfl; have hcz_6 : w2.cell? ⟨gb, 6, none⟩ = some (.slice A0_6 l0_6.length c0_6) := (blk_cell BK.out 6).trans rfl) | (go_at_call 12; refine (bZ.calls k a0_0 a0_1 a0_2 a0_3 a0_4 A0_5 c0_5 l0_5 A0_6 c0_6 l0_6 0 _ (Tryz.dJ HG.out HB.out) (Kd.C_below HR5.out HB.out) HC5.out (Kd.C_below HR6.out HB.out) HC6.out HT.out).mono ?_; rintro e w3 ⟨rfl, hb⟩; have BK2 := am_ (blk_below BK.out hb); have n1 := am_ (below_step HB.out hb); clear HB; have HB := n1; clear n1 hb))
 have h := H.out
 first | rw [if_pos rfl] at h | rw [if_true] at h
 by_cases hi : aA.inI a0_0 ∧ aA.inI a0_1 ∧ aA.inI a0_2 ∧ aA.inI a0_3 ∧ aA.inI a0_4
 case neg => rw [if_neg hi] at h; cases h
 rw [if_pos hi] at h
 by_cases h5 : (∀ c ∈ l0_5, aA.ok5 c) ∧ l0_5.length ≤ 1000
 case neg => rw [if_neg h5] at h; cases h
 rw [if_pos h5] at h
 by_cases h6 : (∀ c ∈ l0_6, aA.ok6 c) ∧ l0_6.length ≤ 1000
 case neg => rw [if_neg h6] at h; cases h
 rw [if_pos h6] at h
 by_cases hsz : (aA.all a0_0 a0_1 a0_2 a0_3 a0_4 l0_5 l0_6).length ≤ 70368744177664
 case neg => rw [if_neg hsz] at h; cases h
 rw [if_pos hsz] at h
 have HI := am_ hi
 have H5 := am_ h5
 have H6 := am_ h6
 have HSZ := am_ hsz
 have HH := am_ h
 clear h H HT hi h5 h6 hsz hcz_0 hcz_1 hcz_2 hcz_3 hcz_4 hcz_5 hcz_6 BK
 go_upto_region 7 with (((with_reducible refine gn_ 5 rfl ?_); refine bx_ (N := 5) (cs := #[.pointer none, .slice none 0 0]) (t := 56) ?_; intro b hg w4 hbox hb; have JC : Aside0 (aA.Ctx w w4 gb b a0_0 a0_1 a0_2 a0_3 a0_4 (.slice A0_5 l0_5.length c0_5) (.slice A0_6 l0_6.length c0_6) []) := ⟨⟨below_step HB.out hb, blk_below BK2.out hb, GB, by rw [hg]; exact blk_lt BK2.out, .inl ⟨Nat.le_refl _, _, hbox, World.ownsRow_nil _ _ _ _, by simp [Value.ownBlock]⟩⟩⟩; clear hg hb hbox))
 go_wp2
 have JX := am_ (JC.out.step (below_drew1 (Below.refl _ _)))
 clear JC HB BK2
 have JC := JX
 clear JX
 refine start_ (n := 23) (S := (fun w' => w'.cell? ⟨gb, 0, none⟩ = some (.int .i64 a0_0) ∧ w'.cell? ⟨gb, 1, none⟩ = some (.int .i64 a0_1) ∧ w'.cell? ⟨gb, 2, none⟩ = some (.int .i64 a0_2) ∧ w'.cell? ⟨gb, 3, none⟩ = some (.int .i64 a0_3) ∧ w'.cell? ⟨gb, 4, none⟩ = some (.int .i64 a0_4))) (ds := []) (bv 23 0) (by kernel_rfl) rfl rfl JC.out.cells (fun hHeld => ?_)
 generalize w4.drew = w5 at JC hHeld ⊢
 refine pu_ 0 21 (bv 23 1) ?_
 refine pu_ 1 22 (bv 23 3) ?_
 refine pu_ 2 23 (bv 23 7) ?_
 refine tk_ 3 24 (bv 23 15) hHeld ?_
 refine pu_ 5 26 (bv 23 47) ?_
 refine pu_ 6 27 (bv 23 111) ?_
 refine tk_ 7 28 (bv 23 239) hHeld ?_
 refine pu_ 9 30 (bv 23 751) ?_
 refine pu_ 10 31 (bv 23 1775) ?_
 refine tk_ 11 32 (bv 23 3823) hHeld ?_
 refine pu_ 13 34 (bv 23 12015) ?_
 refine pu_ 14 35 (bv 23 28399) ?_
 refine tk_ 15 36 (bv 23 61167) hHeld ?_
 refine pu_ 17 38 (bv 23 192239) ?_
 refine pu_ 18 39 (bv 23 454383) ?_
 refine tk_ 19 40 (bv 23 978671) hHeld ?_
 refine one_ (i := 4) (N := some 25) (bv 23 978687) rfl rfl (by kernel_rfl) (by decide) (fun K hK => ?_)
 refine aA.iL Tryz.func28 (by kernel_rfl) rfl #[.int .i64 (a0_0)] (by rfl) rfl rfl rfl (by (try simp only [List.map_toArray, List.map_cons, List.map_nil]); first | done | rfl) ?_
 refine (strconv_Itoa.calls (a0_0) (aA.num (a0_0)) _ (Tryz.dJ HG.out JC.out.below) (aA.fA (HI.out.1))).mono ?_
 rintro e wX ⟨rfl, hbX⟩
 refine ⟨_, rfl, ?_⟩
 have JX := am_ (JC.out.step hbX)
 clear JC
 have JC := JX
 clear JX
 clear hbX
 refine hK.out _ _ (JC.out.cells) (fun hHeld => ?_)
 clear hK K
 refine norm_ (a' := ?_) ?_ ?_
 rotate_left
 · show Act.put _ (some 25) _ = _
   simp only [Act.put, List.setIfInBounds_toArray, List.set_cons_zero, List.set_cons_succ, i64_w, i32_w]
   rfl
 refine one_ (i := 8) (N := some 29) (bv 23 978943) rfl rfl (by kernel_rfl) (by decide) (fun K hK => ?_)
 refine aA.iL Tryz.func28 (by kernel_rfl) rfl #[.int .i64 (a0_1)] (by rfl) rfl rfl rfl (by (try simp only [List.map_toArray, List.map_cons, List.map_nil]); first | done | rfl) ?_
 refine (strconv_Itoa.calls (a0_1) (aA.num (a0_1)) _ (Tryz.dJ HG.out JC.out.below) (aA.fA (HI.out.2.1))).mono ?_
 rintro e wX ⟨rfl, hbX⟩
 refine ⟨_, rfl, ?_⟩
 have JX := am_ (JC.out.step hbX)
 clear JC
 have JC := JX
 clear JX
 clear hbX
 refine hK.out _ _ (JC.out.cells) (fun hHeld => ?_)
 clear hK K
 refine norm_ (a' := ?_) ?_ ?_
 rotate_left
 · show Act.put _ (some 29) _ = _
   simp only [Act.put, List.setIfInBounds_toArray, List.set_cons_zero, List.set_cons_succ, i64_w, i32_w]
   rfl
 refine one_ (i := 12) (N := some 33) (bv 23 983039) rfl rfl (by kernel_rfl) (by decide) (fun K hK => ?_)
 refine aA.iL Tryz.func28 (by kernel_rfl) rfl #[.int .i64 (a0_2)] (by rfl) rfl rfl rfl (by (try simp only [List.map_toArray, List.map_cons, List.map_nil]); first | done | rfl) ?_
 refine (strconv_Itoa.calls (a0_2) (aA.num (a0_2)) _ (Tryz.dJ HG.out JC.out.below) (aA.fA (HI.out.2.2.1))).mono ?_
 rintro e wX ⟨rfl, hbX⟩
 refine ⟨_, rfl, ?_⟩
 have JX := am_ (JC.out.step hbX)
 clear JC
 have JC := JX
 clear JX
 clear hbX
 refine hK.out _ _ (JC.out.cells) (fun hHeld => ?_)
 clear hK K
 refine norm_ (a' := ?_) ?_ ?_
 rotate_left
 · show Act.put _ (some 33) _ = _
   simp only [Act.put, List.setIfInBounds_toArray, List.set_cons_zero, List.set_cons_succ, i64_w, i32_w]
   rfl
 refine one_ (i := 16) (N := some 37) (bv 23 1048575) rfl rfl (by kernel_rfl) (by decide) (fun K hK => ?_)
 refine aA.iL Tryz.func28 (by kernel_rfl) rfl #[.int .i64 (a0_3)] (by rfl) rfl rfl rfl (by (try simp only [List.map_toArray, List.map_cons, List.map_nil]); first | done | rfl) ?_
 refine (strconv_Itoa.calls (a0_3) (aA.num (a0_3)) _ (Tryz.dJ HG.out JC.out.below) (aA.fA (HI.out.2.2.2.1))).mono ?_
 rintro e wX ⟨rfl, hbX⟩
 refine ⟨_, rfl, ?_⟩
 have JX := am_ (JC.out.step hbX)
 clear JC
 have JC := JX
 clear JX
 clear hbX
 refine hK.out _ _ (JC.out.cells) (fun hHeld => ?_)
 clear hK K
 refine norm_ (a' := ?_) ?_ ?_
 rotate_left
 · show Act.put _ (some 37) _ = _
   simp only [Act.put, List.setIfInBounds_toArray, List.set_cons_zero, List.set_cons_succ, i64_w, i32_w]
   rfl
 refine one_ (i := 20) (N := some 41) (bv 23 2097151) rfl rfl (by kernel_rfl) (by decide) (fun K hK => ?_)
 refine aA.iL Tryz.func28 (by kernel_rfl) rfl #[.int .i64 (a0_4)] (by rfl) rfl rfl rfl (by (try simp only [List.map_toArray, List.map_cons, List.map_nil]); first | done | rfl) ?_
 refine (strconv_Itoa.calls (a0_4) (aA.num (a0_4)) _ (Tryz.dJ HG.out JC.out.below) (aA.fA (HI.out.2.2.2.2))).mono ?_
 rintro e wX ⟨rfl, hbX⟩
 refine ⟨_, rfl, ?_⟩
 have JX := am_ (JC.out.step hbX)
 clear JC
 have JC := JX
 clear JX
 clear hbX
 refine hK.out _ _ (JC.out.cells) (fun hHeld => ?_)
 clear hK K
 refine norm_ (a' := ?_) ?_ ?_
 rotate_left
 · show Act.put _ (some 41) _ = _
   simp only [Act.put, List.setIfInBounds_toArray, List.set_cons_zero, List.set_cons_succ, i64_w, i32_w]
   rfl
 refine one_ (i := 21) (N := some 42) (bv 23 4194303) rfl rfl (by kernel_rfl) (by decide) (fun K hK => ?_)
 refine Kd.R_lit_step Kd.string _ 9 (by rfl) (N := 42) rfl (xs := ([aA.num a0_0, aA.num a0_1, aA.num a0_2, aA.num a0_3, aA.num a0_4] : List ByteArray)) (inner := [.string (aA.num a0_0), .string (aA.num a0_1), .string (aA.num a0_2), .string (aA.num a0_3), .string (aA.num a0_4)]) (ok := fun _ => True) (okp := fun _ => True) ?hr ?hp (fun _ hk => hk) trivial (Below.refl _ _) (Nat.le_refl _) (by simp) ?_
 case hr => first | (go_simp; done) | (go_simp; rfl)
 case hp => exact (Reps.one (show Kd.M Kd.string _ _ _ (aA.num a0_0) [.string (aA.num a0_0)] from rfl) (Reps.one (show Kd.M Kd.string _ _ _ (aA.num a0_1) [.string (aA.num a0_1)] from rfl) (Reps.one (show Kd.M Kd.string _ _ _ (aA.num a0_2) [.string (aA.num a0_2)] from rfl) (Reps.one (show Kd.M Kd.string _ _ _ (aA.num a0_3) [.string (aA.num a0_3)] from rfl) (Reps.one (show Kd.M Kd.string _ _ _ (aA.num a0_4) [.string (aA.num a0_4)] from rfl) (Reps.none _ _))))))
 intro vL wL hL hbX _ _
 obtain ⟨AL, cL, eL⟩ := Kd.R_slice hL
 subst eL
 have HLRL := am_ (hL)
 have JX := am_ (JC.out.step hbX)
 clear JC
 have JC := JX
 clear JX
 clear hbX hL
 refine hK.out _ _ (JC.out.cells) (fun hHeld => ?_)
 clear hK K
 refine norm_ (a' := ?_) ?_ ?_
 rotate_left
 · show Act.put _ (some 42) _ = _
   simp only [Act.put, List.setIfInBounds_toArray, List.set_cons_zero, List.set_cons_succ, i64_w, i32_w]
   rfl
 refine one_ (i := 22) (N := some 43) (bv 23 8388607) rfl rfl (by kernel_rfl) (by decide) (fun K hK => ?_)
 refine aA.iL Tryz.func25 (by kernel_rfl) rfl #[.string ⟨#[114, 117, 108, 101, 115]⟩, .slice AL [aA.num a0_0, aA.num a0_1, aA.num a0_2, aA.num a0_3, aA.num a0_4].length cL, .pointer (some ⟨b, 0, none⟩)] (by rfl) rfl rfl rfl (by (try simp only [List.map_toArray, List.map_cons, List.map_nil]); first | done | rfl) ?_
 refine (aA.line b [] ⟨#[114, 117, 108, 101, 115]⟩ AL cL [aA.num a0_0, aA.num a0_1, aA.num a0_2, aA.num a0_3, aA.num a0_4] _ JC.out.bld (Kd.R_reads' HLRL.out).2.2 (Kd.R_reads' HLRL.out).2.1 (by simp) (by have h := aA.len_1 HSZ.out; unfold aA.w1 at h; simp only [List.length_nil]; omega)).mono ?_
 rintro e wY ⟨rfl, hbld, hbX⟩
 refine ⟨_, rfl, ?_⟩
 have JX := am_ (JC.out.lined hbld hbX)
 clear JC hbX hbld
 have JC := JX
 clear JX
 refine hK.out _ _ JC.out.cells (fun hHeld => ?_)
 clear hK K
 refine norm_ (a' := ?_) ?_ ?_
 rotate_left
 · show Act.put _ (some 43) _ = _
   simp only [Act.put, List.setIfInBounds_toArray, List.set_cons_zero, List.set_cons_succ, i64_w, i32_w]
   rfl
 refine done_ (by kernel_rfl) ?_
 clear hHeld HLRL
 have hcz_1 : wY.cell? ⟨gb, 5, none⟩ = some (.slice A0_5 l0_5.length c0_5) := (blk_cell JC.out.bk 5).trans rfl
 rw [aA.acc5_zero a0_0 a0_1 a0_2 a0_3 a0_4 l0_5] at JC
 go_wp2
 go_loopg [47] l0_5.length (fun gk v47 wb => ∃ (x : Int) (i : Nat), v47 = .int .i64 x ∧ Aside0 (x = (i : Int)) ∧ Aside0 (i + gk = l0_5.length) ∧ Aside0 (aA.Ctx w wb gb b a0_0 a0_1 a0_2 a0_3 a0_4 (.slice A0_5 l0_5.length c0_5) (.slice A0_6 l0_6.length c0_6) (aA.acc5 a0_0 a0_1 a0_2 a0_3 a0_4 l0_5 i)))
 case atStart => exact ⟨0, 0, rfl, ⟨rfl⟩, ⟨by omega⟩, JC⟩
 case round =>
  clear JC hcz_1
  obtain ⟨x, i, rfl, HX, HK1, JC⟩ := hrel
  rename World => wb
  by_cases hci : i < l0_5.length
  · obtain ⟨k1, hk1⟩ : ∃ k1, gk = k1 + 1 := ⟨gk - 1, by have := HK1.out; omega⟩
    subst hk1
    have p1 : (0 ≤ x) = True := eq_true (by have := HX.out; omega)
    have q1 : (x < (l0_5.length : Int)) = True := eq_true (by have := HX.out; omega)
    have q1d : decide (x < (l0_5.length : Int)) = true := decide_eq_true (of_eq_true q1)
    obtain ⟨ad, A1, c1, e1, hx0, hx1, hx2, hx3, hl1, hi1⟩ := iI HR5.out x (of_eq_true p1) (of_eq_true q1)
    cases e1
    replace hx0 := ce_ ⟨JC.out.below⟩ hx0
    replace hx1 := ce_ ⟨JC.out.below⟩ hx1
    replace hx2 := ce_ ⟨JC.out.below⟩ hx2
    replace hx3 := ce_ ⟨JC.out.below⟩ hx3
    have HN := am_ hi1
    clear hi1
    have HO : Aside0 (aA.ok5 (aT l0_5 x)) := ⟨H5.out.1 _ (aA.rd_mem5 HX.out hci)⟩
    go_upto_region 11 with ((with_reducible refine gn_ 9 rfl ?_); refine bx_ (N := 9) (cs := #[.string (⟨#[]⟩ : ByteArray), .slice none 0 0, .int .i64 0, .int .i64 0]) (t := 66) ?_; intro gc hg wA hbox hb; have B0 := am_ hbox; have HA := am_ hb; have GC := am_ (Nat.le_of_eq hg.symm); clear hg hbox hb; obtain ⟨hcz_0, hcz_1, hcz_2, hcz_3, hfz_0, hfz_1, hfz_2, hfz_3⟩ := bc4_ B0)
    refine aA.named ?_
    intro w5 hw5
    have hBC : w5.drew.heap[gc]? = some (.cells #[.string (aT l0_5 x).f0, .slice A1 (aT l0_5 x).f1.length c1, .int .i64 (aT l0_5 x).f2, .int .i64 (aT l0_5 x).f3] 66 (0, 0)) := by
     rw [hw5]
     exact bw_ B0
    have BC := am_ hBC
    clear hBC
    have hHBb : Below wb.heap.size wb w5.drew := by
     rw [hw5]
     repeat (first | exact HA.out | apply below_drew1 | refine below_set ?_ GC.out)
    have HBb := am_ hHBb
    clear hHBb
    clear hw5 hcz_0 hcz_1 hcz_2 hcz_3 hfz_0 hfz_1 hfz_2 hfz_3 hx0 hx1 hx2 hx3 B0 HA
    refine start_ (n := 16) (S := (fun w' => w'.cell? ⟨gc, 0, none⟩ = some (.string ((aT l0_5 x).f0)) ∧ w'.cell? ⟨gc, 1, none⟩ = some (.slice A1 ((aT l0_5 x).f1).length c1) ∧ w'.cell? ⟨gc, 2, none⟩ = some (.int .i64 ((aT l0_5 x).f2)) ∧ w'.cell? ⟨gc, 3, none⟩ = some (.int .i64 ((aT l0_5 x).f3)))) (ds := [14, 15]) (bv 16 0) (by kernel_rfl) rfl rfl (aA.c4 BC.out) (fun hHeld => ?_)
    refine pu_ 0 51 (bv 16 1) ?_
    refine pu_ 1 52 (bv 16 3) ?_
    refine tk_ 2 53 (bv 16 7) hHeld ?_
    refine pu_ 3 54 (bv 16 15) ?_
    refine pu_ 4 55 (bv 16 31) ?_
    refine tk_ 5 56 (bv 16 63) hHeld ?_
    refine pu_ 7 58 (bv 16 191) ?_
    refine pu_ 8 59 (bv 16 447) ?_
    refine tk_ 9 60 (bv 16 959) hHeld ?_
    refine pu_ 12 63 (bv 16 5055) ?_
    refine tk_ 13 64 (bv 16 13247) hHeld ?_
    refine one_ (i := 6) (N := some 57) (bv 16 13311) rfl rfl (by kernel_rfl) (by decide) (fun K hK => ?_)
    refine aA.iL Tryz.func28 (by kernel_rfl) rfl #[.int .i64 ((aT l0_5 x).f2)] (by rfl) rfl rfl rfl (by (try simp only [List.map_toArray, List.map_cons, List.map_nil]); first | done | rfl) ?_
    refine (strconv_Itoa.calls ((aT l0_5 x).f2) (aA.num ((aT l0_5 x).f2)) _ (Tryz.dJ HG.out (below_step JC.out.below HBb.out)) (aA.fA (HO.out.1))).mono ?_
    rintro e wX ⟨rfl, hbX⟩
    refine ⟨_, rfl, ?_⟩
    have JX := am_ (below_step HBb.out hbX)
    clear HBb
    have HBb := JX
    clear JX
    have JX := am_ (blk_below BC.out hbX)
    clear BC
    have BC := JX
    clear JX
    clear hbX
    refine hK.out _ _ (aA.c4 BC.out) (fun hHeld => ?_)
    clear hK K
    refine norm_ (a' := ?_) ?_ ?_
    rotate_left
    · show Act.put _ (some 57) _ = _
      simp only [Act.put, List.setIfInBounds_toArray, List.set_cons_zero, List.set_cons_succ, i64_w, i32_w]
      rfl
    refine one_ (i := 10) (N := some 61) (bv 16 14335) rfl rfl (by kernel_rfl) (by decide) (fun K hK => ?_)
    refine aA.iL Tryz.func28 (by kernel_rfl) rfl #[.int .i64 ((aT l0_5 x).f3)] (by rfl) rfl rfl rfl (by (try simp only [List.map_toArray, List.map_cons, List.map_nil]); first | done | rfl) ?_
    refine (strconv_Itoa.calls ((aT l0_5 x).f3) (aA.num ((aT l0_5 x).f3)) _ (Tryz.dJ HG.out (below_step JC.out.below HBb.out)) (aA.fA (HO.out.2.1))).mono ?_
    rintro e wX ⟨rfl, hbX⟩
    refine ⟨_, rfl, ?_⟩
    have JX := am_ (below_step HBb.out hbX)
    clear HBb
    have HBb := JX
    clear JX
    have JX := am_ (blk_below BC.out hbX)
    clear BC
    have BC := JX
    clear JX
    clear hbX
    refine hK.out _ _ (aA.c4 BC.out) (fun hHeld => ?_)
    clear hK K
    refine norm_ (a' := ?_) ?_ ?_
    rotate_left
    · show Act.put _ (some 61) _ = _
      simp only [Act.put, List.setIfInBounds_toArray, List.set_cons_zero, List.set_cons_succ, i64_w, i32_w]
      rfl
    refine one_ (i := 11) (N := some 62) (bv 16 16383) rfl rfl (by kernel_rfl) (by decide) (fun K hK => ?_)
    refine Kd.R_lit_step Kd.string _ 9 (by rfl) (N := 62) rfl (xs := ([(aT l0_5 x).f0, aA.num (aT l0_5 x).f2, aA.num (aT l0_5 x).f3] : List ByteArray)) (inner := [.string ((aT l0_5 x).f0), .string (aA.num (aT l0_5 x).f2), .string (aA.num (aT l0_5 x).f3)]) (ok := fun _ => True) (okp := fun _ => True) ?hr ?hp (fun _ hk => hk) trivial (Below.refl _ _) (Nat.le_refl _) (by simp) ?_
    case hr => first | (go_simp; done) | (go_simp; rfl)
    case hp => exact (Reps.one (show Kd.M Kd.string _ _ _ ((aT l0_5 x).f0) [.string ((aT l0_5 x).f0)] from rfl) (Reps.one (show Kd.M Kd.string _ _ _ (aA.num (aT l0_5 x).f2) [.string (aA.num (aT l0_5 x).f2)] from rfl) (Reps.one (show Kd.M Kd.string _ _ _ (aA.num (aT l0_5 x).f3) [.string (aA.num (aT l0_5 x).f3)] from rfl) (Reps.none _ _))))
    intro vL wL hL hbX _ _
    obtain ⟨AL, cL, eL⟩ := Kd.R_slice hL
    subst eL
    have HLRL := am_ (Kd.R_lower hL HBb.out.size)
    have JX := am_ (below_step HBb.out hbX)
    clear HBb
    have HBb := JX
    clear JX
    have JX := am_ (blk_below BC.out hbX)
    clear BC
    have BC := JX
    clear JX
    clear hbX hL
    refine hK.out _ _ (aA.c4 BC.out) (fun hHeld => ?_)
    clear hK K
    refine norm_ (a' := ?_) ?_ ?_
    rotate_left
    · show Act.put _ (some 62) _ = _
      simp only [Act.put, List.setIfInBounds_toArray, List.set_cons_zero, List.set_cons_succ, i64_w, i32_w]
      rfl
    refine last_ (i := 14) (N := some 65) (bv 16 32767) rfl rfl (by kernel_rfl) (by decide) (fun K hK => ?_)
    refine Kd.R_append_rows_step Kd.string (w0 := wb) wb.heap.size (by rfl) (.tmp 62) (.tmp 64) 57 9 (.string ⟨#[]⟩) 16 rfl Tryz.underlying57 info9 rfl (by decide) (by omega) (.slice AL ([(aT l0_5 x).f0, aA.num (aT l0_5 x).f2, aA.num (aT l0_5 x).f3] : List ByteArray).length cL) ([(aT l0_5 x).f0, aA.num (aT l0_5 x).f2, aA.num (aT l0_5 x).f3] : List ByteArray) ((aT l0_5 x).f1) _ _ _ (fun _ => True) (fun _ => False) rfl rfl ?aO ?aR (fun _ _ h => h) (fun _ h => h.elim) ?aF ?aB ?aS ?aL ?_
    case aR => exact Kd.C_below HN.out (below_step JC.out.below HBb.out)
    case aO => exact HLRL.out
    case aF => exact fun _ _ => trivial
    case aB => exact HBb.out
    case aS => exact HBb.out.size
    case aL => have := HO.out.2.2; simp only [List.length_cons, List.length_nil]; omega
    intro vM wM hM hbM _ _
    replace hM : Kd.R Kd.string 9 wM wb.heap.size (fun _ => True) vM (aA.cl (aT l0_5 x)) := hM
    obtain ⟨AM, cM, eM⟩ := Kd.R_slice hM
    subst eM
    have HM := am_ hM
    have HBM := am_ hbM
    clear hM hbM HBb BC
    refine hK.out _ _ ?_
    clear hK K
    refine norm_ (a' := ?_) ?_ ?_
    rotate_left
    · show Act.put _ (some 65) _ = _
      simp only [Act.put, List.setIfInBounds_toArray, List.set_cons_zero, List.set_cons_succ, i64_w, i32_w]
      rfl
    refine last_ (i := 15) (N := some 66) (bv 16 65535) rfl rfl (by kernel_rfl) (by decide) (fun K hK => ?_)
    refine aA.iL Tryz.func25 (by kernel_rfl) rfl #[.string ⟨#[99, 108, 97, 115, 115]⟩, .slice AM (aA.cl (aT l0_5 x)).length cM, .pointer (some ⟨b, 0, none⟩)] (by rfl) rfl rfl rfl (by (try simp only [List.map_toArray, List.map_cons, List.map_nil]); first | done | rfl) ?_
    refine (aA.line b _ ⟨#[99, 108, 97, 115, 115]⟩ AM cM (aA.cl (aT l0_5 x)) _ (JC.out.step HBM.out).bld (Kd.R_reads' HM.out).2.2 (Kd.R_reads' HM.out).2.1 (aA.cl_len HO.out) (aA.len_5 HSZ.out HX.out hci)).mono ?_
    rintro e wY ⟨rfl, hbld, hbX⟩
    refine ⟨_, rfl, ?_⟩
    have JX := am_ ((JC.out.step HBM.out).lined hbld hbX)
    clear JC hbX hbld
    have JC := JX
    clear JX
    refine hK.out _ _ ?_
    clear hK K
    refine norm_ (a' := ?_) ?_ ?_
    rotate_left
    · show Act.put _ (some 66) _ = _
      simp only [Act.put, List.setIfInBounds_toArray, List.set_cons_zero, List.set_cons_succ, i64_w, i32_w]
      rfl
    refine done_ (by kernel_rfl) ?_
    go_wp2
    go_roundg k1
    case rel => exact ⟨_, i + 1, rfl, ⟨by first | exact aA.inc HX.out (by have := H5.out.2; omega) | (rw [← i64_w]; exact aA.inc HX.out (by have := H5.out.2; omega))⟩, ⟨by have := HK1.out; omega⟩, ⟨by have h := JC.out; rw [aA.acc5_succ a0_0 a0_1 a0_2 a0_3 a0_4 l0_5 i x HX.out hci] at h; exact h⟩⟩
    case measure => omega
  have q1d : decide (x < (l0_5.length : Int)) = false := decide_eq_false (by have := HX.out; omega)
  obtain rfl : i = l0_5.length := by have := HK1.out; omega
  rw [aA.acc6_zero a0_0 a0_1 a0_2 a0_3 a0_4 l0_5 l0_6] at JC
  have hcz_2 : wb.cell? ⟨gb, 6, none⟩ = some (.slice A0_6 l0_6.length c0_6) := (blk_cell JC.out.bk 6).trans rfl
  clear HK1 HX hci
  go_wp2
  go_loopg [71] l0_6.length (fun gk2 v71 wb => ∃ (x : Int) (i : Nat), v71 = .int .i64 x ∧ Aside0 (x = (i : Int)) ∧ Aside0 (i + gk2 = l0_6.length) ∧ Aside0 (aA.Ctx w wb gb b a0_0 a0_1 a0_2 a0_3 a0_4 (.slice A0_5 l0_5.length c0_5) (.slice A0_6 l0_6.length c0_6) (aA.acc6 a0_0 a0_1 a0_2 a0_3 a0_4 l0_5 l0_6 i)))
  case atStart => exact ⟨0, 0, rfl, ⟨rfl⟩, ⟨by omega⟩, JC⟩
  case round =>
   clear JC hcz_2 q1d
   obtain ⟨x, i, rfl, HX, HK1, JC⟩ := hrel
   rename World => wb
   by_cases hci : i < l0_6.length
   rotate_left
   · have q1d : decide (x < (l0_6.length : Int)) = false := decide_eq_false (by have := HX.out; omega)
     obtain rfl : i = l0_6.length := by have := HK1.out; omega
     rw [aA.acc6_all a0_0 a0_1 a0_2 a0_3 a0_4 l0_5 l0_6] at JC
     have hln : (Lib.byteCells (aA.all a0_0 a0_1 a0_2 a0_3 a0_4 l0_5 l0_6)).length = (aA.all a0_0 a0_1 a0_2 a0_3 a0_4 l0_5 l0_6).length := by rw [Lib.byteCells_length]
     have HLN := am_ hln
     clear hln
     obtain ⟨L, hL⟩ : ∃ L, Aside0 ((Lib.byteCells (aA.all a0_0 a0_1 a0_2 a0_3 a0_4 l0_5 l0_6)).length = L) := ⟨_, ⟨rfl⟩⟩
     have h := HH.out
     by_cases hlg : (aA.all a0_0 a0_1 a0_2 a0_3 a0_4 l0_5 l0_6).length ≤ 200000
     · rw [if_pos hlg] at h
       obtain ⟨rfl, rfl⟩ := Prod.mk.inj (Option.some.inj h)
       clear h
       have eL : decide ((200000 : Int) < (L : Int)) = false := decide_eq_false (by rw [← hL.out, HLN.out]; omega)
       go_wp2_with (first | (go_at_call 29; refine (Tryz.Builder_Len b b _ _ JC.out.bld).mono ?_; rintro e w' ⟨rfl, rfl⟩; rw [hL.out]) | (go_at_call 30; refine (Tryz.Builder_String_any b b _ _ JC.out.bld (Nat.le_of_lt (by rcases JC.out.bld with h | h <;> exact h.lt))).mono ?_; rintro e w9 ⟨rfl, hb9⟩; have HB9 := am_ hb9; clear hb9))
       first | go_ret2 | go_ret
       exact ⟨rfl, JC.out.below.trans (HB9.out.mono (Nat.le_of_lt (Nat.lt_of_le_of_lt JC.out.ge JC.out.lt)))⟩
     rw [if_neg hlg] at h
     obtain ⟨rfl, rfl⟩ := Prod.mk.inj (Option.some.inj h)
     clear h
     have eL : decide ((200000 : Int) < (L : Int)) = true := decide_eq_true (by rw [← hL.out, HLN.out]; omega)
     go_wp2_with (go_at_call 29; refine (Tryz.Builder_Len b b _ _ JC.out.bld).mono ?_; rintro e w' ⟨rfl, rfl⟩; rw [hL.out])
     first | go_ret2 | go_ret
     exact ⟨rfl, JC.out.below⟩
   obtain ⟨k1, hk1⟩ : ∃ k1, gk = k1 + 1 := ⟨gk - 1, by have := HK1.out; omega⟩
   subst hk1
   have p1 : (0 ≤ x) = True := eq_true (by have := HX.out; omega)
   have q1 : (x < (l0_6.length : Int)) = True := eq_true (by have := HX.out; omega)
   have q1d : decide (x < (l0_6.length : Int)) = true := decide_eq_true (of_eq_true q1)
   obtain ⟨ad, A1, c1, e1, hx0, hx1, hx2, hl1, hi1⟩ := iQ HR6.out x (of_eq_true p1) (of_eq_true q1)
   cases e1
   replace hx0 := ce_ ⟨JC.out.below⟩ hx0
   replace hx1 := ce_ ⟨JC.out.below⟩ hx1
   replace hx2 := ce_ ⟨JC.out.below⟩ hx2
   have HN := am_ hi1
   clear hi1
   have HO : Aside0 (aA.ok6 (aV l0_6 x)) := ⟨H6.out.1 _ (aA.rd_mem6 HX.out hci)⟩
   go_upto_region 16 with ((with_reducible refine gn_ 11 rfl ?_); refine bx_ (N := 11) (cs := #[.int .i64 0, .slice none 0 0, .int .i64 0]) (t := 68) ?_; intro gc hg wA hbox hb; have B0 := am_ hbox; have HA := am_ hb; have GC := am_ (Nat.le_of_eq hg.symm); clear hg hbox hb; obtain ⟨hcz_0, hcz_1, hcz_2, hfz_0, hfz_1, hfz_2⟩ := bc3_ B0)
   refine aA.named ?_
   intro w5 hw5
   have hBC : w5.drew.heap[gc]? = some (.cells #[.int .i64 (aV l0_6 x).f0, .slice A1 (aV l0_6 x).f1.length c1, .int .i64 (aV l0_6 x).f2] 68 (0, 0)) := by
    rw [hw5]
    exact bw_ B0
   have BC := am_ hBC
   clear hBC
   have hHBb : Below wb.heap.size wb w5.drew := by
    rw [hw5]
    repeat (first | exact HA.out | apply below_drew1 | refine below_set ?_ GC.out)
   have HBb := am_ hHBb
   clear hHBb
   clear hw5 hcz_0 hcz_1 hcz_2 hfz_0 hfz_1 hfz_2 hx0 hx1 hx2 B0 HA
   refine start_ (n := 10) (S := (fun w' => w'.cell? ⟨gc, 0, none⟩ = some (.int .i64 ((aV l0_6 x).f0)) ∧ w'.cell? ⟨gc, 1, none⟩ = some (.slice A1 ((aV l0_6 x).f1).length c1) ∧ w'.cell? ⟨gc, 2, none⟩ = some (.int .i64 ((aV l0_6 x).f2)))) (ds := []) (bv 10 0) (by kernel_rfl) rfl rfl (aA.c3 BC.out) (fun hHeld => ?_)
   refine pu_ 0 75 (bv 10 1) ?_
   refine pu_ 1 76 (bv 10 3) ?_
   refine tk_ 2 77 (bv 10 7) hHeld ?_
   refine pu_ 4 79 (bv 10 23) ?_
   refine pu_ 5 80 (bv 10 55) ?_
   refine tk_ 6 81 (bv 10 119) hHeld ?_
   refine one_ (i := 3) (N := some 78) (bv 10 127) rfl rfl (by kernel_rfl) (by decide) (fun K hK => ?_)
   refine aA.iL Tryz.func28 (by kernel_rfl) rfl #[.int .i64 ((aV l0_6 x).f0)] (by rfl) rfl rfl rfl (by (try simp only [List.map_toArray, List.map_cons, List.map_nil]); first | done | rfl) ?_
   refine (strconv_Itoa.calls ((aV l0_6 x).f0) (aA.num ((aV l0_6 x).f0)) _ (Tryz.dJ HG.out (below_step JC.out.below HBb.out)) (aA.fA (HO.out.1))).mono ?_
   rintro e wX ⟨rfl, hbX⟩
   refine ⟨_, rfl, ?_⟩
   have JX := am_ (below_step HBb.out hbX)
   clear HBb
   have HBb := JX
   clear JX
   have JX := am_ (blk_below BC.out hbX)
   clear BC
   have BC := JX
   clear JX
   clear hbX
   refine hK.out _ _ (aA.c3 BC.out) (fun hHeld => ?_)
   clear hK K
   refine norm_ (a' := ?_) ?_ ?_
   rotate_left
   · show Act.put _ (some 78) _ = _
     simp only [Act.put, List.setIfInBounds_toArray, List.set_cons_zero, List.set_cons_succ, i64_w, i32_w]
     rfl
   refine one_ (i := 7) (N := some 82) (bv 10 255) rfl rfl (by kernel_rfl) (by decide) (fun K hK => ?_)
   refine aA.iL Tryz.func28 (by kernel_rfl) rfl #[.int .i64 ((aV l0_6 x).f2)] (by rfl) rfl rfl rfl (by (try simp only [List.map_toArray, List.map_cons, List.map_nil]); first | done | rfl) ?_
   refine (strconv_Itoa.calls ((aV l0_6 x).f2) (aA.num ((aV l0_6 x).f2)) _ (Tryz.dJ HG.out (below_step JC.out.below HBb.out)) (aA.fA (HO.out.2.1))).mono ?_
   rintro e wX ⟨rfl, hbX⟩
   refine ⟨_, rfl, ?_⟩
   have JX := am_ (below_step HBb.out hbX)
   clear HBb
   have HBb := JX
   clear JX
   have JX := am_ (blk_below BC.out hbX)
   clear BC
   have BC := JX
   clear JX
   clear hbX
   refine hK.out _ _ (aA.c3 BC.out) (fun hHeld => ?_)
   clear hK K
   refine norm_ (a' := ?_) ?_ ?_
   rotate_left
   · show Act.put _ (some 82) _ = _
     simp only [Act.put, List.setIfInBounds_toArray, List.set_cons_zero, List.set_cons_succ, i64_w, i32_w]
     rfl
   refine one_ (i := 8) (N := some 83) (bv 10 511) rfl rfl (by kernel_rfl) (by decide) (fun K hK => ?_)
   refine Kd.R_lit_step Kd.string _ 9 (by rfl) (N := 83) rfl (xs := ([aA.num (aV l0_6 x).f0, aA.num (aV l0_6 x).f2] : List ByteArray)) (inner := [.string (aA.num (aV l0_6 x).f0), .string (aA.num (aV l0_6 x).f2)]) (ok := fun _ => True) (okp := fun _ => True) ?hr ?hp (fun _ hk => hk) trivial (Below.refl _ _) (Nat.le_refl _) (by simp) ?_
   case hr => first | (go_simp; done) | (go_simp; rfl)
   case hp => exact (Reps.one (show Kd.M Kd.string _ _ _ (aA.num (aV l0_6 x).f0) [.string (aA.num (aV l0_6 x).f0)] from rfl) (Reps.one (show Kd.M Kd.string _ _ _ (aA.num (aV l0_6 x).f2) [.string (aA.num (aV l0_6 x).f2)] from rfl) (Reps.none _ _)))
   intro vL wL hL hbX _ _
   obtain ⟨AL, cL, eL⟩ := Kd.R_slice hL
   subst eL
   have HLRL := am_ (Kd.R_lower hL HBb.out.size)
   have JX := am_ (below_step HBb.out hbX)
   clear HBb
   have HBb := JX
   clear JX
   have JX := am_ (blk_below BC.out hbX)
   clear BC
   have BC := JX
   clear JX
   clear hbX hL
   refine hK.out _ _ (aA.c3 BC.out) (fun hHeld => ?_)
   clear hK K
   refine norm_ (a' := ?_) ?_ ?_
   rotate_left
   · show Act.put _ (some 83) _ = _
     simp only [Act.put, List.setIfInBounds_toArray, List.set_cons_zero, List.set_cons_succ, i64_w, i32_w]
     rfl
   refine pu_ 9 12 (bv 10 1023) ?_
   refine done_ (by kernel_rfl) ?_
   have hcz_1 := (aA.c3 BC.out).2.1
   go_wp2
   go_loopg [12, 87] (aV l0_6 x).f1.length (fun gk3 v12 v87 wr => ∃ (y : Int) (j : Nat), v87 = .int .i64 y ∧ Aside0 (y = (j : Int)) ∧ Aside0 (j + gk3 = (aV l0_6 x).f1.length) ∧ Aside0 (Below wb.heap.size wb wr) ∧ Aside0 (Kd.R Kd.string 9 wr wb.heap.size (fun _ => True) v12 (aA.arj (aV l0_6 x) j)))
   case atStart => exact ⟨0, 0, rfl, ⟨rfl⟩, ⟨by omega⟩, HBb, HLRL⟩
   case round =>
    clear HBb HLRL BC hcz_1 hHeld
    obtain ⟨y, j, rfl, HY, HK3, HBb, HR⟩ := hrel
    by_cases hcj : j < (aV l0_6 x).f1.length
    rotate_left
    · have q2d : decide (y < ((aV l0_6 x).f1.length : Int)) = false := decide_eq_false (by have := HY.out; omega)
      obtain rfl : j = (aV l0_6 x).f1.length := by have := HK3.out; omega
      obtain ⟨AS, cS, eS⟩ := Kd.R_slice HR.out
      subst eS
      go_wp2_with ((with_reducible refine gK (t := 111) rfl ?_); refine aA.goesL (some 113) rfl rfl Tryz.func25 (by kernel_rfl) rfl #[.string ⟨#[97, 114, 101, 97]⟩, .slice AS (aA.arj (aV l0_6 x) (aV l0_6 x).f1.length).length cS, .pointer (some ⟨b, 0, none⟩)] rfl rfl (by (try simp only [List.map_toArray, List.map_cons, List.map_nil]); first | done | rfl) ?_; refine (aA.line b _ ⟨#[97, 114, 101, 97]⟩ AS cS (aA.arj (aV l0_6 x) (aV l0_6 x).f1.length) _ (JC.out.step HBb.out).bld (Kd.R_reads' HR.out).2.2 (Kd.R_reads' HR.out).2.1 (aA.arj_le HO.out) (aA.len_6 HSZ.out HX.out hci)).mono ?_; rintro e wY ⟨rfl, hbld, hbX⟩; refine ⟨_, rfl, ?_⟩; have JX := am_ ((JC.out.step HBb.out).lined hbld hbX); clear JC hbX hbld; have JC := JX; clear JX)
      go_roundg k1
      case rel => exact ⟨_, i + 1, rfl, ⟨by first | exact aA.inc HX.out (by have := H6.out.2; omega) | (rw [← i64_w]; exact aA.inc HX.out (by have := H6.out.2; omega))⟩, ⟨by have := HK1.out; omega⟩, ⟨by have h := JC.out; rw [aA.acc6_succ a0_0 a0_1 a0_2 a0_3 a0_4 l0_5 l0_6 i x HX.out hci] at h; exact h⟩⟩
      case measure => omega
    obtain ⟨k3, hk3⟩ : ∃ k3, gk = k3 + 1 := ⟨gk - 1, by have := HK3.out; omega⟩
    subst hk3
    have p2 : (0 ≤ y) = True := eq_true (by have := HY.out; omega)
    have q2 : (y < ((aV l0_6 x).f1.length : Int)) = True := eq_true (by have := HY.out; omega)
    have q2d : decide (y < ((aV l0_6 x).f1.length : Int)) = true := decide_eq_true (of_eq_true q2)
    obtain ⟨ad2, e2, hy0, hy1, hy2, hy3⟩ := dS HN.out y (of_eq_true p2) (of_eq_true q2)
    cases e2
    replace hy0 := ce_ ⟨below_step JC.out.below HBb.out⟩ hy0
    replace hy1 := ce_ ⟨below_step JC.out.below HBb.out⟩ hy1
    replace hy2 := ce_ ⟨below_step JC.out.below HBb.out⟩ hy2
    replace hy3 := ce_ ⟨below_step JC.out.below HBb.out⟩ hy3
    have HQ : Aside0 (aA.ok4 (aI (aV l0_6 x).f1 y)) := ⟨HO.out.2.2.2 _ (aA.rd_mem4 HY.out hcj)⟩
    go_upto_region 20 with ((with_reducible refine gn_ 14 rfl ?_); refine bx_ (N := 14) (cs := #[.int .i64 0, .int .i64 0, .int .i64 0, .int .i64 0]) (t := 44) ?_; intro gq hg wA hbox hb; have B0 := am_ hbox; have HA := am_ hb; have GC2 := am_ (Nat.le_of_eq hg.symm); clear hg hbox hb; obtain ⟨hcz_0, hcz_1, hcz_2, hcz_3, hfz_0, hfz_1, hfz_2, hfz_3⟩ := bc4_ B0)
    refine aA.named ?_
    intro w6 hw6
    have hBQ : w6.drew.heap[gq]? = some (.cells #[.int .i64 (aI (aV l0_6 x).f1 y).f0, .int .i64 (aI (aV l0_6 x).f1 y).f1, .int .i64 (aI (aV l0_6 x).f1 y).f2, .int .i64 (aI (aV l0_6 x).f1 y).f3] 44 (0, 0)) := by
     rw [hw6]
     exact bw_ B0
    have BQ := am_ hBQ
    clear hBQ
    have hB6 : Below wr.heap.size wr w6.drew := by
     rw [hw6]
     repeat (first | exact HA.out | apply below_drew1 | refine below_set ?_ GC2.out)
    have JX := am_ (below_step HBb.out hB6)
    clear HBb
    have HBb := JX
    clear JX
    have JX := am_ (Kd.R_below HR.out hB6)
    clear HR
    have HR := JX
    clear JX hB6 hw6 hcz_0 hcz_1 hcz_2 hcz_3 hfz_0 hfz_1 hfz_2 hfz_3 hy0 hy1 hy2 hy3 B0 HA
    refine start_ (n := 20) (S := (fun w' => w'.cell? ⟨gq, 0, none⟩ = some (.int .i64 ((aI (aV l0_6 x).f1 y).f0)) ∧ w'.cell? ⟨gq, 1, none⟩ = some (.int .i64 ((aI (aV l0_6 x).f1 y).f1)) ∧ w'.cell? ⟨gq, 2, none⟩ = some (.int .i64 ((aI (aV l0_6 x).f1 y).f2)) ∧ w'.cell? ⟨gq, 3, none⟩ = some (.int .i64 ((aI (aV l0_6 x).f1 y).f3)))) (ds := [18]) (bv 20 0) (by kernel_rfl) rfl rfl (aA.c4 BQ.out) (fun hHeld => ?_)
    refine pu_ 0 91 (bv 20 1) ?_
    refine pu_ 1 92 (bv 20 3) ?_
    refine pu_ 2 93 (bv 20 7) ?_
    refine tk_ 3 94 (bv 20 15) hHeld ?_
    refine pu_ 5 96 (bv 20 47) ?_
    refine pu_ 6 97 (bv 20 111) ?_
    refine tk_ 7 98 (bv 20 239) hHeld ?_
    refine pu_ 9 100 (bv 20 751) ?_
    refine pu_ 10 101 (bv 20 1775) ?_
    refine tk_ 11 102 (bv 20 3823) hHeld ?_
    refine pu_ 13 104 (bv 20 12015) ?_
    refine pu_ 14 105 (bv 20 28399) ?_
    refine tk_ 15 106 (bv 20 61167) hHeld ?_
    refine one_ (i := 4) (N := some 95) (bv 20 61183) rfl rfl (by kernel_rfl) (by decide) (fun K hK => ?_)
    refine aA.iL Tryz.func28 (by kernel_rfl) rfl #[.int .i64 ((aI (aV l0_6 x).f1 y).f0)] (by rfl) rfl rfl rfl (by (try simp only [List.map_toArray, List.map_cons, List.map_nil]); first | done | rfl) ?_
    refine (strconv_Itoa.calls ((aI (aV l0_6 x).f1 y).f0) (aA.num ((aI (aV l0_6 x).f1 y).f0)) _ (Tryz.dJ HG.out (below_step JC.out.below HBb.out)) (aA.fA (HQ.out.1))).mono ?_
    rintro e wX ⟨rfl, hbX⟩
    refine ⟨_, rfl, ?_⟩
    have JX := am_ (below_step HBb.out hbX)
    clear HBb
    have HBb := JX
    clear JX
    have JX := am_ (blk_below BQ.out hbX)
    clear BQ
    have BQ := JX
    clear JX
    have JX := am_ (Kd.R_below HR.out hbX)
    clear HR
    have HR := JX
    clear JX
    clear hbX
    refine hK.out _ _ (aA.c4 BQ.out) (fun hHeld => ?_)
    clear hK K
    refine norm_ (a' := ?_) ?_ ?_
    rotate_left
    · show Act.put _ (some 95) _ = _
      simp only [Act.put, List.setIfInBounds_toArray, List.set_cons_zero, List.set_cons_succ, i64_w, i32_w]
      rfl
    refine one_ (i := 8) (N := some 99) (bv 20 61439) rfl rfl (by kernel_rfl) (by decide) (fun K hK => ?_)
    refine aA.iL Tryz.func28 (by kernel_rfl) rfl #[.int .i64 ((aI (aV l0_6 x).f1 y).f1)] (by rfl) rfl rfl rfl (by (try simp only [List.map_toArray, List.map_cons, List.map_nil]); first | done | rfl) ?_
    refine (strconv_Itoa.calls ((aI (aV l0_6 x).f1 y).f1) (aA.num ((aI (aV l0_6 x).f1 y).f1)) _ (Tryz.dJ HG.out (below_step JC.out.below HBb.out)) (aA.fA (HQ.out.2.1))).mono ?_
    rintro e wX ⟨rfl, hbX⟩
    refine ⟨_, rfl, ?_⟩
    have JX := am_ (below_step HBb.out hbX)
    clear HBb
    have HBb := JX
    clear JX
    have JX := am_ (blk_below BQ.out hbX)
    clear BQ
    have BQ := JX
    clear JX
    have JX := am_ (Kd.R_below HR.out hbX)
    clear HR
    have HR := JX
    clear JX
    clear hbX
    refine hK.out _ _ (aA.c4 BQ.out) (fun hHeld => ?_)
    clear hK K
    refine norm_ (a' := ?_) ?_ ?_
    rotate_left
    · show Act.put _ (some 99) _ = _
      simp only [Act.put, List.setIfInBounds_toArray, List.set_cons_zero, List.set_cons_succ, i64_w, i32_w]
      rfl
    refine one_ (i := 12) (N := some 103) (bv 20 65535) rfl rfl (by kernel_rfl) (by decide) (fun K hK => ?_)
    refine aA.iL Tryz.func28 (by kernel_rfl) rfl #[.int .i64 ((aI (aV l0_6 x).f1 y).f2)] (by rfl) rfl rfl rfl (by (try simp only [List.map_toArray, List.map_cons, List.map_nil]); first | done | rfl) ?_
    refine (strconv_Itoa.calls ((aI (aV l0_6 x).f1 y).f2) (aA.num ((aI (aV l0_6 x).f1 y).f2)) _ (Tryz.dJ HG.out (below_step JC.out.below HBb.out)) (aA.fA (HQ.out.2.2.1))).mono ?_
    rintro e wX ⟨rfl, hbX⟩
    refine ⟨_, rfl, ?_⟩
    have JX := am_ (below_step HBb.out hbX)
    clear HBb
    have HBb := JX
    clear JX
    have JX := am_ (blk_below BQ.out hbX)
    clear BQ
    have BQ := JX
    clear JX
    have JX := am_ (Kd.R_below HR.out hbX)
    clear HR
    have HR := JX
    clear JX
    clear hbX
    refine hK.out _ _ (aA.c4 BQ.out) (fun hHeld => ?_)
    clear hK K
    refine norm_ (a' := ?_) ?_ ?_
    rotate_left
    · show Act.put _ (some 103) _ = _
      simp only [Act.put, List.setIfInBounds_toArray, List.set_cons_zero, List.set_cons_succ, i64_w, i32_w]
      rfl
    refine one_ (i := 16) (N := some 107) (bv 20 131071) rfl rfl (by kernel_rfl) (by decide) (fun K hK => ?_)
    refine aA.iL Tryz.func28 (by kernel_rfl) rfl #[.int .i64 ((aI (aV l0_6 x).f1 y).f3)] (by rfl) rfl rfl rfl (by (try simp only [List.map_toArray, List.map_cons, List.map_nil]); first | done | rfl) ?_
    refine (strconv_Itoa.calls ((aI (aV l0_6 x).f1 y).f3) (aA.num ((aI (aV l0_6 x).f1 y).f3)) _ (Tryz.dJ HG.out (below_step JC.out.below HBb.out)) (aA.fA (HQ.out.2.2.2))).mono ?_
    rintro e wX ⟨rfl, hbX⟩
    refine ⟨_, rfl, ?_⟩
    have JX := am_ (below_step HBb.out hbX)
    clear HBb
    have HBb := JX
    clear JX
    have JX := am_ (blk_below BQ.out hbX)
    clear BQ
    have BQ := JX
    clear JX
    have JX := am_ (Kd.R_below HR.out hbX)
    clear HR
    have HR := JX
    clear JX
    clear hbX
    refine hK.out _ _ (aA.c4 BQ.out) (fun hHeld => ?_)
    clear hK K
    refine norm_ (a' := ?_) ?_ ?_
    rotate_left
    · show Act.put _ (some 107) _ = _
      simp only [Act.put, List.setIfInBounds_toArray, List.set_cons_zero, List.set_cons_succ, i64_w, i32_w]
      rfl
    refine one_ (i := 17) (N := some 108) (bv 20 262143) rfl rfl (by kernel_rfl) (by decide) (fun K hK => ?_)
    refine Kd.R_lit_step Kd.string _ 9 (by rfl) (N := 108) rfl (xs := ([aA.num (aI (aV l0_6 x).f1 y).f0, aA.num (aI (aV l0_6 x).f1 y).f1, aA.num (aI (aV l0_6 x).f1 y).f2, aA.num (aI (aV l0_6 x).f1 y).f3] : List ByteArray)) (inner := [.string (aA.num (aI (aV l0_6 x).f1 y).f0), .string (aA.num (aI (aV l0_6 x).f1 y).f1), .string (aA.num (aI (aV l0_6 x).f1 y).f2), .string (aA.num (aI (aV l0_6 x).f1 y).f3)]) (ok := fun _ => True) (okp := fun _ => True) ?hr ?hp (fun _ hk => hk) trivial (Below.refl _ _) (Nat.le_refl _) (by simp) ?_
    case hr => first | (go_simp; done) | (go_simp; rfl)
    case hp => exact (Reps.one (show Kd.M Kd.string _ _ _ (aA.num (aI (aV l0_6 x).f1 y).f0) [.string (aA.num (aI (aV l0_6 x).f1 y).f0)] from rfl) (Reps.one (show Kd.M Kd.string _ _ _ (aA.num (aI (aV l0_6 x).f1 y).f1) [.string (aA.num (aI (aV l0_6 x).f1 y).f1)] from rfl) (Reps.one (show Kd.M Kd.string _ _ _ (aA.num (aI (aV l0_6 x).f1 y).f2) [.string (aA.num (aI (aV l0_6 x).f1 y).f2)] from rfl) (Reps.one (show Kd.M Kd.string _ _ _ (aA.num (aI (aV l0_6 x).f1 y).f3) [.string (aA.num (aI (aV l0_6 x).f1 y).f3)] from rfl) (Reps.none _ _)))))
    intro vL wL hL hbX _ _
    obtain ⟨AL, cL, eL⟩ := Kd.R_slice hL
    subst eL
    have HLRL := am_ (hL)
    have JX := am_ (below_step HBb.out hbX)
    clear HBb
    have HBb := JX
    clear JX
    have JX := am_ (blk_below BQ.out hbX)
    clear BQ
    have BQ := JX
    clear JX
    have JX := am_ (Kd.R_below HR.out hbX)
    clear HR
    have HR := JX
    clear JX
    clear hbX hL
    refine hK.out _ _ (aA.c4 BQ.out) (fun hHeld => ?_)
    clear hK K
    refine norm_ (a' := ?_) ?_ ?_
    rotate_left
    · show Act.put _ (some 108) _ = _
      simp only [Act.put, List.setIfInBounds_toArray, List.set_cons_zero, List.set_cons_succ, i64_w, i32_w]
      rfl
    refine last_ (i := 18) (N := some 109) (bv 20 524287) rfl rfl (by kernel_rfl) (by decide) (fun K hK => ?_)
    refine Kd.R_append_rows_step Kd.string (w0 := wb) wb.heap.size (by rfl) (.tmp 91) (.tmp 108) 57 9 (.string ⟨#[]⟩) 16 rfl Tryz.underlying57 info9 rfl (by decide) (by omega) u12 (aA.arj (aV l0_6 x) j) ([aA.num (aI (aV l0_6 x).f1 y).f0, aA.num (aI (aV l0_6 x).f1 y).f1, aA.num (aI (aV l0_6 x).f1 y).f2, aA.num (aI (aV l0_6 x).f1 y).f3] : List ByteArray) _ _ _ (fun _ => True) (fun _ => False) rfl rfl ?aO ?aR (fun _ _ h => h) (fun _ h => h.elim) ?aF ?aB ?aS ?aL ?_
    case aR => exact (Kd.R_reads' HLRL.out).2.2
    case aO => exact HR.out
    case aF => exact fun _ _ => trivial
    case aB => exact HBb.out
    case aS => exact HBb.out.size
    case aL => have := aA.arj_len (aV l0_6 x) j; have := HO.out.2.2.1; simp only [List.length_cons, List.length_nil]; omega
    intro vM wM hM hbM _ _
    have HM := am_ hM
    have HBM := am_ hbM
    clear hM hbM HBb HR BQ
    refine hK.out _ _ ?_
    clear hK K
    refine norm_ (a' := ?_) ?_ ?_
    rotate_left
    · show Act.put _ (some 109) _ = _
      simp only [Act.put, List.setIfInBounds_toArray, List.set_cons_zero, List.set_cons_succ, i64_w, i32_w]
      rfl
    refine pu_ 19 12 (bv 20 1048575) ?_
    refine done_ (by kernel_rfl) ?_
    go_wp2
    go_roundg k3
    case rel => exact ⟨_, j + 1, rfl, ⟨by first | exact aA.inc HY.out (by have := HO.out.2.2.1; omega) | (rw [← i64_w]; exact aA.inc HY.out (by have := HO.out.2.2.1; omega))⟩, ⟨by have := HK3.out; omega⟩, HBM, ⟨by have h := HM.out; rw [aA.arj_succ _ j y HY.out hcj] at h; exact h⟩⟩
    case measure => omega
end Go.Proofs.YthkeonbmgcphkaaGreatDoor.PM
