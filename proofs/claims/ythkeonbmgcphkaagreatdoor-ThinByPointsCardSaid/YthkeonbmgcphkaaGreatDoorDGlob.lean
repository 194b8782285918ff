-- Written by this session's own programs (wip/tools).
import Derived.Test.YthkeonbmgcphkaaGreatDoorProg
import Derived.Test.YthkeonbmgcphkaaGreatDoorDShelf
import Derived.Test.YthkeonbmgcphkaaGreatDoorDWWords
import Derived.Test.YthkeonbmgcphkaaGreatDoorDWLast
import Derived.Below
import Derived.Lib.LaidTab
import Derived.Lib.ConvBytes
import Derived.Sort.Grow
import Derived.Sort.Row
import Derived.Lib.SplitLaws
import Derived.KernelRfl
namespace Go.Proofs
open Go.RowKit Go.Proofs.YthkeonbmgcphkaaGreatDoorW.PrintWords
set_option linter.unusedVariables false
section
open Go.Proofs.YthkeonbmgcphkaaGreatDoorW.PrintLast
variable {P : Program} {ops : Array Oper} {rest : List Oper} {oi : Oper} {a : Act} {Q : Exit → Act → World → Prop} {w : World}
theorem gate_calleeT {t : Tmp} {as_ : Array Operand} {ts : Array TypeId} (_ho : oi.op = .call { callee := .value (.tmp t), args := as_, argTypes := ts }) (h : wpList P ops Q (oi :: rest) a w) : wpList P ops Q (oi :: rest) a w := h
theorem goesV_ (N : Option Tmp) (hd : oi.dst = N) (hg : oi.guard = none) {f : FuncId} {fn : Func} {t : Tmp} {as_ : Array Operand} {ts : Array TypeId} (hf : P.funcs[f]? = some fn) (hname : (fn.name == "runtime.NumGoroutine") = false) (hb : fn.body.isSome = true) (args : Array Value)
    (hop : oi.op = .call { callee := .value (.tmp t), args := as_, argTypes := ts }) (hargs : as_.map a.eval = args)
    (h : Calls P f args w fun e w' => ∃ v, e = .returned v ∧ wpList P ops Q rest (a.put N v) w') (hv : a.eval (.tmp t) = .func (.func f) #[] #[] := by rfl) : wpList P ops Q (oi :: rest) a w := by
  refine wpList_plain hg fun K hK => ?_
  have he := enters_ hf hname hb args w
  have hrun : (execOp a.eval oi).run P w = .ok (.enter f args) w := by
    unfold execOp
    simp [hop, resolve, Deferred.ofValue, invoke, hv, hargs, he]
  unfold Oper.wp
  rw [hrun, Oper.upon_enter]
  refine h.mono fun e w'' hh => ?_
  obtain ⟨v, rfl, hk⟩ := hh
  subst hd
  exact hK _ _ hk
end
structure Tryz.GW (w : World) : Prop where
  pow10 : Lib.TabIs Tryz.prog w "internal/strconv.uint64pow10" .u64 Lib.pow10Tab
  maxLen : ∃ m, w.cell? ⟨0, 0, none⟩ = some (.int .i64 m)
theorem Tryz.gPow10 : Tryz.prog.globalNamed "internal/strconv.uint64pow10" = some 1 := by kernel_rfl
theorem Tryz.gw_below {w w' : World} (h : Tryz.GW w) (hb : Below w.heap.size w w') : Tryz.GW w' := by
  obtain ⟨m, hm⟩ := h.maxLen
  refine ⟨?_, m, (hb.cell (World.block_lt_of_cell? w _ hm)).trans hm⟩
  have hp := h.pow10
  have h0 : w.cell? ⟨1, 0, none⟩ = _ := hp.cell Tryz.gPow10 0 (by decide)
  have hlt := World.block_lt_of_cell? w _ h0
  unfold Lib.TabIs World.var? at hp ⊢
  rw [Tryz.gPow10] at hp ⊢
  simp only [Option.bind_some] at hp ⊢
  rw [show w'.heap[1]? = w.heap[1]? from hb.block _ hlt]
  exact hp
theorem Tryz.gw_drew {w : World} (h : Tryz.GW w) : Tryz.GW w.drew := Tryz.gw_below h ((Below.refl _ _).drew)
theorem Tryz.gw_drewN {w : World} (h : Tryz.GW w) (n : Nat) : Tryz.GW (w.drewN n) := Tryz.gw_below h (pw_below_drewN (Below.refl _ _) n)
namespace YthkeonbmgcphkaaGreatDoorMem
theorem below_drewN {B : Nat} {w w' : World} (h : Below B w w') (n : Nat) : Below B w (w'.drewN n) := pw_below_drewN h n
theorem below_grow {B : Nat} {a w : World} (h : Below B a w) (hB : B ≤ w.heap.size) (os : Array Obj) : Below B a (Sort.grow w os) :=
  h.trans ⟨rfl, rfl, rfl, by simp [Sort.grow], fun k hk => by
    show (w.heap ++ os)[k]? = _
    rw [Array.getElem?_append, if_pos (by omega)]⟩
theorem splitRow (w : World) (l : List ByteArray) (n : Nat) (hn : l.length = n) (hm : n ≤ maxLen) (e : TypeId) :
    Kd.R Kd.string e (w.alloc (.cells (l.map Value.string).toArray e)) w.heap.size (fun _ => True) (.slice (some ⟨w.heap.size, 0, none⟩) n n) l := by
  subst hn
  refine Kd.R_of_own (enc := Value.string) (h1 := fun _ => rfl) ⟨by simp [encs], .inr ⟨w.heap.size, l.length, (l.map Value.string).toArray, rfl, Nat.le_refl _, ?_, Nat.le_refl _, hm, by simp, by simp [encs, List.take_of_length_le]⟩⟩ (fun _ _ => trivial)
  show (w.heap.push _)[w.heap.size]? = _
  simp
end YthkeonbmgcphkaaGreatDoorMem
end Go.Proofs
