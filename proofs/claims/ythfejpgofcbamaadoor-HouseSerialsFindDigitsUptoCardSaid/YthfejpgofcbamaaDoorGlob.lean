/- What the contracts of this seat ask of the world: what the listed package-level variables hold; and how that is handed on. -/
import Derived.Test.YthfejpgofcbamaaDoorProg
import Derived.Test.YthfejpgofcbamaaDoorShelf
import Derived.Test.YthfejpgofcbamaaDoorWWords
import Derived.Below
import Derived.Lib.LaidTab
import Derived.Lib.ConvBytes
import Derived.Sort.Grow
import Derived.Lib.SplitLaws
import Derived.KernelRfl
namespace Go.Proofs
open Go.RowKit Go.Proofs.YthfejpgofcbamaaDoorW.PrintWords
set_option linter.unusedVariables false
/-- The variables that the library's code reads: the table of powers of ten; internal/bytealg.MaxLen holds some int. -/
structure Tryd.GW (w : World) : Prop where
  pow10 : Lib.TabIs Tryd.prog w "internal/strconv.uint64pow10" .u64 Lib.pow10Tab
  maxLen : ∃ m, w.cell? ⟨0, 0, none⟩ = some (.int .i64 m)
theorem Tryd.gPow10 : Tryd.prog.globalNamed "internal/strconv.uint64pow10" = some 3 := by kernel_rfl
theorem Tryd.gw_below {w w' : World} (h : Tryd.GW w) (hb : Below w.heap.size w w') : Tryd.GW w' := by
  obtain ⟨m, hm⟩ := h.maxLen
  refine ⟨?_, m, (hb.cell (World.block_lt_of_cell? w _ hm)).trans hm⟩
  have hp := h.pow10
  have h0 : w.cell? ⟨3, 0, none⟩ = _ := hp.cell Tryd.gPow10 0 (by decide)
  have hlt := World.block_lt_of_cell? w _ h0
  unfold Lib.TabIs World.var? at hp ⊢
  rw [Tryd.gPow10] at hp ⊢
  simp only [Option.bind_some] at hp ⊢
  rw [show w'.heap[3]? = w.heap[3]? from hb.block _ hlt]
  exact hp
theorem Tryd.gw_drew {w : World} (h : Tryd.GW w) : Tryd.GW w.drew := Tryd.gw_below h ((Below.refl _ _).drew)
theorem Tryd.gw_drewN {w : World} (h : Tryd.GW w) (n : Nat) : Tryd.GW (w.drewN n) := Tryd.gw_below h (pw_below_drewN (Below.refl _ _) n)
namespace YthfejpgofcbamaaDoorMem
theorem below_drewN {B : Nat} {w w' : World} (h : Below B w w') (n : Nat) : Below B w (w'.drewN n) := pw_below_drewN h n
theorem below_grow {B : Nat} {a w : World} (h : Below B a w) (hB : B ≤ w.heap.size) (os : Array Obj) : Below B a (Sort.grow w os) :=
  h.trans ⟨rfl, rfl, rfl, by simp [Sort.grow], fun k hk => by
    show (w.heap ++ os)[k]? = _
    rw [Array.getElem?_append, if_pos (by omega)]⟩
theorem below_bytesWorld (w : World) (e : TypeId) (s : ByteArray) : Below w.heap.size w (Lib.bytesWorld w e s) :=
  ⟨rfl, rfl, rfl, by rw [Lib.bytesWorld_size]; omega, fun k hk => Lib.bytesWorld_at_old w e s k hk⟩
theorem splitRow (w : World) (l : List ByteArray) (n : Nat) (hn : l.length = n) (hm : n ≤ maxLen) (e : TypeId) :
    Kd.R Kd.string e (w.alloc (.cells (l.map Value.string).toArray e)) w.heap.size (fun _ => True) (.slice (some ⟨w.heap.size, 0, none⟩) n n) l := by
  subst hn
  refine Kd.R_of_own (enc := Value.string) (h1 := fun _ => rfl) ⟨by simp [encs], .inr ⟨w.heap.size, l.length, (l.map Value.string).toArray, rfl, Nat.le_refl _, ?_, Nat.le_refl _, hm, by simp, by simp [encs, List.take_of_length_le]⟩⟩ (fun _ _ => trivial)
  show (w.heap.push _)[w.heap.size]? = _
  simp
end YthfejpgofcbamaaDoorMem
end Go.Proofs
