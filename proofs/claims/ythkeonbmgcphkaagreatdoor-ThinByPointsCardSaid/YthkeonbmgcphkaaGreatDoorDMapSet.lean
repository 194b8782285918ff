-- Written by this session's own programs (wip/tools).
import Derived.Maps.Own
import Derived.Maps.OwnOps
import Derived.Maps.OwnSet
import Derived.Maps.Views
import Derived.StringKeys
import Derived.Below
namespace Go.Proofs.YthkeonbmgcphkaaGreatDoorMap
open Go Go.Maps Go.RowKit
set_option linter.unusedVariables false
def OwnsSet (P : Program) (k e : TypeId) (w : World) (b n : Nat) (f : ByteArray → Bool) : Prop :=
  ∃ D : DataW Unit, w.ownsMap P k (plainElem P e) b n D ∧ IsMap D ∧ ∀ s : ByteArray, D.atKey (.string s.data.toList) (.lit (.bool false)) = .lit (.bool (f s))
variable {P : Program} {k e t : TypeId} {w w' : World} {b n : Nat} {f : ByteArray → Bool}
theorem OwnsSet.made (w : World) (P : Program) (k e : TypeId) : OwnsSet P k e (w.alloc (.map #[] 0)) w.heap.size 0 (fun _ => false) :=
  ⟨.map [], World.ownsMap_made _ _ _ _, isMap_empty, fun _ => rfl⟩
theorem OwnsSet.lt (h : OwnsSet P k e w b n f) : b < w.heap.size := by
  obtain ⟨D, h, _⟩ := h
  exact h.lt
theorem OwnsSet.kept {row : Option Nat} (h : OwnsSet P k e w b n f) (hg : w.grownBy w' row) (hne : some b ≠ row) : OwnsSet P k e w' b n f := by
  obtain ⟨D, h, r⟩ := h
  exact ⟨D, h.kept hg hne, r⟩
theorem OwnsSet.below (h : OwnsSet P k e w b n f) (hb : Below w.heap.size w w') : OwnsSet P k e w' b n f := h.kept (row := none) ⟨hb.os, hb.tape, hb.output, hb.size, fun i hi _ => hb.block i hi⟩ (by simp)
theorem plainElem_bool_inv (he : P.underlying e = some .bool) {v : Value} {z : DataW Unit × List MemPlace} (h : plainElem P e v = some z) : ∃ a, v = .bool a ∧ z = (.lit (.bool a), []) := by
  unfold plainElem at h
  rw [he] at h
  split at h <;> simp_all
theorem string_inj {s s' : ByteArray} (h : Lit.string s.data.toList = Lit.string s'.data.toList) : s = s' := by
  have := Lit.string.inj h
  cases s; cases s'; simp at this; simpa using this
theorem OwnsSet.look (h : OwnsSet P k e w b n f) (hk : P.underlying k = some .string) (ht : P.underlying t = some (.map k e)) (he : P.underlying e = some .bool) (hz : (zeroValue e).run P w = .ok (.bool false) w) (s : ByteArray) (hs : s.size ≤ maxLen) :
    (Instr.lookup t (.map (some b)) (.string s) false).run P w = .ok (.bool (f s)) w := by
  obtain ⟨D, h, hm, hf⟩ := h
  obtain ⟨v, ps, hrun, hv⟩ := h.lookup (string_keyed hk) ht hz (plainElem_bool he false) (WideMaps.keyOf_string_mk hk hs)
  obtain ⟨a, rfl, hz'⟩ := plainElem_bool_inv he hv
  have h1 := (Prod.mk.inj hz').1
  rw [hf s] at h1
  injection h1 with h1
  injection h1 with h1
  rw [h1]; exact hrun
theorem OwnsSet.store (h : OwnsSet P k e w b n f) (hk : P.underlying k = some .string) (ht : P.underlying t = some (.map k e)) (he : P.underlying e = some .bool) (hn : n < maxLen) (s : ByteArray) (hs : s.size ≤ maxLen) :
    ∃ w', (Instr.mapUpdate t (.map (some b)) (.string s) (.bool true)).run P w = .ok () w' ∧ OwnsSet P k e w' b (n + 1) (fun x => f x || decide (x = s)) ∧ w.grownBy w' (some b) := by
  obtain ⟨D, h, hm, hf⟩ := h
  obtain ⟨w', hrun, ho, hg⟩ := h.update (string_keyed hk) ht hn (WideMaps.keyOf_string_mk hk hs) (plainElem_bool he true)
  refine ⟨w', hrun, ⟨_, ho, hm.put _ _, fun x => ?_⟩, hg⟩
  by_cases hx : x = s
  · subst hx
    rw [atKey_put_same hm (by first | exact trivial | (unfold WideAt.IsKeyLit; simp))]
    simp
  · rw [atKey_put_other (fun he => hx (string_inj he)), hf x]
    simp [hx]
theorem OwnsSet.wp_look (h : OwnsSet P k e w b n f) {ops : Array Oper} {rest : List Oper} {o : Oper} {a : Act} {Q : Exit → Act → World → Prop} (hg : o.guard = none) (m x : Operand) (t : TypeId) (hop : o.op = Op.lookup t m x false)
    (hk : P.underlying k = some .string) (ht : P.underlying t = some (.map k e)) (he : P.underlying e = some .bool) (hz : (zeroValue e).run P w = .ok (.bool false) w) (s : ByteArray) (hs : s.size ≤ maxLen)
    (hm : a.eval m = .map (some b)) (hx : a.eval x = .string s) (hK : wpList P ops Q rest (a.put o.dst (.bool (f s))) w) : wpList P ops Q (o :: rest) a w := by
  refine wpList_plain hg fun K' hK' => ?_
  have hrun := h.look hk ht he hz s hs
  unfold Oper.wp
  simp [execOp, hop, hm, hx, hrun, Result.andThen]
  exact hK' _ _ hK
theorem OwnsSet.wp_store (h : OwnsSet P k e w b n f) {ops : Array Oper} {rest : List Oper} {o : Oper} {a : Act} {Q : Exit → Act → World → Prop} (hg : o.guard = none) (m x v : Operand) (t : TypeId) (hop : o.op = Op.mapUpdate t m x v)
    (hk : P.underlying k = some .string) (ht : P.underlying t = some (.map k e)) (he : P.underlying e = some .bool) (hn : n < maxLen) (s : ByteArray) (hs : s.size ≤ maxLen)
    (hm : a.eval m = .map (some b)) (hx : a.eval x = .string s) (hv : a.eval v = .bool true)
    (hK : ∀ w', OwnsSet P k e w' b (n + 1) (fun x => f x || decide (x = s)) → w.grownBy w' (some b) → wpList P ops Q rest (a.put o.dst undef) w') : wpList P ops Q (o :: rest) a w := by
  refine wpList_plain hg fun K' hK' => ?_
  obtain ⟨w', hrun, r1, r2⟩ := h.store hk ht he hn s hs
  unfold Oper.wp
  simp [execOp, hop, hm, hx, hv, hrun, Result.andThen]
  exact hK' _ _ (hK w' r1 r2)
end Go.Proofs.YthkeonbmgcphkaaGreatDoorMap
