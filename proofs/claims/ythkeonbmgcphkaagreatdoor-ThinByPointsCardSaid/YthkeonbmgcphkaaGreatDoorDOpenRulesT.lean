-- Written by this session's own programs (wip/tools).
import Derived.Test.YthkeonbmgcphkaaGreatDoorDPTx0
import Derived.Deep.Slices
import Derived.Deep.Fields
import Derived.ChangeArms
import Derived.ChangeSame
namespace Go.Proofs.YthkeonbmgcphkaaGreatDoorOpen
open Go Go.RowKit Go.ChangeShapes Go.WideShapes Go.Deep Go.Proofs.YthkeonbmgcphkaaGreatDoor.PT Go.Proofs.YthkeonbmgcphkaaGreatDoorW.PrintWords
set_option linter.unusedVariables false
set_option linter.unusedSimpArgs false
set_option maxRecDepth 100000
variable {H : Type} {enc : TypeId × Value → H} {P : Program} {w : World} {base : Nat} {spare : Nat → Bool} {held : Bool}
theorem row_of {α : Type} (d : Kd α) {A : Addr} {len : Nat} (hmax : len ≤ 9223372036854775807) (Q : α → Prop) (h : ∀ i, i < len → ∃ x c, c.length = d.sz ∧ d.K w x c ∧ Q x ∧ ∀ j u, c[j]? = some u → w.cell? (A.add (i * d.sz + j)) = some u) :
    ∃ xs : List α, xs.length = len ∧ Kd.C d w (some A) xs.length xs ∧ ∀ x ∈ xs, Q x := by
  have hx : ∃ g : Nat → Option α, ∀ i, i < len → ∃ x c, g i = some x ∧ c.length = d.sz ∧ d.K w x c ∧ Q x ∧ ∀ j u, c[j]? = some u → w.cell? (A.add (i * d.sz + j)) = some u := by
    refine ⟨fun i => if h' : i < len then some (Classical.choose (h i h')) else none, fun i hi => ?_⟩
    obtain ⟨c, hc⟩ := Classical.choose_spec (h i hi)
    exact ⟨_, c, dif_pos hi, hc⟩
  obtain ⟨g, hg⟩ := hx
  have hall : ∀ n, n ≤ len → ∃ xs : List α, xs.length = n ∧ ∀ i, i < n → ∃ x, xs[i]? = some x ∧ g i = some x := by
    intro n
    induction n with
    | zero => intro _; exact ⟨[], rfl, fun i hi => absurd hi (by omega)⟩
    | succ n ih =>
      intro hn
      obtain ⟨xs, hl, hxs⟩ := ih (by omega)
      obtain ⟨x, c, hgx, _⟩ := hg n (by omega)
      refine ⟨xs ++ [x], by simp [hl], fun i hi => ?_⟩
      by_cases hin : i < n
      · obtain ⟨y, hy, hgy⟩ := hxs i hin
        exact ⟨y, by rw [List.getElem?_append_left (by omega)]; exact hy, hgy⟩
      · obtain rfl : i = n := by omega
        exact ⟨x, by rw [List.getElem?_append_right (by omega), hl]; simp, hgx⟩
  obtain ⟨xs, hl, hxs⟩ := hall len (Nat.le_refl _)
  refine ⟨xs, hl, ⟨rfl, by omega, fun _ => ⟨A, rfl, fun j p hj => ?_⟩⟩, fun x hx => ?_⟩
  · have hjl : j < len := by rw [← hl]; exact (List.getElem?_eq_some_iff.1 hj).1
    obtain ⟨x, hx1, hx2⟩ := hxs j hjl
    obtain ⟨x', c, h1, h2, h3, h4, h5⟩ := hg j hjl
    obtain rfl : p = x := Option.some.inj (hj.symm.trans hx1)
    obtain rfl : p = x' := Option.some.inj (hx2.symm.trans h1)
    exact ⟨c, h2, h3, h5⟩
  · obtain ⟨j, hj, rfl⟩ := List.getElem_of_mem hx
    obtain ⟨x, hx1, hx2⟩ := hxs j (by omega)
    obtain ⟨x', c, h1, h2, h3, h4, h5⟩ := hg j (by omega)
    obtain rfl : x = x' := Option.some.inj (hx2.symm.trans h1)
    rw [List.getElem?_eq_getElem hj] at hx1
    obtain rfl := Option.some.inj hx1
    exact h4
theorem slice_open {α : Type} {t e : TypeId} {fuel : Nat} {v : Value} {y : DataW H × List MemPlace} (ht : P.underlying t = some (.slice e)) (d : Kd α) (hC : P.cellsOf e = d.sz) (Q : α → Prop)
    (hel : ∀ n cs y, DataW.trod enc P w base spare held n e cs = some y → ∃ x, d.K w x cs ∧ Q x) (h : DataW.trod enc P w base spare held fuel t [v] = some y) :
    ∃ (A : Option Addr) (xs : List α) (c : Nat), v = .slice A xs.length c ∧ xs.length ≤ c ∧ Kd.C d w A xs.length xs ∧ ∀ x ∈ xs, Q x := by
  rcases open_slice ht h with ⟨hcs, _⟩ | ⟨a, len, cap, m, n, D, Pl, hcs, _, hl, hm, hmm, _, hi⟩
  · obtain rfl := (List.cons.inj hcs).1
    exact ⟨none, [], 0, rfl, Nat.le_refl _, ⟨rfl, Nat.zero_le _, fun h => absurd h (Nat.lt_irrefl 0)⟩, fun x hx => by cases hx⟩
  · obtain rfl := (List.cons.inj hcs).1
    have hmx : maxLen = 9223372036854775807 := by decide
    obtain ⟨xs, hxl, hxc, hxq⟩ := row_of (w := w) d (A := a) (len := len) (by omega) Q fun i hil => by
      obtain ⟨cs', hc, ht'⟩ := hi i (by rw [hmm]; split <;> omega)
      obtain ⟨x, hx, hq⟩ := hel _ _ _ ht'
      obtain ⟨_, hcl, hat⟩ := World.cells?_some hc
      refine ⟨x, cs', d.K_len hx, hx, hq, fun j u hu => ?_⟩
      have hj : j < cs'.length := (List.getElem?_eq_some_iff.1 hu).1
      have := hat j (by omega)
      rw [Go.Deep.add_add, hC] at this
      rw [this, hu]
    exact ⟨some a, xs, cap, by rw [hxl], by omega, hxc, hxq⟩
section
variable {t : TypeId} {fuel : Nat} {cs : List Value} {x : DataW H × List MemPlace}
theorem cells2 {f0 f1 : Field} (hs : P.underlying t = some (.struct #[f0, f1])) (hC : P.cellsOf t = 2) (o0 : f0.offset = 0) (o1 : f1.offset = 1) (k0 : P.cellsOf f0.type = 1) (k1 : P.cellsOf f1.type = 1)
    (h : DataW.trod enc P w base spare held fuel t cs = some x) : ∃ c0 c1 y0 y1 n, cs = [c0, c1] ∧ DataW.trod enc P w base spare held n f0.type [c0] = some y0 ∧ DataW.trod enc P w base spare held n f1.type [c1] = some y1 := by
  obtain ⟨xs, n, _, hx, hlen, hxl, hf⟩ := DataW.trod_struct hs h
  match cs, hlen.trans hC, xs, hxl with
  | [c0, c1], _, [y0, y1], _ => exact ⟨c0, c1, y0, y1, n, rfl, by simpa [o0, k0] using hf 0 f0 rfl, by simpa [o1, k1] using hf 1 f1 rfl⟩
theorem cells4 {f0 f1 f2 f3 : Field} (hs : P.underlying t = some (.struct #[f0, f1, f2, f3])) (hC : P.cellsOf t = 4) (o0 : f0.offset = 0) (o1 : f1.offset = 1) (o2 : f2.offset = 2) (o3 : f3.offset = 3) (k0 : P.cellsOf f0.type = 1) (k1 : P.cellsOf f1.type = 1) (k2 : P.cellsOf f2.type = 1) (k3 : P.cellsOf f3.type = 1)
    (h : DataW.trod enc P w base spare held fuel t cs = some x) : ∃ c0 c1 c2 c3 y0 y1 y2 y3 n, cs = [c0, c1, c2, c3] ∧ DataW.trod enc P w base spare held n f0.type [c0] = some y0 ∧ DataW.trod enc P w base spare held n f1.type [c1] = some y1 ∧ DataW.trod enc P w base spare held n f2.type [c2] = some y2 ∧ DataW.trod enc P w base spare held n f3.type [c3] = some y3 := by
  obtain ⟨xs, n, _, hx, hlen, hxl, hf⟩ := DataW.trod_struct hs h
  match cs, hlen.trans hC, xs, hxl with
  | [c0, c1, c2, c3], _, [y0, y1, y2, y3], _ => exact ⟨c0, c1, c2, c3, y0, y1, y2, y3, n, rfl, by simpa [o0, k0] using hf 0 f0 rfl, by simpa [o1, k1] using hf 1 f1 rfl, by simpa [o2, k2] using hf 2 f2 rfl, by simpa [o3, k3] using hf 3 f3 rfl⟩
end
abbrev Td (enc : TypeId × Value → H) (w : World) (base : Nat) (spare : Nat → Bool) (held : Bool) (n : Nat) (t : TypeId) (cs : List Value) (y : DataW H × List MemPlace) : Prop := DataW.trod enc Tryz.prog w base spare held n t cs = some y
theorem rect_open (n : Nat) (cs : List Value) (y : DataW H × List MemPlace) (h : Td enc w base spare held n 44 cs y) : ∃ x : S44, k44.K w x cs ∧ True := by
  obtain ⟨c0, c1, c2, c3, y0, y1, y2, y3, n, rfl, h0, h1, h2, h3⟩ := cells4 Tryz.underlying44 (by kernel_rfl) rfl rfl rfl rfl (by kernel_rfl) (by kernel_rfl) (by kernel_rfl) (by kernel_rfl) h
  obtain ⟨a, e, _, _⟩ := DataW.trod_int Tryz.underlying3 h0; obtain rfl := (List.cons.inj e).1
  obtain ⟨b, e, _, _⟩ := DataW.trod_int Tryz.underlying3 h1; obtain rfl := (List.cons.inj e).1
  obtain ⟨c, e, _, _⟩ := DataW.trod_int Tryz.underlying3 h2; obtain rfl := (List.cons.inj e).1
  obtain ⟨d, e, _, _⟩ := DataW.trod_int Tryz.underlying3 h3; obtain rfl := (List.cons.inj e).1
  exact ⟨⟨a, b, c, d⟩, k44_mk w _, trivial⟩
theorem rects_open {n : Nat} {v : Value} {y : DataW H × List MemPlace} (h : Td enc w base spare held n 38 [v] y) : ∃ (A : Option Addr) (xs : List S44) (c : Nat), v = .slice A xs.length c ∧ xs.length ≤ c ∧ Kd.C k44 w A xs.length xs := by
  obtain ⟨A, xs, c, h1, h2, h3, _⟩ := slice_open Tryz.underlying38 k44 (by kernel_rfl) (fun _ => True) rect_open h
  exact ⟨A, xs, c, h1, h2, h3⟩
theorem point_open {r : Reach} {b0 : Nat} {v : Value} {d : DataW H} {p : List MemPlace} (hv : Value.okWide Tryz.prog w r b0 33 v) (h : DataW.Trod enc Tryz.prog w base spare held 33 v d p) : ∃ a b : Int, v = .agg #[.int .i64 a, .int .i64 b] := by
  obtain ⟨cs, rfl, _⟩ := okWide_struct Tryz.underlying33 hv
  obtain ⟨fuel, hf⟩ := h
  obtain ⟨c0, c1, y0, y1, n, e, h0, h1⟩ := cells2 Tryz.underlying33 (by kernel_rfl) rfl rfl (by kernel_rfl) (by kernel_rfl) hf
  obtain ⟨a, e', _, _⟩ := DataW.trod_int Tryz.underlying3 h0; obtain rfl := (List.cons.inj e').1
  obtain ⟨b, e', _, _⟩ := DataW.trod_int Tryz.underlying3 h1; obtain rfl := (List.cons.inj e').1
  refine ⟨a, b, ?_⟩
  congr 1
  apply Array.toList_inj.1
  simpa [Value.cells] using e
theorem region_open {r : Reach} {b0 : Nat} {v : Value} {d : DataW H} {p : List MemPlace} (hv : Value.okWide Tryz.prog w r b0 38 v) (h : DataW.Trod enc Tryz.prog w base spare held 38 v d p) :
    ∃ (A : Option Addr) (c : Nat) (xs : List S44), v = .slice A xs.length c ∧ Kd.C k44 w A xs.length xs ∧ xs.length ≤ c := by
  obtain ⟨a, n, c, rfl⟩ := okWide_slice Tryz.underlying38 hv
  obtain ⟨fuel, hf⟩ := h
  obtain ⟨A, xs, c', h1, h2, h3⟩ := rects_open (enc := enc) (n := fuel) (v := .slice a n c) (y := (d, p)) hf
  exact ⟨A, c', xs, h1, h3, h2⟩
end Go.Proofs.YthkeonbmgcphkaaGreatDoorOpen
