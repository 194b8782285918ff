import Derived.Test.YthkeonbmgcphkaaGreatDoorFg29
import Derived.Test.YthkeonbmgcphkaaGreatDoorFg30
import Derived.Test.YthkeonbmgcphkaaGreatDoorFg32
import Derived.Test.YthkeonbmgcphkaaGreatDoorFg6
import Derived.Deep.Slices
import Derived.Deep.Fields
import Derived.ChangeArms
import Derived.ChangeSame
import Derived.Test.YthkeonbmgcphkaaGreatDoorRows
namespace Go.Proofs.YthkeonbmgcphkaaGreatDoorPlain
open Go.RowKit Go.Proofs.YthkeonbmgcphkaaGreatDoor.PN Go.Proofs.YthkeonbmgcphkaaGreatDoorW.PrintWords Go.Proofs.YthkeonbmgcphkaaGreatDoor.Bytes Go.Proofs.YthkeonbmgcphkaaGreatDoor.Plain
set_option linter.unusedVariables false
set_option linter.unusedSimpArgs false
theorem fP.fit {l5 : List Nc} {l6 : List Ar} (h : fP l5 l6) : Fit l5 l6 :=
  ⟨h.many, fun c hc => (h.classes c hc).few, h.few, fun a ha => (h.areas a ha).few, fun a ha r hr => ((h.areas a ha).good r hr).good, fun a ha => (h.areas a ha).form⟩
theorem search_spec (l : List ByteArray) (a : ByteArray) (hl : l.length ≤ 1000000) (hs : l.Pairwise ltB) : Tot (fun k => bI.f k l a) fun p => p.2 = l.any fun y => decide (a = y) := by
  have hlt : ∀ {p q : Nat} (hp : p < q) (hq : q < l.length), ltB (l[p]'(by omega)) l[q] := fun hp hq => List.pairwise_iff_getElem.1 hs _ _ _ _ hp
  have key : ∀ (d i j : Nat), i + d = j → j ≤ l.length → (∀ q (hq : q < l.length), q < i → ltB l[q] a) → (∀ q (hq : q < l.length), j ≤ q → ¬ ltB l[q] a) → Tot (fun k => bI.l0 k l a (l.length : Int) (i : Int) (j : Int)) fun p => p.2 = l.any fun y => decide (a = y) := by
    intro d
    induction d using Nat.strongRecOn with
    | _ d ih =>
      intro i j hij hj hlo hhi
      refine Tot.succ (g := fun k => bI.l0 (k + 1) l a (l.length : Int) (i : Int) (j : Int)) ?_ fun k => rfl
      simp only [bI.l0, mid_eq i j (by omega), less_some, slices_isNaN_string.f, Option.bind_some]
      refine Tot.ite (fun h => ?_) (fun h => ?_)
      · have hm : (i + j) / 2 < l.length := by omega
        refine Tot.ite (fun _ => ?_) (fun _ => by exfalso; omega)
        refine Tot.ite (fun _ => ?_) (fun _ => by exfalso; omega)
        rw [rdB hm]
        refine Tot.ite (fun h1 => ?_) (fun h1 => ?_)
        · rw [w64 (x := (((i + j) / 2 : Nat) : Int) + 1) (by omega) (by omega), show (((i + j) / 2 : Nat) : Int) + 1 = (((i + j) / 2 + 1 : Nat) : Int) by omega]
          refine ih (j - ((i + j) / 2 + 1)) (by omega) _ _ (by omega) hj (fun q hq hqi => ?_) hhi
          by_cases e : q = (i + j) / 2
          · subst e; exact kP.1 h1
          · exact lV (hlt (by omega : q < (i + j) / 2) hm) (kP.1 h1)
        · refine ih ((i + j) / 2 - i) (by omega) _ _ (by omega) (by omega) hlo fun q hq hqi hb => ?_
          by_cases e : q = (i + j) / 2
          · subst e; exact h1 (kP.2 hb)
          · exact h1 (kP.2 (lV (hlt (by omega : (i + j) / 2 < q) hq) hb))
      · have hij' : i = j := by omega
        subst hij'
        have hno : ∀ q (hq : q < l.length), q ≠ i → l[q] ≠ a := fun q hq hne e => by
          by_cases hqi : q < i
          · have := hlo q hq hqi; rw [e] at this; exact ltB_irrefl a this
          · have h2 : i < l.length := by omega
            have h3 := hlt (by omega : i < q) hq
            rw [e] at h3
            exact hhi i h2 (Nat.le_refl _) h3
        refine Tot.ite (fun h1 => ?_) (fun h1 => Tot.pure _ ?_)
        · have hi : i < l.length := by omega
          refine Tot.ite (fun _ => ?_) (fun _ => by exfalso; omega)
          refine Tot.ite (fun _ => ?_) (fun _ => by exfalso; omega)
          rw [rdB hi]
          refine Tot.ite (fun h2 => Tot.pure _ ?_) (fun h2 => ?_)
          · rw [toList_inj] at h2
            exact (List.any_eq_true.2 ⟨a, by rw [← h2]; exact List.getElem_mem hi, by simp⟩).symm
          · have hn : (l.any fun y => decide (a = y)) = false := by
              rw [Bool.eq_false_iff]
              intro h3
              obtain ⟨y, hy, e⟩ := List.any_eq_true.1 h3
              have e := of_decide_eq_true e
              obtain ⟨q, hq, rfl⟩ := List.getElem_of_mem hy
              by_cases hqi : q = i
              · subst hqi; rw [e] at h2; exact h2 rfl
              · exact hno q hq hqi e.symm
            rw [hn]
            simp only [bne_self_eq_false, Bool.false_eq_true, if_false]
            exact Tot.pure _ rfl
        · symm
          rw [Bool.eq_false_iff]
          intro h3
          obtain ⟨y, hy, e⟩ := List.any_eq_true.1 h3
          have e := of_decide_eq_true e
          obtain ⟨q, hq, rfl⟩ := List.getElem_of_mem hy
          exact hno q hq (by omega) e.symm
  exact key l.length 0 l.length (by omega) (Nat.le_refl _) (fun q _ h => by omega) (fun q h h' => by omega)
def jF (a : ByteArray) : List Nc → ByteArray × List ByteArray × Int × Int
  | [] => (⟨#[]⟩, [], 0, 0)
  | c :: t => if (c.f1.any fun y => decide (a = y)) = true then (c.f0, c.f1, c.f2, c.f3) else jF a t
theorem path_ne {a : ByteArray} (h : jZ a = true) : a.toList ≠ [] := by
  intro e
  have h0 : a.size = 0 := by rw [kJ, ← toList_eq, e]; rfl
  unfold jZ at h
  rw [Bool.and_eq_true, List.all_eq_true] at h
  have hne : parts a ≠ [] := by
    intro e2
    have := splitB_dot a 47
    unfold parts at e2
    rw [e2] at this
    exact splitC_ne _ _ this.symm
  obtain ⟨x, hx⟩ := List.exists_mem_of_ne_nil _ hne
  have h1 := h.2 x hx
  have h2 := kZ a x hx
  unfold jI kQ at h1
  simp only [Bool.and_eq_true, decide_eq_true_eq] at h1
  have h3 := kJ x
  omega
theorem lK (a0 a1 a2 a3 a4 : Int) (l5 : List Nc) (l6 : List Ar) (hf : fP l5 l6) (a : ByteArray) : Tot (fun k => dM.f k a0 a1 a2 a3 a4 l5 l6 a) fun p => p = jF a l5 := by
  unfold dM.f
  have hm := hf.many
  have key := gX (α := ByteArray × List ByteArray × Int × Int) (σ := Unit) (F := fun k _ j => dM.l0 k a l5 (l5.length : Int) (j : Int)) (n := l5.length) (Q := fun _ j p => p = jF a (l5.drop j)) (fun _ j hj ih => ?_) (fun _ => ?_) l5.length () 0 (by omega)
  · exact key
  · have hc := hf.classes _ (List.getElem_mem hj)
    simp only [dM.l0, w1 hj (by omega : l5.length ≤ 9223372036854775807), rdT66 hj]
    rw [List.drop_eq_getElem_cons hj, jF]
    refine Tot.ite (fun _ => ?_) (fun _ => by exfalso; omega)
    refine Tot.ite (fun _ => ?_) (fun _ => by exfalso; omega)
    refine Tot.ite (fun _ => ?_) (fun _ => by exfalso; omega)
    refine Tot.bind (search_spec _ a (by have := hc.few; omega) hc.up) fun b hb => ?_
    rw [← hb]
    refine Tot.ite (fun h => ?_) (fun h => ?_)
    · rw [if_pos h]
      refine Tot.ite (fun h2 => ?_) (fun h2 => Tot.pure _ rfl)
      rw [h] at hb
      obtain ⟨y, hy, e⟩ := List.any_eq_true.1 hb.symm
      have e := of_decide_eq_true e
      exact absurd h2 (path_ne (by rw [e]; exact hc.paths y hy))
    · rw [if_neg h]
      exact ih ()
  · simp only [dM.l0]
    rw [List.drop_length]
    exact Tot.ite (fun _ => by exfalso; omega) (fun _ => Tot.pure _ rfl)
theorem class_spec (a0 a1 a2 a3 a4 : Int) (l5 : List Nc) (l6 : List Ar) (hf : fP l5 l6) (a : ByteArray) : Tot (fun k => cZ.f k a0 a1 a2 a3 a4 l5 l6 a) fun p => p = jF a l5 := by
  unfold cZ.f
  have hm := hf.many
  have key := gX (α := ByteArray × List ByteArray × Int × Int) (σ := Unit) (F := fun k _ j => cZ.l0 k a (j : Int) a0 a1 a2 a3 a4 l5 l6) (n := l5.length) (Q := fun _ j p => p = jF a (l5.drop j)) (fun _ j hj ih => ?_) (fun _ => ?_) l5.length () 0 (by omega)
  · exact key
  · have hc := hf.classes _ (List.getElem_mem hj)
    simp only [cZ.l0, w1 hj (by omega : l5.length ≤ 9223372036854775807), rdT66 hj]
    rw [List.drop_eq_getElem_cons hj, jF]
    refine Tot.ite (fun _ => ?_) (fun _ => by exfalso; omega)
    refine Tot.ite (fun _ => ?_) (fun _ => by exfalso; omega)
    refine Tot.bind (has_tot _ a (by have := hc.few; omega)) fun b hb => ?_
    rw [← hb]
    refine Tot.ite (fun h => Tot.pure _ (by rw [if_pos h])) (fun h => ?_)
    rw [if_neg h]
    exact ih ()
  · simp only [cZ.l0]
    rw [List.drop_length]
    exact Tot.ite (fun _ => by exfalso; omega) (fun _ => Tot.pure _ rfl)
def iJ (a0 : Int) (l5 : List Nc) (a : ByteArray) : Int := if (jF a l5).2.2.1 > 0 then (jF a l5).2.2.1 else a0
def lU (a1 : Int) (l5 : List Nc) (a : ByteArray) : Int := if (jF a l5).2.2.2 > 0 then (jF a l5).2.2.2 else a1
theorem kK (a0 a1 a2 a3 a4 : Int) (l5 : List Nc) (l6 : List Ar) (hf : fP l5 l6) (a : ByteArray) : Tot (fun k => eG.f k a0 a1 a2 a3 a4 l5 l6 a) fun c => c = iJ a0 l5 a := by
  unfold eG.f iJ
  refine Tot.bind (lK a0 a1 a2 a3 a4 l5 l6 hf a) fun b hb => ?_
  subst hb
  exact Tot.ite (fun h => Tot.pure _ (by rw [if_pos h])) fun h => Tot.pure _ (by rw [if_neg h])
theorem lJ (a0 a1 a2 a3 a4 : Int) (l5 : List Nc) (l6 : List Ar) (hf : fP l5 l6) (a : ByteArray) : Tot (fun k => eF.f k a0 a1 a2 a3 a4 l5 l6 a) fun c => c = iJ a0 l5 a := by
  unfold eF.f iJ
  refine Tot.bind (class_spec a0 a1 a2 a3 a4 l5 l6 hf a) fun b hb => ?_
  subst hb
  exact Tot.ite (fun h => Tot.pure _ (by rw [if_pos h])) fun h => Tot.pure _ (by rw [if_neg h])
theorem width_spec (a0 a1 a2 a3 a4 : Int) (l5 : List Nc) (l6 : List Ar) (hf : fP l5 l6) (a : ByteArray) : Tot (fun k => gU.f k a0 a1 a2 a3 a4 l5 l6 a) fun c => c = lU a1 l5 a := by
  unfold gU.f lU
  refine Tot.bind (lK a0 a1 a2 a3 a4 l5 l6 hf a) fun b hb => ?_
  subst hb
  exact Tot.ite (fun h => Tot.pure _ (by rw [if_pos h])) fun h => Tot.pure _ (by rw [if_neg h])
theorem widthOf_spec (a0 a1 a2 a3 a4 : Int) (l5 : List Nc) (l6 : List Ar) (hf : fP l5 l6) (a : ByteArray) : Tot (fun k => fA.f k a0 a1 a2 a3 a4 l5 l6 a) fun c => c = lU a1 l5 a := by
  unfold fA.f lU
  refine Tot.bind (class_spec a0 a1 a2 a3 a4 l5 l6 hf a) fun b hb => ?_
  subst hb
  exact Tot.ite (fun h => Tot.pure _ (by rw [if_pos h])) fun h => Tot.pure _ (by rw [if_neg h])
def iG (layer px py : Int) : List Ar → Int → Bool → Int × Bool
  | [], m, b => (m, b)
  | a :: t, m, b => if (a.f0 = -1 ∨ a.f0 = layer) ∧ covR a.f1 py px = true then iG layer px py t (mx m a.f2) true else iG layer px py t m b
theorem in_cov (l : List Rc) (px py : Int) : l.any (bY.in_ px py) = covR l py px := by
  unfold covR inR
  congr 1
  funext r
  unfold bY.in_
  simp only [Bool.and_assoc]
theorem on_iff {layer px py : Int} {a : Ar} (h : GoodA a) : ((a.f0 < 0 ∨ a.f0 = layer) ∧ a.f1.any (bY.in_ px py) = true) ↔ ((a.f0 = -1 ∨ a.f0 = layer) ∧ covR a.f1 py px = true) := by
  have := h.layer
  rw [in_cov, show (a.f0 < 0 ∨ a.f0 = layer) ↔ (a.f0 = -1 ∨ a.f0 = layer) by omega]
theorem most_on (layer px py : Int) : ∀ (l : List Ar), (∀ a ∈ l, GoodA a) → ∀ m, 0 ≤ m → iG layer px py l m true = (gJ layer px py l m, true) ∧ 0 ≤ gJ layer px py l m
  | [], _, m, hm => ⟨rfl, hm⟩
  | a :: t, h, m, hm => by
    have ha := h a List.mem_cons_self
    have ht : ∀ b ∈ t, GoodA b := fun b hb => h b (List.mem_cons_of_mem _ hb)
    rw [iG, gJ]
    by_cases hc : (a.f0 = -1 ∨ a.f0 = layer) ∧ covR a.f1 py px = true
    · rw [if_pos hc, if_pos ((on_iff ha).2 hc)]
      exact most_on layer px py t ht _ (by have := ha.clear; unfold mx; split <;> omega)
    · rw [if_neg hc, if_neg fun h' => hc ((on_iff ha).1 h')]
      exact most_on layer px py t ht m hm
theorem most_off (layer px py : Int) : ∀ (l : List Ar), (∀ a ∈ l, GoodA a) → (iG layer px py l 0 false = (0, false) ∧ gJ layer px py l (-1) = -1) ∨ (iG layer px py l 0 false = (gJ layer px py l (-1), true) ∧ 0 ≤ gJ layer px py l (-1))
  | [], _ => .inl ⟨rfl, rfl⟩
  | a :: t, h => by
    have ha := h a List.mem_cons_self
    have ht : ∀ b ∈ t, GoodA b := fun b hb => h b (List.mem_cons_of_mem _ hb)
    rw [iG, gJ]
    by_cases hc : (a.f0 = -1 ∨ a.f0 = layer) ∧ covR a.f1 py px = true
    · rw [if_pos hc, if_pos ((on_iff ha).2 hc)]
      have hcl := ha.clear
      rw [show mx (-1) a.f2 = a.f2 by unfold mx; split <;> omega, show mx 0 a.f2 = a.f2 by unfold mx; split <;> omega]
      exact .inr (most_on layer px py t ht _ hcl)
    · rw [if_neg hc, if_neg fun h' => hc ((on_iff ha).1 h')]
      exact most_off layer px py t ht
theorem needs6_spec (a0 a1 a2 a3 a4 : Int) (l5 : List Nc) (l6 : List Ar) (hf : fP l5 l6) (a b : ByteArray) (layer px py : Int) :
    Tot (fun k => bJ.f k a0 a1 a2 a3 a4 l5 l6 a b layer px py) fun r => r = if gJ layer px py l6 (-1) ≥ 0 then gJ layer px py l6 (-1) else mx (iJ a0 l5 a) (iJ a0 l5 b) := by
  unfold bJ.f
  have hm := hf.few
  have key := gX (α := Int) (σ := Int × Bool) (F := fun k s j => bJ.l0 k a b layer s.1 s.2 (j : Int) a0 a1 a2 a3 a4 l5 l6 px py) (n := l6.length)
    (Q := fun s j r => r = if (iG layer px py (l6.drop j) s.1 s.2).2 = true then (iG layer px py (l6.drop j) s.1 s.2).1 else mx (iJ a0 l5 a) (iJ a0 l5 b)) (fun s j hj ih => ?_) (fun s => ?_) l6.length (0, false) 0 (by omega)
  · refine Tot.imp key fun r hr => ?_
    rw [List.drop_zero] at hr
    rw [hr]
    rcases most_off layer px py l6 hf.areas with ⟨e1, e2⟩ | ⟨e1, e2⟩
    · rw [e1, e2, if_neg (by decide), if_neg (by decide)]
    · rw [e1, if_pos rfl, if_pos (show gJ layer px py l6 (-1) ≥ 0 from e2)]
  · have ha := hf.areas _ (List.getElem_mem hj)
    have hp := hasPoint_tot l6[j].f1 px py ha.few fun r hr => (ha.good r hr).x
    simp only [bJ.l0, w1 hj (by omega : l6.length ≤ 9223372036854775807), rdT68 hj]
    rw [List.drop_eq_getElem_cons hj]
    refine Tot.ite (fun _ => ?_) (fun _ => by exfalso; omega)
    refine Tot.ite (fun _ => ?_) (fun _ => by exfalso; omega)
    refine Tot.ite (fun h1 => ?_) (fun h1 => Tot.ite (fun h2 => ?_) (fun h2 => ?_))
    · refine Tot.bind hp fun c hc => ?_
      refine Tot.ite (fun h3 => ?_) (fun h3 => ?_)
      · rw [show iG layer px py (l6[j] :: l6.drop (j + 1)) s.1 s.2 = iG layer px py (l6.drop (j + 1)) (mx s.1 l6[j].f2) true from if_pos ⟨.inl h1, by rw [← hc]; exact h3⟩]
        exact ih (mx s.1 l6[j].f2, true)
      · rw [show iG layer px py (l6[j] :: l6.drop (j + 1)) s.1 s.2 = iG layer px py (l6.drop (j + 1)) s.1 s.2 from if_neg fun h => h3 (by rw [hc]; exact h.2)]
        exact ih s
    · refine Tot.bind hp fun c hc => ?_
      refine Tot.ite (fun h3 => ?_) (fun h3 => ?_)
      · rw [show iG layer px py (l6[j] :: l6.drop (j + 1)) s.1 s.2 = iG layer px py (l6.drop (j + 1)) (mx s.1 l6[j].f2) true from if_pos ⟨.inr h2, by rw [← hc]; exact h3⟩]
        exact ih (mx s.1 l6[j].f2, true)
      · rw [show iG layer px py (l6[j] :: l6.drop (j + 1)) s.1 s.2 = iG layer px py (l6.drop (j + 1)) s.1 s.2 from if_neg fun h => h3 (by rw [hc]; exact h.2)]
        exact ih s
    · rw [show iG layer px py (l6[j] :: l6.drop (j + 1)) s.1 s.2 = iG layer px py (l6.drop (j + 1)) s.1 s.2 from if_neg fun h => h.1.elim h1 h2]
      exact ih s
  · simp only [bJ.l0]
    rw [List.drop_length, iG]
    refine Tot.ite (fun _ => by exfalso; omega) (fun _ => ?_)
    refine Tot.ite (fun h => Tot.pure _ (by rw [if_pos h])) (fun h => ?_)
    rw [if_neg h]
    refine Tot.bind (lJ a0 a1 a2 a3 a4 l5 l6 hf a) fun x hx => Tot.bind (lJ a0 a1 a2 a3 a4 l5 l6 hf b) fun y hy => Tot.pure _ ?_
    rw [hx, hy]
def netP (a : ByteArray) : Bool := if a.toList = [] then true else jZ a
theorem lC (a : ByteArray) : Tot (fun k => eP.f k a) fun b => b = netP a := by
  unfold eP.f netP
  refine Tot.ite (fun h => Tot.pure _ (by rw [if_pos h])) fun h => Tot.bind (path_tot a) fun b hb => Tot.pure _ ?_
  rw [if_neg h, hb]
theorem jX (a : ByteArray) (ha : a.size < 4294967281) : Tot (fun k => dK.f k a) fun b => b = netP a := by
  unfold dK.f netP
  refine Tot.ite (fun h => Tot.pure _ (by rw [if_pos h])) fun h => Tot.bind (path5_tot a ha) fun b hb => Tot.pure _ ?_
  rw [if_neg h, hb]
theorem within6_some (n : Int) : dG.f n 0 15 = some (decide (0 ≤ n) && decide (n ≤ 15)) := by
  unfold dG.f
  by_cases h : n ≥ 0
  · rw [if_pos h, show decide (0 ≤ n) = true from decide_eq_true h, Bool.true_and]
  · rw [if_neg h, show decide (0 ≤ n) = false from decide_eq_false (by omega), Bool.false_and]
theorem refPoint_some (a b : Int) : eY.f a b = some ((decide (-1000000 ≤ a) && decide (a ≤ 1000000)) && (decide (-1000000 ≤ b) && decide (b ≤ 1000000))) := by
  unfold eY.f
  simp only [refAt_some, Option.bind_some]
  cases (decide (-1000000 ≤ a) && decide (a ≤ 1000000)) <;> simp
theorem Needs6_spec (a0 a1 a2 a3 a4 : Int) (l5 : List Nc) (l6 : List Ar) (a b : ByteArray) (layer px py : Int) (t : Int) (hf : t = 0 → fP l5 l6) (ha : a.size < 4294967281) (hb : b.size < 4294967281)
    (hT : Tot (fun k => aN.f k a0 a1 a2 a3 a4 l5 l6) fun r => r = t) :
    Tot (fun k => dA.f k a0 a1 a2 a3 a4 l5 l6 a b layer px py) fun p => p = mM t (netP a) (netP b) layer px py l6 (iJ a0 l5 a) (iJ a0 l5 b) := by
  unfold dA.f
  refine Tot.bind hT fun r hr => ?_
  subst hr
  have hj : ∀ bad : Bool, r = 0 → bad = (!(netP a && netP b)) → Tot (fun k => dA.j0 k a b layer bad a0 a1 a2 a3 a4 l5 l6 px py) fun p => p = mM r (netP a) (netP b) layer px py l6 (iJ a0 l5 a) (iJ a0 l5 b) := by
    intro bad h0 hb
    refine Tot.succ (g := fun k => dA.j0 (k + 1) a b layer bad a0 a1 a2 a3 a4 l5 l6 px py) ?_ fun k => rfl
    simp only [dA.j0, within6_some, refPoint_some, Option.bind_some]
    unfold mM
    rw [if_pos h0]
    refine Tot.ite (fun h => ?_) (fun h => ?_)
    · rw [if_neg (by rw [hb] at h; generalize netP a = nA at h; generalize netP b = nB at h; cases nA <;> cases nB <;> simp_all)]
      exact Tot.pure _ rfl
    · rw [if_pos (by rw [hb] at h; generalize netP a = nA at h; generalize netP b = nB at h; cases nA <;> cases nB <;> simp_all)]
      refine Tot.ite (fun h1 => ?_) (fun h1 => ?_)
      · rw [if_pos h1]
        refine Tot.ite (fun h2 => ?_) (fun h2 => ?_)
        · rw [if_pos h2]
          refine Tot.bind (needs6_spec a0 a1 a2 a3 a4 l5 l6 (hf h0) a b layer px py) fun x hx => Tot.pure _ ?_
          rw [hx]
        · rw [if_neg h2]
          exact Tot.pure _ rfl
      · rw [if_neg h1]
        exact Tot.pure _ rfl
  refine Tot.ite (fun h0 => ?_) (fun h0 => Tot.pure _ ?_)
  · refine Tot.bind (jX a ha) fun x hx => ?_
    refine Tot.ite (fun h => ?_) (fun h => ?_)
    · refine Tot.bind (jX b hb) fun y hy => ?_
      exact hj _ h0 (by rw [hy, ← hx, h]; rfl)
    · exact hj _ h0 (by rw [← hx, show x = false by simpa using h]; rfl)
  · unfold mM
    rw [if_neg h0]
def widthQ (t : Int) (nA : Bool) (w : Int) : Int × Int := if t = 0 then (if nA = true then (w, 0) else (0, 5)) else (0, t)
theorem WidthOf_spec (a0 a1 a2 a3 a4 : Int) (l5 : List Nc) (l6 : List Ar) (a : ByteArray) (t : Int) (hf : t = 0 → fP l5 l6) (hT : Tot (fun k => bQ.f k a0 a1 a2 a3 a4 l5 l6) fun r => r = t) :
    Tot (fun k => fH.f k a0 a1 a2 a3 a4 l5 l6 a) fun p => p = widthQ t (netP a) (lU a1 l5 a) := by
  unfold fH.f widthQ
  refine Tot.bind hT fun r hr => ?_
  subst hr
  refine Tot.ite (fun h0 => ?_) (fun h0 => Tot.pure _ (by rw [if_neg h0]))
  rw [if_pos h0]
  refine Tot.bind (lC a) fun x hx => ?_
  subst hx
  refine Tot.ite (fun h => ?_) (fun h => Tot.pure _ (by rw [if_neg h]))
  rw [if_pos h]
  exact Tot.bind (width_spec a0 a1 a2 a3 a4 l5 l6 (hf h0) a) fun x hx => Tot.pure _ (by rw [hx])
theorem WidthOf6_spec (a0 a1 a2 a3 a4 : Int) (l5 : List Nc) (l6 : List Ar) (a : ByteArray) (t : Int) (hf : t = 0 → fP l5 l6) (ha : a.size < 4294967281) (hT : Tot (fun k => aN.f k a0 a1 a2 a3 a4 l5 l6) fun r => r = t) :
    Tot (fun k => dU.f k a0 a1 a2 a3 a4 l5 l6 a) fun p => p = widthQ t (netP a) (lU a1 l5 a) := by
  unfold dU.f widthQ
  refine Tot.bind hT fun r hr => ?_
  subst hr
  refine Tot.ite (fun h0 => ?_) (fun h0 => Tot.pure _ (by rw [if_neg h0]))
  rw [if_pos h0]
  refine Tot.bind (jX a ha) fun x hx => ?_
  subst hx
  refine Tot.ite (fun h => ?_) (fun h => Tot.pure _ (by rw [if_neg h]))
  rw [if_pos h]
  exact Tot.bind (widthOf_spec a0 a1 a2 a3 a4 l5 l6 (hf h0) a) fun x hx => Tot.pure _ (by rw [hx])
theorem rulesNeedMatchSpec (a0 a1 a2 a3 a4 : Int) (l5 : List Nc) (l6 : List Ar) (a b : ByteArray) (layer px py : Int) (hs : ∀ c ∈ l5, c.f0.size < 9223372036854775807 ∧ c.f1.length ≤ 1000000000 ∧ ∀ n ∈ c.f1, n.size < 4294967281) (h6 : l6.length ≤ 1000000000000) (ha : a.size < 4294967281) (hb : b.size < 4294967281) :
    ∃ k, dV.f k a0 a1 a2 a3 a4 l5 l6 a b layer px py = some true := by
  obtain ⟨K, t, hK, ht⟩ := mY a0 a1 a2 a3 a4 l5 l6 fun c hc => (hs c hc).1
  have hT : Tot (fun k => bQ.f k a0 a1 a2 a3 a4 l5 l6) fun r => r = t := ⟨K, t, hK, rfl⟩
  have hT6 : Tot (fun k => aN.f k a0 a1 a2 a3 a4 l5 l6) fun r => r = t := (lT a0 a1 a2 a3 a4 l5 l6 hs h6).imp fun r hr => hr.unique ht
  have hf : t = 0 → fP l5 l6 := fun h => jA.zero (h ▸ ht)
  have key : Tot (fun k => dV.f k a0 a1 a2 a3 a4 l5 l6 a b layer px py) fun r => r = true := by
    unfold dV.f
    refine Tot.bind (Needs_tot a0 a1 a2 a3 a4 l5 l6 a b layer px py t (netP a) (netP b) (iJ a0 l5 a) (iJ a0 l5 b) (fun h => (hf h).fit) hT (lC a) (lC b) (fun h => kK a0 a1 a2 a3 a4 l5 l6 (hf h) a) (fun h => kK a0 a1 a2 a3 a4 l5 l6 (hf h) b)) fun p hp => ?_
    refine Tot.bind (Needs6_spec a0 a1 a2 a3 a4 l5 l6 a b layer px py t hf ha hb hT6) fun q hq => ?_
    refine Tot.bind (WidthOf_spec a0 a1 a2 a3 a4 l5 l6 a t hf hT) fun v hv => ?_
    refine Tot.bind (WidthOf6_spec a0 a1 a2 a3 a4 l5 l6 a t hf ha hT6) fun u hu => ?_
    exact Tot.ite (fun _ => Tot.ite (fun _ => Tot.ite (fun _ => Tot.ite (fun _ => Tot.bind awake_tot fun r hr => Tot.pure _ hr) fun h => absurd (by rw [hv, hu]) h) fun h => absurd (by rw [hv, hu]) h) fun h => absurd (by rw [hp, hq]) h) fun h => absurd (by rw [hp, hq]) h
  obtain ⟨K, r, hk, hr⟩ := key
  exact ⟨K, by rw [← hr]; exact hk K (Nat.le_refl _)⟩
end Go.Proofs.YthkeonbmgcphkaaGreatDoorPlain
namespace Go.Proofs.YthkeonbmgcphkaaGreatDoorOpen
open Go Go.RowKit Go.ChangeShapes Go.WideShapes Go.Deep Go.Proofs.YthkeonbmgcphkaaGreatDoor.PN Go.Proofs.YthkeonbmgcphkaaGreatDoorW.PrintWords
set_option linter.unusedVariables false
set_option linter.unusedSimpArgs false
set_option maxRecDepth 100000
variable {H : Type} {enc : TypeId × Value → H} {P : Program} {w : World} {base : Nat} {spare : Nat → Bool} {held : Bool}
theorem row_of {α : Type} (d : Kd α) {A : Addr} {len : Nat} (hmax : len ≤ 9223372036854775807) (Q : α → Prop) (h : ∀ i, i < len → ∃ x c, c.length = d.sz ∧ d.K w x c ∧ Q x ∧ ∀ j u, c[j]? = some u → w.cell? (A.add (i * d.sz + j)) = some u) :
    ∃ xs : List α, xs.length = len ∧ Kd.C d w (some A) xs.length xs ∧ ∀ x ∈ xs, Q x := by
  have hx : ∃ g : Nat → Option α, ∀ i, i < len → ∃ x c, g i = some x ∧ c.length = d.sz ∧ d.K w x c ∧ Q x ∧ ∀ j u, c[j]? = some u → w.cell? (A.add (i * d.sz + j)) = some u := by
    refine ⟨fun i => if h' : i < len then some (Classical.choose (h i h')) else none, fun i hi => ?_⟩
    obtain ⟨c, hc⟩ := Classical.choose_spec (h i hi)
    exact ⟨_, c, dif_pos hi, hc⟩
  obtain ⟨g, hg⟩ := hx
  have hall : ∀ n, n ≤ len → ∃ xs : List α, xs.length = n ∧ ∀ i, i < n → ∃ x, xs[i]? = some x ∧ g i = some x := by
    intro n
    induction n with
    | zero => intro _; exact ⟨[], rfl, fun i hi => absurd hi (by omega)⟩
    | succ n ih =>
      intro hn
      obtain ⟨xs, hl, hxs⟩ := ih (by omega)
      obtain ⟨x, c, hgx, _⟩ := hg n (by omega)
      refine ⟨xs ++ [x], by simp [hl], fun i hi => ?_⟩
      by_cases hin : i < n
      · obtain ⟨y, hy, hgy⟩ := hxs i hin
        exact ⟨y, by rw [List.getElem?_append_left (by omega)]; exact hy, hgy⟩
      · obtain rfl : i = n := by omega
        exact ⟨x, by rw [List.getElem?_append_right (by omega), hl]; simp, hgx⟩
  obtain ⟨xs, hl, hxs⟩ := hall len (Nat.le_refl _)
  refine ⟨xs, hl, ⟨rfl, by omega, fun _ => ⟨A, rfl, fun j p hj => ?_⟩⟩, fun x hx => ?_⟩
  · have hjl : j < len := by rw [← hl]; exact (List.getElem?_eq_some_iff.1 hj).1
    obtain ⟨x, hx1, hx2⟩ := hxs j hjl
    obtain ⟨x', c, h1, h2, h3, h4, h5⟩ := hg j hjl
    obtain rfl : p = x := Option.some.inj (hj.symm.trans hx1)
    obtain rfl : p = x' := Option.some.inj (hx2.symm.trans h1)
    exact ⟨c, h2, h3, h5⟩
  · obtain ⟨j, hj, rfl⟩ := List.getElem_of_mem hx
    obtain ⟨x, hx1, hx2⟩ := hxs j (by omega)
    obtain ⟨x', c, h1, h2, h3, h4, h5⟩ := hg j (by omega)
    obtain rfl : x = x' := Option.some.inj (hx2.symm.trans h1)
    rw [List.getElem?_eq_getElem hj] at hx1
    obtain rfl := Option.some.inj hx1
    exact h4
theorem slice_open {α : Type} {t e : TypeId} {fuel : Nat} {v : Value} {y : DataW H × List MemPlace} (ht : P.underlying t = some (.slice e)) (d : Kd α) (hC : P.cellsOf e = d.sz) (Q : α → Prop)
    (hel : ∀ n cs y, DataW.trod enc P w base spare held n e cs = some y → ∃ x, d.K w x cs ∧ Q x) (h : DataW.trod enc P w base spare held fuel t [v] = some y) :
    ∃ (A : Option Addr) (xs : List α) (c : Nat), v = .slice A xs.length c ∧ xs.length ≤ c ∧ Kd.C d w A xs.length xs ∧ ∀ x ∈ xs, Q x := by
  rcases open_slice ht h with ⟨hcs, _⟩ | ⟨a, len, cap, m, n, D, Pl, hcs, _, hl, hm, hmm, _, hi⟩
  · obtain rfl := (List.cons.inj hcs).1
    exact ⟨none, [], 0, rfl, Nat.le_refl _, ⟨rfl, Nat.zero_le _, fun h => absurd h (Nat.lt_irrefl 0)⟩, fun x hx => by cases hx⟩
  · obtain rfl := (List.cons.inj hcs).1
    have hmx : maxLen = 9223372036854775807 := by decide
    obtain ⟨xs, hxl, hxc, hxq⟩ := row_of (w := w) d (A := a) (len := len) (by omega) Q fun i hil => by
      obtain ⟨cs', hc, ht'⟩ := hi i (by rw [hmm]; split <;> omega)
      obtain ⟨x, hx, hq⟩ := hel _ _ _ ht'
      obtain ⟨_, hcl, hat⟩ := World.cells?_some hc
      refine ⟨x, cs', d.K_len hx, hx, hq, fun j u hu => ?_⟩
      have hj : j < cs'.length := (List.getElem?_eq_some_iff.1 hu).1
      have := hat j (by omega)
      rw [Go.Deep.add_add, hC] at this
      rw [this, hu]
    exact ⟨some a, xs, cap, by rw [hxl], by omega, hxc, hxq⟩
section
variable {t : TypeId} {fuel : Nat} {cs : List Value} {x : DataW H × List MemPlace}
theorem cells2 {f0 f1 : Field} (hs : P.underlying t = some (.struct #[f0, f1])) (hC : P.cellsOf t = 2) (o0 : f0.offset = 0) (o1 : f1.offset = 1) (k0 : P.cellsOf f0.type = 1) (k1 : P.cellsOf f1.type = 1)
    (h : DataW.trod enc P w base spare held fuel t cs = some x) : ∃ c0 c1 y0 y1 n, cs = [c0, c1] ∧ DataW.trod enc P w base spare held n f0.type [c0] = some y0 ∧ DataW.trod enc P w base spare held n f1.type [c1] = some y1 := by
  obtain ⟨xs, n, _, hx, hlen, hxl, hf⟩ := DataW.trod_struct hs h
  match cs, hlen.trans hC, xs, hxl with
  | [c0, c1], _, [y0, y1], _ => exact ⟨c0, c1, y0, y1, n, rfl, by simpa [o0, k0] using hf 0 f0 rfl, by simpa [o1, k1] using hf 1 f1 rfl⟩
theorem cells3 {f0 f1 f2 : Field} (hs : P.underlying t = some (.struct #[f0, f1, f2])) (hC : P.cellsOf t = 3) (o0 : f0.offset = 0) (o1 : f1.offset = 1) (o2 : f2.offset = 2) (k0 : P.cellsOf f0.type = 1) (k1 : P.cellsOf f1.type = 1) (k2 : P.cellsOf f2.type = 1)
    (h : DataW.trod enc P w base spare held fuel t cs = some x) : ∃ c0 c1 c2 y0 y1 y2 n, cs = [c0, c1, c2] ∧ DataW.trod enc P w base spare held n f0.type [c0] = some y0 ∧ DataW.trod enc P w base spare held n f1.type [c1] = some y1 ∧ DataW.trod enc P w base spare held n f2.type [c2] = some y2 := by
  obtain ⟨xs, n, _, hx, hlen, hxl, hf⟩ := DataW.trod_struct hs h
  match cs, hlen.trans hC, xs, hxl with
  | [c0, c1, c2], _, [y0, y1, y2], _ => exact ⟨c0, c1, c2, y0, y1, y2, n, rfl, by simpa [o0, k0] using hf 0 f0 rfl, by simpa [o1, k1] using hf 1 f1 rfl, by simpa [o2, k2] using hf 2 f2 rfl⟩
theorem cells4 {f0 f1 f2 f3 : Field} (hs : P.underlying t = some (.struct #[f0, f1, f2, f3])) (hC : P.cellsOf t = 4) (o0 : f0.offset = 0) (o1 : f1.offset = 1) (o2 : f2.offset = 2) (o3 : f3.offset = 3) (k0 : P.cellsOf f0.type = 1) (k1 : P.cellsOf f1.type = 1) (k2 : P.cellsOf f2.type = 1) (k3 : P.cellsOf f3.type = 1)
    (h : DataW.trod enc P w base spare held fuel t cs = some x) : ∃ c0 c1 c2 c3 y0 y1 y2 y3 n, cs = [c0, c1, c2, c3] ∧ DataW.trod enc P w base spare held n f0.type [c0] = some y0 ∧ DataW.trod enc P w base spare held n f1.type [c1] = some y1 ∧ DataW.trod enc P w base spare held n f2.type [c2] = some y2 ∧ DataW.trod enc P w base spare held n f3.type [c3] = some y3 := by
  obtain ⟨xs, n, _, hx, hlen, hxl, hf⟩ := DataW.trod_struct hs h
  match cs, hlen.trans hC, xs, hxl with
  | [c0, c1, c2, c3], _, [y0, y1, y2, y3], _ => exact ⟨c0, c1, c2, c3, y0, y1, y2, y3, n, rfl, by simpa [o0, k0] using hf 0 f0 rfl, by simpa [o1, k1] using hf 1 f1 rfl, by simpa [o2, k2] using hf 2 f2 rfl, by simpa [o3, k3] using hf 3 f3 rfl⟩
end
abbrev Td (enc : TypeId × Value → H) (w : World) (base : Nat) (spare : Nat → Bool) (held : Bool) (n : Nat) (t : TypeId) (cs : List Value) (y : DataW H × List MemPlace) : Prop := DataW.trod enc Tryz.prog w base spare held n t cs = some y
theorem rect_open (n : Nat) (cs : List Value) (y : DataW H × List MemPlace) (h : Td enc w base spare held n 44 cs y) : ∃ x : S44, k44.K w x cs ∧ True := by
  obtain ⟨c0, c1, c2, c3, y0, y1, y2, y3, n, rfl, h0, h1, h2, h3⟩ := cells4 Tryz.underlying44 (by kernel_rfl) rfl rfl rfl rfl (by kernel_rfl) (by kernel_rfl) (by kernel_rfl) (by kernel_rfl) h
  obtain ⟨a, e, _, _⟩ := DataW.trod_int Tryz.underlying3 h0; obtain rfl := (List.cons.inj e).1
  obtain ⟨b, e, _, _⟩ := DataW.trod_int Tryz.underlying3 h1; obtain rfl := (List.cons.inj e).1
  obtain ⟨c, e, _, _⟩ := DataW.trod_int Tryz.underlying3 h2; obtain rfl := (List.cons.inj e).1
  obtain ⟨d, e, _, _⟩ := DataW.trod_int Tryz.underlying3 h3; obtain rfl := (List.cons.inj e).1
  exact ⟨⟨a, b, c, d⟩, k44_mk w _, trivial⟩
theorem rects_open {n : Nat} {v : Value} {y : DataW H × List MemPlace} (h : Td enc w base spare held n 38 [v] y) : ∃ (A : Option Addr) (xs : List S44) (c : Nat), v = .slice A xs.length c ∧ xs.length ≤ c ∧ Kd.C k44 w A xs.length xs := by
  obtain ⟨A, xs, c, h1, h2, h3, _⟩ := slice_open Tryz.underlying38 k44 (by kernel_rfl) (fun _ => True) rect_open h
  exact ⟨A, xs, c, h1, h2, h3⟩
theorem area_open (n : Nat) (cs : List Value) (y : DataW H × List MemPlace) (h : Td enc w base spare held n 68 cs y) : ∃ x : S68, k68.K w x cs ∧ True := by
  obtain ⟨c0, c1, c2, y0, y1, y2, n, rfl, h0, h1, h2⟩ := cells3 Tryz.underlying68 (by kernel_rfl) rfl rfl rfl (by kernel_rfl) (by kernel_rfl) (by kernel_rfl) h
  obtain ⟨a, e, _, _⟩ := DataW.trod_int Tryz.underlying3 h0; obtain rfl := (List.cons.inj e).1
  obtain ⟨A, xs, c, rfl, hl, hc⟩ := rects_open h1
  obtain ⟨b, e, _, _⟩ := DataW.trod_int Tryz.underlying3 h2; obtain rfl := (List.cons.inj e).1
  exact ⟨⟨a, xs, b⟩, k68_mk w ⟨a, xs, b⟩ hl hc, trivial⟩
theorem point_open {r : Reach} {b0 : Nat} {v : Value} {d : DataW H} {p : List MemPlace} (hv : Value.okWide Tryz.prog w r b0 33 v) (h : DataW.Trod enc Tryz.prog w base spare held 33 v d p) : ∃ a b : Int, v = .agg #[.int .i64 a, .int .i64 b] := by
  obtain ⟨cs, rfl, _⟩ := okWide_struct Tryz.underlying33 hv
  obtain ⟨fuel, hf⟩ := h
  obtain ⟨c0, c1, y0, y1, n, e, h0, h1⟩ := cells2 Tryz.underlying33 (by kernel_rfl) rfl rfl (by kernel_rfl) (by kernel_rfl) hf
  obtain ⟨a, e', _, _⟩ := DataW.trod_int Tryz.underlying3 h0; obtain rfl := (List.cons.inj e').1
  obtain ⟨b, e', _, _⟩ := DataW.trod_int Tryz.underlying3 h1; obtain rfl := (List.cons.inj e').1
  refine ⟨a, b, ?_⟩
  congr 1
  apply Array.toList_inj.1
  simpa [Value.cells] using e
end Go.Proofs.YthkeonbmgcphkaaGreatDoorOpen
namespace Go.Proofs.YthkeonbmgcphkaaGreatDoorOpen
open Go Go.RowKit Go.ChangeShapes Go.WideShapes Go.Deep Go.Proofs.YthkeonbmgcphkaaGreatDoor.PN Go.Proofs.YthkeonbmgcphkaaGreatDoorW.PrintWords Go.Proofs.YthkeonbmgcphkaaGreatDoor
set_option linter.unusedVariables false
set_option linter.unusedSimpArgs false
set_option maxRecDepth 100000
variable {H : Type} {enc : TypeId × Value → H} {P : Program} {w : World} {base : Nat} {spare : Nat → Bool} {held : Bool}
theorem bulk_pos : ∀ d : DataW H, 1 ≤ Rows.uptoBulk d
  | .lit (.string bytes) => by simp [Rows.uptoBulk]
  | .lit (.bool _) => by simp [Rows.uptoBulk]
  | .lit (.int _ _) => by simp [Rows.uptoBulk]
  | d => by cases d <;> (try (rename_i x; cases x)) <;> simp [Rows.uptoBulk]
theorem bulk_mem : ∀ {l : List (DataW H)} {d : DataW H}, d ∈ l → Rows.uptoBulk d ≤ Rows.uptoBulkAll l
  | e :: l, d, h => by
    rw [Rows.uptoBulkAll]
    rcases List.mem_cons.1 h with rfl | h
    · omega
    · have := bulk_mem h; omega
theorem bulk_len : ∀ l : List (DataW H), l.length ≤ Rows.uptoBulkAll l
  | [] => Nat.le_refl _
  | d :: l => by
    have h1 := bulk_pos d
    have h2 := bulk_len l
    rw [Rows.uptoBulkAll, List.length_cons]
    omega
theorem kG {α : Type} {t e : TypeId} {fuel : Nat} {v : Value} {y : DataW H × List MemPlace} {B : Nat} (ht : P.underlying t = some (.slice e)) (d : Kd α) (hC : P.cellsOf e = d.sz) (Q : α → Prop)
    (hel : ∀ n cs y, DataW.trod enc P w base spare held n e cs = some y → Rows.uptoBulk y.1 ≤ B → ∃ x, d.K w x cs ∧ Q x) (h : DataW.trod enc P w base spare held fuel t [v] = some y) (hb : Rows.uptoBulk y.1 ≤ B) :
    ∃ (A : Option Addr) (xs : List α) (c : Nat), v = .slice A xs.length c ∧ xs.length ≤ c ∧ Kd.C d w A xs.length xs ∧ (∀ x ∈ xs, Q x) ∧ xs.length ≤ B := by
  rcases open_slice ht h with ⟨hcs, _⟩ | ⟨a, len, cap, m, n, D, Pl, hcs, _, hl, hm, hmm, hy, hi⟩
  · obtain rfl := (List.cons.inj hcs).1
    exact ⟨none, [], 0, rfl, Nat.le_refl _, ⟨rfl, Nat.zero_le _, fun h => absurd h (Nat.lt_irrefl 0)⟩, fun x hx => (by cases hx), Nat.zero_le _⟩
  · obtain rfl := (List.cons.inj hcs).1
    have hmx : maxLen = 9223372036854775807 := by decide
    rw [hy] at hb
    simp only [Rows.uptoBulk] at hb
    obtain ⟨xs, hxl, hxc, hxq⟩ := row_of (w := w) d (A := a) (len := len) (by omega) Q fun i hil => by
      obtain ⟨cs', hc, ht'⟩ := hi i (by rw [hmm]; split <;> omega)
      have hbi : Rows.uptoBulk (D i) ≤ Rows.uptoBulkAll ((List.range len).map D) := bulk_mem (List.mem_map.2 ⟨i, List.mem_range.2 hil, rfl⟩)
      obtain ⟨x, hx, hq⟩ := hel _ _ _ ht' (by show Rows.uptoBulk (D i) ≤ B; omega)
      obtain ⟨_, hcl, hat⟩ := World.cells?_some hc
      refine ⟨x, cs', d.K_len hx, hx, hq, fun j u hu => ?_⟩
      have hj : j < cs'.length := (List.getElem?_eq_some_iff.1 hu).1
      have := hat j (by omega)
      rw [Go.Deep.add_add, hC] at this
      rw [this, hu]
    have hln := bulk_len ((List.range len).map D)
    rw [List.length_map, List.length_range] at hln
    exact ⟨some a, xs, cap, by rw [hxl], by omega, hxc, hxq, by omega⟩
theorem cells4B {t : TypeId} {fuel : Nat} {cs : List Value} {x : DataW H × List MemPlace} {B : Nat} {f0 f1 f2 f3 : Field} (hs : P.underlying t = some (.struct #[f0, f1, f2, f3])) (hC : P.cellsOf t = 4) (o0 : f0.offset = 0) (o1 : f1.offset = 1) (o2 : f2.offset = 2) (o3 : f3.offset = 3) (k0 : P.cellsOf f0.type = 1) (k1 : P.cellsOf f1.type = 1) (k2 : P.cellsOf f2.type = 1) (k3 : P.cellsOf f3.type = 1)
    (h : DataW.trod enc P w base spare held fuel t cs = some x) (hb : Rows.uptoBulk x.1 ≤ B) : ∃ c0 c1 c2 c3 y0 y1 y2 y3 n, cs = [c0, c1, c2, c3] ∧ DataW.trod enc P w base spare held n f0.type [c0] = some y0 ∧ DataW.trod enc P w base spare held n f1.type [c1] = some y1 ∧ DataW.trod enc P w base spare held n f2.type [c2] = some y2 ∧ DataW.trod enc P w base spare held n f3.type [c3] = some y3 ∧ Rows.uptoBulk y0.1 ≤ B ∧ Rows.uptoBulk y1.1 ≤ B := by
  obtain ⟨xs, n, _, hx, hlen, hxl, hf⟩ := DataW.trod_struct hs h
  match cs, hlen.trans hC, xs, hxl with
  | [c0, c1, c2, c3], _, [y0, y1, y2, y3], _ =>
    rw [hx] at hb
    simp only [List.map_cons, List.map_nil, Rows.uptoBulk, Rows.uptoBulkAll] at hb
    exact ⟨c0, c1, c2, c3, y0, y1, y2, y3, n, rfl, by simpa [o0, k0] using hf 0 f0 rfl, by simpa [o1, k1] using hf 1 f1 rfl, by simpa [o2, k2] using hf 2 f2 rfl, by simpa [o3, k3] using hf 3 f3 rfl, by omega, by omega⟩
theorem cells7B {t : TypeId} {fuel : Nat} {cs : List Value} {x : DataW H × List MemPlace} {B : Nat} {f0 f1 f2 f3 f4 f5 f6 : Field} (hs : P.underlying t = some (.struct #[f0, f1, f2, f3, f4, f5, f6])) (hC : P.cellsOf t = 7) (o0 : f0.offset = 0) (o1 : f1.offset = 1) (o2 : f2.offset = 2) (o3 : f3.offset = 3) (o4 : f4.offset = 4) (o5 : f5.offset = 5) (o6 : f6.offset = 6)
    (k0 : P.cellsOf f0.type = 1) (k1 : P.cellsOf f1.type = 1) (k2 : P.cellsOf f2.type = 1) (k3 : P.cellsOf f3.type = 1) (k4 : P.cellsOf f4.type = 1) (k5 : P.cellsOf f5.type = 1) (k6 : P.cellsOf f6.type = 1)
    (h : DataW.trod enc P w base spare held fuel t cs = some x) (hb : Rows.uptoBulk x.1 ≤ B) : ∃ c0 c1 c2 c3 c4 c5 c6 y0 y1 y2 y3 y4 y5 y6 n, cs = [c0, c1, c2, c3, c4, c5, c6] ∧ DataW.trod enc P w base spare held n f0.type [c0] = some y0 ∧ DataW.trod enc P w base spare held n f1.type [c1] = some y1 ∧ DataW.trod enc P w base spare held n f2.type [c2] = some y2 ∧ DataW.trod enc P w base spare held n f3.type [c3] = some y3 ∧
      DataW.trod enc P w base spare held n f4.type [c4] = some y4 ∧ DataW.trod enc P w base spare held n f5.type [c5] = some y5 ∧ DataW.trod enc P w base spare held n f6.type [c6] = some y6 ∧ Rows.uptoBulk y5.1 ≤ B ∧ Rows.uptoBulk y6.1 ≤ B := by
  obtain ⟨xs, n, _, hx, hlen, hxl, hf⟩ := DataW.trod_struct hs h
  match cs, hlen.trans hC, xs, hxl with
  | [c0, c1, c2, c3, c4, c5, c6], _, [y0, y1, y2, y3, y4, y5, y6], _ =>
    rw [hx] at hb
    simp only [List.map_cons, List.map_nil, Rows.uptoBulk, Rows.uptoBulkAll] at hb
    exact ⟨c0, c1, c2, c3, c4, c5, c6, y0, y1, y2, y3, y4, y5, y6, n, rfl, by simpa [o0, k0] using hf 0 f0 rfl, by simpa [o1, k1] using hf 1 f1 rfl, by simpa [o2, k2] using hf 2 f2 rfl, by simpa [o3, k3] using hf 3 f3 rfl, by simpa [o4, k4] using hf 4 f4 rfl, by simpa [o5, k5] using hf 5 f5 rfl, by simpa [o6, k6] using hf 6 f6 rfl, by omega, by omega⟩
theorem kS (s : ByteArray) : s.data.toList.length = s.size := by rw [Array.length_toList]; rfl
theorem strs_openB {n : Nat} {v : Value} {y : DataW H × List MemPlace} (h : Td enc w base spare held n 57 [v] y) (hb : Rows.uptoBulk y.1 ≤ 1048576) : ∃ (A : Option Addr) (xs : List ByteArray) (c : Nat), v = .slice A xs.length c ∧ xs.length ≤ c ∧ Kd.string.C w A xs.length xs ∧ (∀ x ∈ xs, x.size < 4294967281) ∧ xs.length ≤ 1048576 :=
  kG Tryz.underlying57 Kd.string (by kernel_rfl) (fun x => x.size < 4294967281) (fun n cs y h hb => by
    obtain ⟨s, rfl, e, _⟩ := DataW.trod_string Tryz.underlying9 h
    rw [e] at hb
    simp only [Rows.uptoBulk, kS] at hb
    exact ⟨s, rfl, by omega⟩) h hb
theorem class_openB (n : Nat) (cs : List Value) (y : DataW H × List MemPlace) (h : Td enc w base spare held n 66 cs y) (hb : Rows.uptoBulk y.1 ≤ 1048576) : ∃ x : S66, k66.K w x cs ∧ x.f0.size < 9223372036854775807 ∧ x.f1.length ≤ 1000000000 ∧ ∀ n ∈ x.f1, n.size < 4294967281 := by
  obtain ⟨c0, c1, c2, c3, y0, y1, y2, y3, n, rfl, h0, h1, h2, h3, b0, b1⟩ := cells4B Tryz.underlying66 (by kernel_rfl) rfl rfl rfl rfl (by kernel_rfl) (by kernel_rfl) (by kernel_rfl) (by kernel_rfl) h hb
  obtain ⟨a, e, ed, hs⟩ := DataW.trod_string Tryz.underlying9 h0; obtain rfl := (List.cons.inj e).1
  rw [ed] at b0
  simp only [Rows.uptoBulk, kS] at b0
  obtain ⟨A, xs, c, rfl, hl, hc, hx, hn⟩ := strs_openB h1 b1
  obtain ⟨p, e, _, _⟩ := DataW.trod_int Tryz.underlying3 h2; obtain rfl := (List.cons.inj e).1
  obtain ⟨q, e, _, _⟩ := DataW.trod_int Tryz.underlying3 h3; obtain rfl := (List.cons.inj e).1
  exact ⟨⟨a, xs, p, q⟩, k66_mk w ⟨a, xs, p, q⟩ hl hc, by show a.size < _; omega, by show xs.length ≤ _; omega, hx⟩
theorem rules_openB {r : Reach} {b0 : Nat} {v : Value} {d : DataW H} {p : List MemPlace} (hv : Value.okWide Tryz.prog w r b0 25 v) (h : DataW.Trod enc Tryz.prog w base spare held 25 v d p) (hb : Rows.uptoBulk d ≤ 1048576) :
    ∃ (a0 a1 a2 a3 a4 : Int) (A5 : Option Addr) (c5 : Nat) (l5 : List S66) (A6 : Option Addr) (c6 : Nat) (l6 : List S68), v = .agg #[.int .i64 a0, .int .i64 a1, .int .i64 a2, .int .i64 a3, .int .i64 a4, .slice A5 l5.length c5, .slice A6 l6.length c6] ∧
      Kd.C k66 w A5 l5.length l5 ∧ l5.length ≤ c5 ∧ Kd.C k68 w A6 l6.length l6 ∧ l6.length ≤ c6 ∧ (∀ c ∈ l5, c.f0.size < 9223372036854775807 ∧ c.f1.length ≤ 1000000000 ∧ ∀ n ∈ c.f1, n.size < 4294967281) ∧ l6.length ≤ 1000000000000 := by
  obtain ⟨cs, rfl, _⟩ := okWide_struct Tryz.underlying25 hv
  obtain ⟨fuel, hf⟩ := h
  obtain ⟨c0, c1, c2, c3, c4, c5, c6, y0, y1, y2, y3, y4, y5, y6, n, e, h0, h1, h2, h3, h4, h5, h6, b5, b6⟩ := cells7B Tryz.underlying25 (by kernel_rfl) rfl rfl rfl rfl rfl rfl rfl (by kernel_rfl) (by kernel_rfl) (by kernel_rfl) (by kernel_rfl) (by kernel_rfl) (by kernel_rfl) (by kernel_rfl) hf hb
  obtain ⟨a0, e', _, _⟩ := DataW.trod_int Tryz.underlying3 h0; obtain rfl := (List.cons.inj e').1
  obtain ⟨a1, e', _, _⟩ := DataW.trod_int Tryz.underlying3 h1; obtain rfl := (List.cons.inj e').1
  obtain ⟨a2, e', _, _⟩ := DataW.trod_int Tryz.underlying3 h2; obtain rfl := (List.cons.inj e').1
  obtain ⟨a3, e', _, _⟩ := DataW.trod_int Tryz.underlying3 h3; obtain rfl := (List.cons.inj e').1
  obtain ⟨a4, e', _, _⟩ := DataW.trod_int Tryz.underlying3 h4; obtain rfl := (List.cons.inj e').1
  obtain ⟨A5, l5, k5, rfl, hl5, hc5, hq5, _⟩ := kG Tryz.underlying22 k66 (by kernel_rfl) (fun x => x.f0.size < 9223372036854775807 ∧ x.f1.length ≤ 1000000000 ∧ ∀ n ∈ x.f1, n.size < 4294967281) class_openB h5 b5
  obtain ⟨A6, l6, k6, rfl, hl6, hc6, _, hn6⟩ := kG Tryz.underlying23 k68 (by kernel_rfl) (fun _ => True) (fun n cs y h _ => area_open n cs y h) h6 b6
  refine ⟨a0, a1, a2, a3, a4, A5, k5, l5, A6, k6, l6, ?_, hc5, hl5, hc6, hl6, hq5, by omega⟩
  have : cs = (Value.agg cs).cells := rfl
  congr 1
  apply Array.toList_inj.1
  simpa [Value.cells] using e
end Go.Proofs.YthkeonbmgcphkaaGreatDoorOpen
