-- Written by this session's own programs (wip/tools).
import Derived.Test.YthkeonbmgcphkaaGreatDoorDThin2T
namespace Go.Proofs.YthkeonbmgcphkaaGreatDoorPlain
open Go.RowKit Go.Proofs.YthkeonbmgcphkaaGreatDoor.PT Go.Proofs.YthkeonbmgcphkaaGreatDoorW.PrintWords
set_option linter.unusedVariables false
set_option linter.unusedSimpArgs false
structure Small (s : List Bd) (c : Int → Int → Bool) : Prop where
  shape : Shape s c
  box : Box 1000000 c
  len : s.length ≤ 2000
  sum : sumXs s ≤ 4000
theorem Small.xs {s : List Bd} {c : Int → Int → Bool} (h : Small s c) : ∀ b ∈ s, b.f2.length ≤ 4000 := fun b hb => Nat.le_trans (sumXs_mem hb) h.sum
theorem Shape.even {s : List Bd} {c : Int → Int → Bool} (h : Shape s c) : ∀ b ∈ s, b.f2.length % 2 = 0 := fun b hb => (h.can.ok b hb).even
theorem spread_cov {s : List Bd} {c : Int → Int → Bool} (h : Shape s c) {a b d e : Int} (h1 : 0 ≤ a) (h2 : 0 ≤ b) (h3 : 0 ≤ d) (h4 : 0 ≤ e) (y x : Int) :
    covR (spreadP a b d e (rectsP s)) y x = true ↔ ∃ y' x', c y' x' = true ∧ x' - a ≤ x ∧ x ≤ x' + b ∧ y' - d ≤ y ∧ y ≤ y' + e := by
  rw [cov_spread h1 h2 h3 h4 (rectsP_pos h.can)]
  have hc : ∀ y x, covR (rectsP s) y x = c y x := fun y x => by rw [cov_rectsP h.can, h.cov]
  simp only [hc]
theorem kp_iff {a b : Bool} : kp a b = true ↔ a = true ∧ ¬ b = true := by cases a <;> cases b <;> simp [kp]
theorem core_tot {s : List Bd} {c : Int → Int → Bool} (h : Small s c) (n : Int) (h0 : 0 ≤ n) (hn : n ≤ 100000) :
    Tot (fun k => shape_Set_Core.f k s 0 n 0 n) fun t => ∃ d, Shape t d ∧ (∀ y x, d y x = true ↔ Deep c 0 n 0 n y x) ∧ (rectsP t).length ≤ 800000000 ∧ t.length ≤ 100000 ∧ ∀ b ∈ t, b.f2.length ≤ 100000 := by
  unfold shape_Set_Core.f
  by_cases hs : s.length = 0
  · obtain rfl := List.length_eq_zero_iff.1 hs
    refine Tot.ite (fun _ => Tot.pure _ ?_) (fun h => absurd rfl h)
    refine ⟨fun _ _ => false, ⟨Can.nil, fun _ _ => rfl⟩, fun y x => ⟨fun h => by simp at h, fun hd => ?_⟩, by simp [rectsP], by simp, fun b hb => by simp at hb⟩
    have := hd y x (by omega) (by omega) (by omega) (by omega)
    rw [← h.shape.cov] at this
    simp [rowAt, tog] at this
  · refine Tot.ite (fun h => by exfalso; omega) (fun _ => ?_)
    have hxs := h.xs
    refine Tot.bind (around_tot h.shape h.box (by omega) (by have := h.len; omega) (fun b hb => by have := hxs b hb; omega)) fun r hr => ?_
    obtain ⟨hin, b1, b2, b3, b4⟩ := hr
    have hm0 := List.getElem_mem (show 0 < s.length by omega)
    obtain ⟨y0, x0, hyx⟩ : ∃ y x, c y x = true := by
      have ho := h.shape.can.ok _ hm0
      have h2 := ho.two
      obtain ⟨q, hq, _⟩ := rectsB_end s[0].f0 s[0].f1 _ _ rfl ho.even (s[0].f2[0]'(by omega)) (List.getElem_mem _)
      have hq2 : q ∈ rectsP s := List.mem_flatMap.2 ⟨_, hm0, hq⟩
      obtain ⟨p1, p2⟩ := rectsP_pos h.shape.can q hq2
      refine ⟨q.f1, q.f0, ?_⟩
      rw [← h.shape.cov, ← cov_rectsP h.shape.can]
      exact List.any_eq_true.2 ⟨q, hq2, by unfold inR; simp only [Bool.and_eq_true, decide_eq_true_eq]; omega⟩
    have hy0 := hin y0 x0 hyx
    obtain ⟨m, hm⟩ : ∃ m : Int, m = 2 * n + 1 := ⟨_, rfl⟩
    have em : wrap64 ((wrap64 ((wrap64 ((wrap64 (0 + n)) + 0)) + n)) + 1) = m := by
      rw [w64 (x := 0 + n) (by omega) (by omega), w64 (x := 0 + n + 0) (by omega) (by omega), w64 (x := 0 + n + 0 + n) (by omega) (by omega), w64 (by omega) (by omega)]
      omega
    rw [em, w64 (by omega) (by omega), w64 (by omega) (by omega), w64 (by omega) (by omega), w64 (by omega) (by omega)]
    obtain ⟨q, hq⟩ : ∃ q : Rc, q = ⟨r.1 - m, r.2.1 - m, r.2.2.1 + m, r.2.2.2 + m⟩ := ⟨_, rfl⟩
    rw [← hq]
    have hqg : GoodR q := by rw [hq]; exact ⟨by simp only; omega, by simp only; omega, by simp only; omega, by simp only; omega, by simp only; omega, by simp only; omega⟩
    refine Tot.bind (setOf_tot [q] (fun p hp => by rw [List.mem_singleton.1 hp]; exact hqg) (by simp)) fun bx hbx => ?_
    obtain ⟨sb, lb, xb⟩ := hbx
    simp only [List.length_singleton] at lb xb
    have hbox : ∀ y x, covR [q] y x = true ↔ q.f0 ≤ x ∧ x < q.f2 ∧ q.f1 ≤ y ∧ y < q.f3 := fun y x => by
      unfold covR inR
      simp only [List.any_cons, List.any_nil, Bool.or_false, Bool.and_eq_true, decide_eq_true_eq]
      omega
    have bbx : Box 2000000 (covR [q]) := fun y x hh => by
      have := (hbox y x).1 hh
      rw [hq] at this
      simp only at this
      omega
    refine Tot.bind (less_tot sb h.shape (A := 2) (X := 4000) xb hxs (by omega) (by omega) (bbx.mono (by omega)) (h.box.mono (by omega))) fun m1 hm1 => ?_
    obtain ⟨s1, l1, t1, x1⟩ := hm1
    have bm1 : Box 3000000 (fun y x => kp (covR [q] y x) (c y x)) := fun y x hh => by
      have := bbx y x (kp_iff.1 hh).1
      omega
    have hl := h.len
    have hsum := h.sum
    have r1 : 2 * (rectsP m1).length ≤ 32010 := by
      rw [rectsP_sum s1.even]
      have a1 : (2 * bx.length + 1) * 4000 ≤ (2 * 2 + 1) * 4000 := Nat.mul_le_mul_right _ (by omega)
      have a2 : (2 * bx.length + 2 * s.length + 1) * 2 ≤ (2 * 2 + 2 * 2000 + 1) * 2 := Nat.mul_le_mul_right _ (by omega)
      omega
    refine Tot.bind (spread_tot s1 bm1 (by omega) (fun b hb => by have := x1 b hb; omega) (by omega) n 0 n 0 ⟨h0, by omega⟩ ⟨by omega, by omega⟩ ⟨h0, by omega⟩ ⟨by omega, by omega⟩) fun sp hsp => ?_
    obtain ⟨s2, l2, x2⟩ := hsp
    have cov2 := spread_cov s1 h0 (Int.le_refl 0) h0 (Int.le_refl 0)
    have bsp : Box 4000000 (covR (spreadP n 0 n 0 (rectsP m1))) := fun y x hh => by
      obtain ⟨y', x', hc', k1, k2, k3, k4⟩ := (cov2 y x).1 hh
      have := bm1 y' x' hc'
      omega
    refine Tot.bind (less_tot h.shape s2 (A := 4000) (X := 32010) hxs (fun b hb => by have := x2 b hb; omega) (by omega) (by omega) (h.box.mono (by omega)) bsp) fun t ht => Tot.pure _ ?_
    obtain ⟨s3, l3, t3, x3⟩ := ht
    refine ⟨_, s3, fun y x => ?_, ?_, by omega, fun b hb => by have := x3 b hb; omega⟩
    · show kp (c y x) (covR (spreadP n 0 n 0 (rectsP m1)) y x) = true ↔ _
      rw [kp_iff, cov2]
      constructor
      · rintro ⟨hcyx, hno⟩ y' x' k1 k2 k3 k4
        refine Classical.byContradiction fun hc' => hno ⟨y', x', ?_, by omega, by omega, by omega, by omega⟩
        rw [kp_iff]
        refine ⟨(hbox y' x').2 ?_, hc'⟩
        have := hin y x hcyx
        rw [hq]
        simp only
        omega
      · intro hd
        refine ⟨hd y x (by omega) (by omega) (by omega) (by omega), ?_⟩
        rintro ⟨y', x', hk, k1, k2, k3, k4⟩
        exact (kp_iff.1 hk).2 (hd y' x' (by omega) (by omega) (by omega) (by omega))
    · have e3 := rectsP_sum s3.even
      have q1 := sumXs_bound x2
      have q2 : sp.length * (2 * (rectsP m1).length) ≤ 32010 * 32010 := Nat.mul_le_mul (by omega) r1
      have q3 : (2 * s.length + 1) * 32010 ≤ (2 * 2000 + 1) * 32010 := Nat.mul_le_mul_right _ (by omega)
      have q4 : (2 * s.length + 2 * sp.length + 1) * 4000 ≤ (2 * 2000 + 2 * 32010 + 1) * 4000 := Nat.mul_le_mul_right _ (by omega)
      omega
theorem thin_tot {s : List Bd} {c : Int → Int → Bool} (h : Small s c) (w : Int) (hw : w ≤ 100000) (hlo : -1000000000 ≤ w) :
    Tot (fun k => rules_thin.f k s w) fun t => ∃ d, Shape t d ∧ (w < 1 → ∀ y x, d y x = false) ∧ (1 ≤ w → ∀ y x, d y x = true ↔ (c y x = true ∧ ¬ Broad c w y x)) ∧ t.length ≤ 4000000000 ∧ ∀ b ∈ t, b.f2.length ≤ 1800000000 := by
  unfold rules_thin.f
  refine Tot.ite (fun h1 => Tot.pure _ ⟨fun _ _ => false, ⟨Can.nil, fun _ _ => rfl⟩, fun _ _ _ => rfl, fun h2 => by omega, by simp, fun b hb => by simp at hb⟩) (fun h1 => ?_)
  rw [w64 (x := w - 1) (by omega) (by omega)]
  refine Tot.bind (core_tot h (w - 1) (by omega) (by omega)) fun t1 ht1 => ?_
  obtain ⟨d1, s1, e1, r1, l1, x1⟩ := ht1
  have b1 : Box 1000000 d1 := fun y x hd => h.box y x ((e1 y x).1 hd y x (by omega) (by omega) (by omega) (by omega))
  refine Tot.bind (spread_tot s1 (b1.mono (by omega)) (by omega) (fun b hb => by have := x1 b hb; omega) (by omega) 0 (w - 1) 0 (w - 1) ⟨by omega, by omega⟩ ⟨by omega, by omega⟩ ⟨by omega, by omega⟩ ⟨by omega, by omega⟩) fun t2 ht2 => ?_
  obtain ⟨s2, l2, x2⟩ := ht2
  have cov2 := spread_cov s1 (Int.le_refl 0) (show (0 : Int) ≤ w - 1 by omega) (Int.le_refl 0) (show (0 : Int) ≤ w - 1 by omega)
  have b2 : Box 4000000 (covR (spreadP 0 (w - 1) 0 (w - 1) (rectsP t1))) := fun y x hh => by
    obtain ⟨y', x', hc', k1, k2, k3, k4⟩ := (cov2 y x).1 hh
    have := b1 y' x' hc'
    omega
  have hl := h.len
  refine Tot.bind (less_tot h.shape s2 (A := 4000) (X := 1600000000) h.xs (fun b hb => by have := x2 b hb; omega) (by omega) (by omega) (h.box.mono (by omega)) b2) fun t ht => Tot.pure _ ?_
  obtain ⟨s3, l3, _, x3⟩ := ht
  refine ⟨_, s3, fun hh => by omega, fun _ y x => ?_, by omega, fun b hb => by have := x3 b hb; omega⟩
  show kp (c y x) (covR (spreadP 0 (w - 1) 0 (w - 1) (rectsP t1)) y x) = true ↔ _
  rw [kp_iff, cov2]
  constructor
  · rintro ⟨h2, h3⟩
    refine ⟨h2, ?_⟩
    rintro ⟨y', x', hd, k1, k2, k3, k4⟩
    exact h3 ⟨y', x', (e1 y' x').2 hd, by omega, by omega, by omega, by omega⟩
  · rintro ⟨h2, h3⟩
    refine ⟨h2, ?_⟩
    rintro ⟨y', x', hd, k1, k2, k3, k4⟩
    exact h3 ⟨y', x', (e1 y' x').1 hd, by omega, by omega, by omega, by omega⟩
theorem many_tot {s : List Bd} (he : ∀ b ∈ s, b.f2.length % 2 = 0) (hl : s.length ≤ 4000000000) (hx : ∀ b ∈ s, b.f2.length ≤ 1800000000) : Tot (fun k => shape_Set_Many.f k s) fun n => n = ((rectsP s).length : Int) := by
  unfold shape_Set_Many.f
  have key : ∀ (d j m : Nat), j + d = s.length → m ≤ j * 900000000 → Tot (fun k => shape_Set_Many.l0 k (m : Int) s (s.length : Int) (j : Int)) fun t => t = ((m + (rectsP (s.drop j)).length : Nat) : Int) := by
    intro d
    induction d with
    | zero =>
      intro j m hj hm
      obtain rfl : j = s.length := by omega
      refine Tot.succ (Tot.pure (m : Int) ?_) fun k => by rw [shape_Set_Many.l0, if_neg (by omega)]
      rw [List.drop_length]
      simp [rectsP]
    | succ d ih =>
      intro j m hj hm
      have hjs : j < s.length := by omega
      have hmj := List.getElem_mem hjs
      have hxj := hx _ hmj
      have hej := he _ hmj
      have hj2 : j * 900000000 + 900000000 ≤ 3600000000000000000 := by omega
      have e1 : wrap64 ((m : Int) + wrap64 ((s[j].f2.length : Int) / 2)) = ((m + s[j].f2.length / 2 : Nat) : Int) := by
        rw [w64 (x := (s[j].f2.length : Int) / 2) (by omega) (by omega), w64 (by omega) (by omega)]
        omega
      refine Tot.succ ((ih (j + 1) (m + s[j].f2.length / 2) (by omega) (by omega)).imp fun t ht => ?_) fun k => ?_
      · rw [ht, List.drop_eq_getElem_cons hjs]
        have e2 : rectsP (s[j] :: s.drop (j + 1)) = rectsB s[j].f0 s[j].f1 s[j].f2 ++ rectsP (s.drop (j + 1)) := by simp only [rectsP, List.flatMap_cons]
        rw [e2, List.length_append, rectsB_length _ _ _ _ rfl]
        omega
      · rw [shape_Set_Many.l0, if_pos (by omega), if_pos (by omega), if_pos (by omega), rdT118 hjs, e1, w1 hjs (by omega)]
  have := key s.length 0 0 (by omega) (by omega)
  simpa using this
theorem told_tot {s : List Bd} (he : ∀ b ∈ s, b.f2.length % 2 = 0) (hl : s.length ≤ 4000000000) (hx : ∀ b ∈ s, b.f2.length ≤ 1800000000) : Tot (fun k => shape_Set_Told.f k s) fun p => (p.2 ≠ 0 → p.1 = []) ∧ (p.2 = 0 → p.1 = rectsP s ∧ p.1.length ≤ 2000) := by
  unfold shape_Set_Told.f
  refine Tot.bind (many_tot he hl hx) fun n hn => Tot.ite (fun _ => Tot.pure _ ⟨fun _ => rfl, fun h => by simp at h⟩) (fun h => ?_)
  refine Tot.bind (rects_tot s he hl (fun b hb => by have := hx b hb; omega) (by omega)) fun l hl' => Tot.pure _ ⟨fun h => absurd rfl h, fun _ => ⟨hl', ?_⟩⟩
  simp only
  rw [hl']
  omega
end Go.Proofs.YthkeonbmgcphkaaGreatDoorPlain
