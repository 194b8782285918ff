-- Written by this session's own programs (wip/tools).
import Derived.Test.YthkeonbmgcphkaaGreatDoorEThin3T
import Derived.Test.YthkeonbmgcphkaaGreatDoorEPTx16
namespace Go.Proofs.YthkeonbmgcphkaaGreatDoorPlain
open Go.RowKit Go.Proofs.YthkeonbmgcphkaaGreatDoor.PT Go.Proofs.YthkeonbmgcphkaaGreatDoorW.PrintWords
set_option linter.unusedVariables false
set_option linter.unusedSimpArgs false
theorem form_small {l : List Rc} (hl : l.length ≤ 2000) (hg : ∀ r ∈ l, Good1 r) {s : List Bd} (hs : Shape s (covR l)) (e : l = rectsP s) : Small s (covR l) := by
  have h1 : sumXs s ≤ 4000 := by rw [← rectsP_sum hs.even, ← e]; omega
  have h2 := sumXs_len (s := s) fun b hb => (hs.can.ok b hb).two
  refine ⟨hs, fun y x hyx => ?_, by omega, h1⟩
  obtain ⟨r, hr, hi⟩ := List.any_eq_true.1 hyx
  have h := hg r hr
  have := h.b0
  have := h.b1
  have := h.b2
  have := h.b3
  unfold inR at hi
  simp only [Bool.and_eq_true, decide_eq_true_eq] at hi
  omega
structure ThinIs (l : List Rc) (w : Int) (p : List Rc × Int) : Prop where
  bad : p.2 ≠ 0 → p.1 = []
  fits : p.2 = 0 → 0 ≤ w ∧ w ≤ 100000
  form : p.2 = 0 → l.length ≤ 2000 ∧ (∀ r ∈ l, Good1 r) ∧ IsForm l
  thin : p.2 = 0 → ∃ t d, Shape t d ∧ p.1 = rectsP t ∧ p.1.length ≤ 2000 ∧ (w < 1 → ∀ y x, d y x = false) ∧ (1 ≤ w → ∀ y x, d y x = true ↔ (covR l y x = true ∧ ¬ Broad (covR l) w y x))
theorem Thin_tot (l : List Rc) (w : Int) : Tot (fun k => rules_Thin.f k l w) (ThinIs l w) := by
  unfold rules_Thin.f
  refine Tot.bind (checkRegion_spec l) fun t ht => Tot.ite (fun h0 => ?_) (fun h0 => Tot.pure _ ⟨fun _ => rfl, fun h => absurd h h0, fun h => absurd h h0, fun h => absurd h h0⟩)
  obtain ⟨hl, hg, hf⟩ := ht.zero h0
  rw [isRule_some]
  simp only [Option.bind_some]
  refine Tot.ite (fun hw => ?_) (fun _ => Tot.pure _ ⟨fun _ => rfl, fun h => by simp at h, fun h => by simp at h, fun h => by simp at h⟩)
  simp only [Bool.and_eq_true, decide_eq_true_eq] at hw
  refine Tot.bind (setOf_tot l (fun r hr => (hg r hr).good) (by omega)) fun s hs => ?_
  obtain ⟨s', hs', e'⟩ := hf
  have e : l = rectsP s := by rw [Shape.inj hs.1 hs']; exact e'
  have hsm := form_small hl hg hs.1 e
  refine Tot.bind (thin_tot hsm w hw.2 (by omega)) fun t1 ht1 => ?_
  obtain ⟨d, h1, h2, h3, h4, h5⟩ := ht1
  refine Tot.bind (told_tot h1.even h4 h5) fun p hp => Tot.pure _ ?_
  exact ⟨hp.1, fun _ => hw, fun _ => ⟨hl, hg, ⟨s', hs', e'⟩⟩, fun h => ⟨t1, d, h1, (hp.2 h).1, (hp.2 h).2, h2, h3⟩⟩
theorem ThinIs.cov {l : List Rc} {w : Int} {p : List Rc × Int} (h : ThinIs l w p) (h0 : p.2 = 0) : (w < 1 → ∀ y x, covR p.1 y x = false) ∧ (1 ≤ w → ∀ y x, covR p.1 y x = true ↔ (covR l y x = true ∧ ¬ Broad (covR l) w y x)) := by
  obtain ⟨t, d, h1, h2, _, h3, h4⟩ := h.thin h0
  have e : ∀ y x, covR p.1 y x = d y x := fun y x => by rw [h2, cov_rectsP h1.can, h1.cov]
  exact ⟨fun hw y x => by rw [e]; exact h3 hw y x, fun hw y x => by rw [e]; exact h4 hw y x⟩
theorem ThinIs.none {l : List Rc} {w : Int} {p : List Rc × Int} (h : ThinIs l w p) (hw : w ≤ 1) : p.1 = [] := by
  by_cases h0 : p.2 = 0
  · obtain ⟨t, d, h1, h2, _, h3, h4⟩ := h.thin h0
    rw [h2, h1.empty fun y x => ?_]
    · rfl
    · by_cases c : w < 1
      · exact h3 c y x
      · refine Classical.byContradiction fun hn => ?_
        have := (h4 (by omega) y x).1 (by simpa using hn)
        rw [show w = 1 by omega] at this
        exact this.2 (Broad.one this.1)
  · exact h.bad h0
structure MinusIs (a b : List Rc) (p : List Rc × Int) : Prop where
  good : p.2 = 0 → (a.length ≤ 2000 ∧ (∀ r ∈ a, Good1 r) ∧ IsForm a) ∧ (b.length ≤ 2000 ∧ (∀ r ∈ b, Good1 r) ∧ IsForm b)
  cov : p.2 = 0 → ∃ t, Shape t (fun y x => kp (covR a y x) (covR b y x)) ∧ p.1 = rectsP t
theorem Minus_tot (a b : List Rc) : Tot (fun k => shape_Minus.f k a b) (MinusIs a b) := by
  unfold shape_Minus.f shape_two_with_shape_Set_Less.f
  refine Tot.bind (Q := MinusIs a b) ?_ fun p hp => Tot.pure _ hp
  refine Tot.bind (checkRegion_spec a) fun t ht => Tot.ite (fun h0 => ?_) (fun h0 => Tot.pure _ ⟨fun h => absurd h h0, fun h => absurd h h0⟩)
  refine Tot.bind (checkRegion_spec b) fun u hu => Tot.ite (fun h1 => ?_) (fun h1 => Tot.pure _ ⟨fun h => absurd h h1, fun h => absurd h h1⟩)
  have ha := ht.zero h0
  have hb := hu.zero h1
  refine Tot.bind (setOf_tot a (fun r hr => (ha.2.1 r hr).good) (by omega)) fun s hs => ?_
  refine Tot.bind (setOf_tot b (fun r hr => (hb.2.1 r hr).good) (by omega)) fun v hv => ?_
  obtain ⟨s', hs', es⟩ := ha.2.2
  obtain ⟨v', hv', ev⟩ := hb.2.2
  have sa := form_small ha.1 ha.2.1 hs.1 (by rw [Shape.inj hs.1 hs']; exact es)
  have sb := form_small hb.1 hb.2.1 hv.1 (by rw [Shape.inj hv.1 hv']; exact ev)
  have l1 := sa.len
  have l2 := sb.len
  refine Tot.bind (less_tot sa.shape sb.shape (A := 4000) (X := 4000) sa.xs sb.xs (by omega) (by omega) (sa.box.mono (by omega)) (sb.box.mono (by omega))) fun m hm => ?_
  obtain ⟨s3, l3, _, x3⟩ := hm
  refine Tot.bind (told_tot s3.even (by omega) (fun c hc => by have := x3 c hc; omega)) fun p hp => Tot.pure _ ?_
  exact ⟨fun _ => ⟨ha, hb⟩, fun h => ⟨m, s3, (hp.2 h).1⟩⟩
theorem MinusIs.none {a b : List Rc} {p : List Rc × Int} (h : MinusIs a b p) (h0 : p.2 = 0) (hs : ∀ y x, covR a y x = true → covR b y x = true) : p.1 = [] := by
  obtain ⟨t, h1, h2⟩ := h.cov h0
  rw [h2, h1.empty fun y x => ?_]
  · rfl
  · have := hs y x
    revert this
    cases covR a y x <;> cases covR b y x <;> simp [kp]
theorem len0 {l : List Rc} (h : l = []) : (l.length : Int) = 0 := by rw [h]; rfl
theorem awake_yes (k' : Nat) : Tot (fun k => (etchhouselaw6_awake.f k).bind fun t => some t) fun r => r = true := Tot.bind awake_tot fun r hr => Tot.pure _ hr
theorem thinWithWidth (l : List Rc) (w more : Int) : ∃ k, etchhouselaw6_ThinWithWidth.f k l w more = some true := by
  have key : Tot (fun k => etchhouselaw6_ThinWithWidth.f k l w more) fun r => r = true := by
    unfold etchhouselaw6_ThinWithWidth.f
    refine Tot.bind (Thin_tot l w) fun p hp => Tot.bind (Thin_tot l more) fun q hq => ?_
    have early : Tot (fun k => etchhouselaw6_ThinWithWidth.j0 k l w p.1 p.2 q.1 true) fun r => r = true := by
      refine Tot.succ ?_ fun k => by rw [etchhouselaw6_ThinWithWidth.j0]
      refine Tot.ite (fun _ => ?_) (fun h => absurd rfl h)
      exact Tot.ite (fun _ => awake_yes 0) (fun h0 => Tot.ite (fun _ => awake_yes 0) (fun h => absurd (len0 (hp.bad h0)) h))
    refine Tot.ite (fun hp0 => ?_) (fun _ => early)
    refine Tot.ite (fun hq0 => ?_) (fun _ => early)
    by_cases hm : more < w
    · rw [decide_eq_true hm]; exact early
    · rw [decide_eq_false hm]
      refine Tot.succ ?_ fun k => by rw [etchhouselaw6_ThinWithWidth.j0]
      refine Tot.ite (fun h => by simp at h) (fun _ => ?_)
      have cp := hp.cov hp0
      have cq := hq.cov hq0
      refine Tot.bind (Minus_tot p.1 q.1) fun u hu => Tot.bind (Minus_tot q.1 l) fun v hv => ?_
      have hu0 : u.2 = 0 → (u.1.length : Int) = 0 := fun h => len0 (hu.none h fun y x hyx => by
        by_cases c : w < 1
        · rw [cp.1 c y x] at hyx; simp at hyx
        · have h1 := (cp.2 (by omega) y x).1 hyx
          exact (cq.2 (by omega) y x).2 ⟨h1.1, fun hb => h1.2 (hb.narrower (by omega) (by omega))⟩)
      have hv0 : v.2 = 0 → (v.1.length : Int) = 0 := fun h => len0 (hv.none h fun y x hyx => by
        by_cases c : more < 1
        · rw [cq.1 c y x] at hyx; simp at hyx
        · exact ((cq.2 (by omega) y x).1 hyx).1)
      have last : Tot (fun k => if w > 1 then ((etchhouselaw6_awake.f k).bind fun t => some t) else (if (p.1.length : Int) = 0 then ((etchhouselaw6_awake.f k).bind fun t => some t) else some false)) fun r => r = true :=
        Tot.ite (fun _ => awake_yes 0) (fun h1 => Tot.ite (fun _ => awake_yes 0) (fun h => absurd (len0 (hp.none (by omega))) h))
      have second : Tot (fun k => if v.2 = 0 then (if (v.1.length : Int) = 0 then (if w > 1 then ((etchhouselaw6_awake.f k).bind fun t => some t) else (if (p.1.length : Int) = 0 then ((etchhouselaw6_awake.f k).bind fun t => some t) else some false)) else some false) else (if w > 1 then ((etchhouselaw6_awake.f k).bind fun t => some t) else (if (p.1.length : Int) = 0 then ((etchhouselaw6_awake.f k).bind fun t => some t) else some false))) fun r => r = true :=
        Tot.ite (fun h => Tot.ite (fun _ => last) (fun hn => absurd (hv0 h) hn)) (fun _ => last)
      exact Tot.ite (fun h => Tot.ite (fun _ => second) (fun hn => absurd (hu0 h) hn)) (fun _ => second)
  obtain ⟨K, r, h1, h2⟩ := key
  exact ⟨K, (h1 K (Nat.le_refl _)).trans (by rw [h2])⟩
end Go.Proofs.YthkeonbmgcphkaaGreatDoorPlain
