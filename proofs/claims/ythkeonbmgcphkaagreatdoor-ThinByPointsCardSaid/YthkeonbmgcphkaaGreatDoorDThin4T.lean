-- Written by this session's own programs (wip/tools).
import Derived.Test.YthkeonbmgcphkaaGreatDoorDThin3T
import Derived.Test.YthkeonbmgcphkaaGreatDoorDPTx16
namespace Go.Proofs.YthkeonbmgcphkaaGreatDoorPlain
open Go.RowKit Go.Proofs.YthkeonbmgcphkaaGreatDoor.PT Go.Proofs.YthkeonbmgcphkaaGreatDoorW.PrintWords
set_option linter.unusedVariables false
set_option linter.unusedSimpArgs false
theorem form_small {l : List Rc} (hl : l.length ≤ 2000) (hg : ∀ r ∈ l, Good1 r) {s : List Bd} (hs : Shape s (covR l)) (e : l = rectsP s) : Small s (covR l) := by
  have h1 : sumXs s ≤ 4000 := by rw [← rectsP_sum hs.even, ← e]; omega
  have h2 := sumXs_len (s := s) fun b hb => (hs.can.ok b hb).two
  refine ⟨hs, fun y x hyx => ?_, by omega, h1⟩
  obtain ⟨r, hr, hi⟩ := List.any_eq_true.1 hyx
  have h := hg r hr
  have := h.b0
  have := h.b1
  have := h.b2
  have := h.b3
  unfold inR at hi
  simp only [Bool.and_eq_true, decide_eq_true_eq] at hi
  omega
structure ThinIs (l : List Rc) (w : Int) (p : List Rc × Int) : Prop where
  bad : p.2 ≠ 0 → p.1 = []
  fits : p.2 = 0 → 0 ≤ w ∧ w ≤ 100000
  form : p.2 = 0 → l.length ≤ 2000 ∧ (∀ r ∈ l, Good1 r) ∧ IsForm l
  thin : p.2 = 0 → ∃ t d, Shape t d ∧ p.1 = rectsP t ∧ p.1.length ≤ 2000 ∧ (w < 1 → ∀ y x, d y x = false) ∧ (1 ≤ w → ∀ y x, d y x = true ↔ (covR l y x = true ∧ ¬ Broad (covR l) w y x))
theorem Thin_tot (l : List Rc) (w : Int) : Tot (fun k => rules_Thin.f k l w) (ThinIs l w) := by
  unfold rules_Thin.f
  refine Tot.bind (checkRegion_spec l) fun t ht => Tot.ite (fun h0 => ?_) (fun h0 => Tot.pure _ ⟨fun _ => rfl, fun h => absurd h h0, fun h => absurd h h0, fun h => absurd h h0⟩)
  obtain ⟨hl, hg, hf⟩ := ht.zero h0
  rw [isRule_some]
  simp only [Option.bind_some]
  refine Tot.ite (fun hw => ?_) (fun _ => Tot.pure _ ⟨fun _ => rfl, fun h => by simp at h, fun h => by simp at h, fun h => by simp at h⟩)
  simp only [Bool.and_eq_true, decide_eq_true_eq] at hw
  refine Tot.bind (setOf_tot l (fun r hr => (hg r hr).good) (by omega)) fun s hs => ?_
  obtain ⟨s', hs', e'⟩ := hf
  have e : l = rectsP s := by rw [Shape.inj hs.1 hs']; exact e'
  have hsm := form_small hl hg hs.1 e
  refine Tot.bind (thin_tot hsm w hw.2 (by omega)) fun t1 ht1 => ?_
  obtain ⟨d, h1, h2, h3, h4, h5⟩ := ht1
  refine Tot.bind (told_tot h1.even h4 h5) fun p hp => Tot.pure _ ?_
  exact ⟨hp.1, fun _ => hw, fun _ => ⟨hl, hg, ⟨s', hs', e'⟩⟩, fun h => ⟨t1, d, h1, (hp.2 h).1, (hp.2 h).2, h2, h3⟩⟩
theorem ThinIs.cov {l : List Rc} {w : Int} {p : List Rc × Int} (h : ThinIs l w p) (h0 : p.2 = 0) : (w < 1 → ∀ y x, covR p.1 y x = false) ∧ (1 ≤ w → ∀ y x, covR p.1 y x = true ↔ (covR l y x = true ∧ ¬ Broad (covR l) w y x)) := by
  obtain ⟨t, d, h1, h2, _, h3, h4⟩ := h.thin h0
  have e : ∀ y x, covR p.1 y x = d y x := fun y x => by rw [h2, cov_rectsP h1.can, h1.cov]
  exact ⟨fun hw y x => by rw [e]; exact h3 hw y x, fun hw y x => by rw [e]; exact h4 hw y x⟩
theorem ThinIs.none {l : List Rc} {w : Int} {p : List Rc × Int} (h : ThinIs l w p) (hw : w ≤ 1) : p.1 = [] := by
  by_cases h0 : p.2 = 0
  · obtain ⟨t, d, h1, h2, _, h3, h4⟩ := h.thin h0
    rw [h2, h1.empty fun y x => ?_]
    · rfl
    · by_cases c : w < 1
      · exact h3 c y x
      · refine Classical.byContradiction fun hn => ?_
        have := (h4 (by omega) y x).1 (by simpa using hn)
        rw [show w = 1 by omega] at this
        exact this.2 (Broad.one this.1)
  · exact h.bad h0
structure MinusIs (a b : List Rc) (p : List Rc × Int) : Prop where
  good : p.2 = 0 → (a.length ≤ 2000 ∧ (∀ r ∈ a, Good1 r) ∧ IsForm a) ∧ (b.length ≤ 2000 ∧ (∀ r ∈ b, Good1 r) ∧ IsForm b)
  cov : p.2 = 0 → ∃ t, Shape t (fun y x => kp (covR a y x) (covR b y x)) ∧ p.1 = rectsP t
theorem Minus_tot (a b : List Rc) : Tot (fun k => shape_Minus.f k a b) (MinusIs a b) := by
  unfold shape_Minus.f shape_two_with_shape_Set_Less.f
  refine Tot.bind (Q := MinusIs a b) ?_ fun p hp => Tot.pure _ hp
  refine Tot.bind (checkRegion_spec a) fun t ht => Tot.ite (fun h0 => ?_) (fun h0 => Tot.pure _ ⟨fun h => absurd h h0, fun h => absurd h h0⟩)
  refine Tot.bind (checkRegion_spec b) fun u hu => Tot.ite (fun h1 => ?_) (fun h1 => Tot.pure _ ⟨fun h => absurd h h1, fun h => absurd h h1⟩)
  have ha := ht.zero h0
  have hb := hu.zero h1
  refine Tot.bind (setOf_tot a (fun r hr => (ha.2.1 r hr).good) (by omega)) fun s hs => ?_
  refine Tot.bind (setOf_tot b (fun r hr => (hb.2.1 r hr).good) (by omega)) fun v hv => ?_
  obtain ⟨s', hs', es⟩ := ha.2.2
  obtain ⟨v', hv', ev⟩ := hb.2.2
  have sa := form_small ha.1 ha.2.1 hs.1 (by rw [Shape.inj hs.1 hs']; exact es)
  have sb := form_small hb.1 hb.2.1 hv.1 (by rw [Shape.inj hv.1 hv']; exact ev)
  have l1 := sa.len
  have l2 := sb.len
  refine Tot.bind (less_tot sa.shape sb.shape (A := 4000) (X := 4000) sa.xs sb.xs (by omega) (by omega) (sa.box.mono (by omega)) (sb.box.mono (by omega))) fun m hm => ?_
  obtain ⟨s3, l3, _, x3⟩ := hm
  refine Tot.bind (told_tot s3.even (by omega) (fun c hc => by have := x3 c hc; omega)) fun p hp => Tot.pure _ ?_
  exact ⟨fun _ => ⟨ha, hb⟩, fun h => ⟨m, s3, (hp.2 h).1⟩⟩
theorem MinusIs.none {a b : List Rc} {p : List Rc × Int} (h : MinusIs a b p) (h0 : p.2 = 0) (hs : ∀ y x, covR a y x = true → covR b y x = true) : p.1 = [] := by
  obtain ⟨t, h1, h2⟩ := h.cov h0
  rw [h2, h1.empty fun y x => ?_]
  · rfl
  · have := hs y x
    revert this
    cases covR a y x <;> cases covR b y x <;> simp [kp]
theorem len0 {l : List Rc} (h : l = []) : (l.length : Int) = 0 := by rw [h]; rfl
theorem awake_yes (k' : Nat) : Tot (fun k => (etchhouselaw6_awake.f k).bind fun t => some t) fun r => r = true := Tot.bind awake_tot fun r hr => Tot.pure _ hr
theorem isPoint_some (a b : Int) : shape_IsPoint.f a b = some ((decide (-1000000 ≤ a) && decide (a ≤ 1000000)) && (decide (-1000000 ≤ b) && decide (b ≤ 1000000))) := by
  unfold shape_IsPoint.f
  simp only [isAt_some, Option.bind_some]
  cases (decide (-1000000 ≤ a) && decide (a ≤ 1000000)) <;> simp
theorem Has_tot (l : List Rc) (x y : Int) : Tot (fun k => shape_Has.f k l x y) fun p => (p.2 = 0 → p.1 = covR l y x) ∧ (RegionIs l 0 → -1000000 ≤ x ∧ x ≤ 1000000 ∧ -1000000 ≤ y ∧ y ≤ 1000000 → p.2 = 0) := by
  unfold shape_Has.f
  refine Tot.bind (checkRegion_spec l) fun t ht => Tot.ite (fun h0 => ?_) (fun h0 => Tot.pure _ ⟨fun h => absurd h h0, fun hr => absurd (region_unique ht hr) h0⟩)
  obtain ⟨hl, _, _⟩ := ht.zero h0
  rw [isPoint_some]
  simp only [Option.bind_some]
  refine Tot.ite (fun hp => ?_) (fun hp => Tot.pure _ ⟨fun h => by simp at h, fun _ hxy => absurd (by simp only [Bool.and_eq_true, decide_eq_true_eq]; omega) hp⟩)
  unfold shape_HasSquare.f
  rw [if_pos (by omega)]
  simp only [Option.bind_some]
  refine Tot.pure _ ⟨fun _ => ?_, fun _ _ => rfl⟩
  unfold covR inR shape_HasSquare.in_
  simp only [Bool.and_assoc]
where
  region_unique {l : List Rc} {t : Int} (h : RegionIs l t) (h0 : RegionIs l 0) : t = 0 := by
    obtain ⟨h1, h2, h3⟩ := h0.zero rfl
    rcases h with ⟨a, _⟩ | ⟨_, ⟨a, _⟩ | ⟨_, ⟨_, a⟩ | ⟨a, _⟩⟩⟩
    · exact absurd (checkErr_good.2 ⟨h1, h2⟩) a
    · obtain ⟨s, hs, e⟩ := h3
      rw [e, ord_rectsP hs.can] at a
      simp at a
    · exact a
    · exact absurd h3 a
theorem thinByPoints (l : List Rc) (w ax ay px py : Int) : ∃ k, etchhouselaw6_ThinByPoints.f k l w ax ay px py = some true := by
  have key : Tot (fun k => etchhouselaw6_ThinByPoints.f k l w ax ay px py) fun r => r = true := by
    unfold etchhouselaw6_ThinByPoints.f
    refine Tot.bind (Thin_tot l w) fun p hp => ?_
    have early : Tot (fun k => etchhouselaw6_ThinByPoints.j0 k l w p.1 p.2 true ax ay px py) fun r => r = true := by
      refine Tot.succ ?_ fun k => by rw [etchhouselaw6_ThinByPoints.j0]
      refine Tot.ite (fun _ => ?_) (fun h => absurd rfl h)
      exact Tot.ite (fun _ => awake_yes 0) (fun h0 => Tot.ite (fun _ => awake_yes 0) (fun h => absurd (len0 (hp.bad h0)) h))
    refine Tot.ite (fun hp0 => ?_) (fun _ => early)
    obtain ⟨w0, w1'⟩ := hp.fits hp0
    refine Tot.ite (fun _ => early) (fun hw => ?_)
    refine Tot.ite (fun _ => early) (fun hx => ?_)
    refine Tot.ite (fun _ => early) (fun hy => ?_)
    rw [w64 (x := 1000000 - w) (by omega) (by omega)]
    refine Tot.ite (fun _ => early) (fun hx2 => ?_)
    by_cases hy2 : ay > 1000000 - w
    · rw [decide_eq_true hy2]; exact early
    · rw [decide_eq_false hy2]
      refine Tot.succ ?_ fun k => by rw [etchhouselaw6_ThinByPoints.j0]
      refine Tot.ite (fun h => by simp at h) (fun _ => ?_)
      rw [w64 (x := ax + w) (by omega) (by omega), w64 (x := ay + w) (by omega) (by omega)]
      have skip : Tot (fun k => etchhouselaw6_ThinByPoints.j1 k p.1 true px py) fun r => r = true := by
        refine Tot.succ ?_ fun k => by rw [etchhouselaw6_ThinByPoints.j1]
        exact Tot.ite (fun _ => awake_yes 0) (fun h => absurd rfl h)
      refine Tot.bind (Minus_tot [(⟨ax, ay, ax + w, ay + w⟩ : Rc)] l) fun u hu => ?_
      refine Tot.ite (fun hu0 => ?_) (fun _ => skip)
      refine Tot.ite (fun _ => skip) (fun hul => ?_)
      refine Tot.ite (fun _ => skip) (fun q1 => ?_)
      refine Tot.ite (fun _ => skip) (fun q2 => ?_)
      refine Tot.ite (fun _ => skip) (fun q3 => ?_)
      by_cases q4 : py ≥ ay + w
      · rw [decide_eq_true q4]; exact skip
      · rw [decide_eq_false q4]
        refine Tot.succ ?_ fun k => by rw [etchhouselaw6_ThinByPoints.j1]
        refine Tot.ite (fun h => by simp at h) (fun _ => ?_)
        refine Tot.bind (Has_tot p.1 px py) fun h hh => ?_
        obtain ⟨hl, hg, s, hs, e⟩ := hp.form hp0
        have sm := form_small hl hg hs e
        obtain ⟨t, d, t1, t2, t3, t4, t5⟩ := hp.thin hp0
        have bd : ∀ y x, d y x = true → -1000000 ≤ x ∧ x < 1000000 ∧ -1000000 ≤ y ∧ y < 1000000 := fun y x hd => sm.box y x ((t5 (by omega) y x).1 hd).1
        have hreg : RegionIs p.1 0 := by
          rw [t2] at t3 ⊢
          have hgd : checkErr (rectsP t) = 0 := checkErr_good.2 ⟨t3, fun r hr => by
            obtain ⟨a, b, d, e, f, g⟩ := t1.within bd r hr
            exact ⟨a, b, d, e, f, g⟩⟩
          exact .inr ⟨hgd, .inr ⟨ord_rectsP t1.can, .inl ⟨⟨t, ⟨t1.can, fun y x => by rw [cov_rectsP t1.can]⟩, rfl⟩, rfl⟩⟩⟩
        have h0 := hh.2 hreg (by omega)
        have hin : ∀ y x, ax ≤ x → x < ax + w → ay ≤ y → y < ay + w → covR l y x = true := fun y x c1 c2 c3 c4 => by
          obtain ⟨m, m1, m2⟩ := hu.cov hu0
          have hm : m = [] := by
            have h1 := rectsP_sum m1.even
            rw [← m2] at h1
            have h2 := sumXs_len (s := m) fun b hb => (m1.can.ok b hb).two
            exact List.length_eq_zero_iff.1 (by omega)
          have h3 := m1.cov y x
          rw [hm] at h3
          have h4 : covR [(⟨ax, ay, ax + w, ay + w⟩ : Rc)] y x = true := by
            unfold covR inR
            simp only [List.any_cons, List.any_nil, Bool.or_false, Bool.and_eq_true, decide_eq_true_eq]
            omega
          rw [h4] at h3
          revert h3
          cases covR l y x <;> simp [kp, rowAt, tog]
        have hno : covR p.1 py px = false := by
          refine Classical.byContradiction fun hn => ?_
          have hn : covR p.1 py px = true := by simpa using hn
          rw [t2, cov_rectsP t1.can, t1.cov] at hn
          exact ((t5 (by omega) py px).1 hn).2 ⟨ay, ax, fun y x a b c d => hin y x (by omega) (by omega) (by omega) (by omega), by omega, by omega, by omega, by omega⟩
        refine Tot.ite (fun _ => ?_) (fun hn => absurd h0 hn)
        rw [hh.1 h0, hno]
        exact Tot.ite (fun h => by simp at h) (fun _ => awake_yes 0)
  obtain ⟨K, r, h1, h2⟩ := key
  exact ⟨K, (h1 K (Nat.le_refl _)).trans (by rw [h2])⟩
end Go.Proofs.YthkeonbmgcphkaaGreatDoorPlain
