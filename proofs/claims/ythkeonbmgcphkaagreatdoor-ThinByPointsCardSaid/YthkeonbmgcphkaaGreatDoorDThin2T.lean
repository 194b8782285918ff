-- Written by this session's own programs (wip/tools).
import Derived.Test.YthkeonbmgcphkaaGreatDoorDThinT
namespace Go.Proofs.YthkeonbmgcphkaaGreatDoorPlain
open Go.RowKit Go.Proofs.YthkeonbmgcphkaaGreatDoor.PT Go.Proofs.YthkeonbmgcphkaaGreatDoorW.PrintWords
set_option linter.unusedVariables false
set_option linter.unusedSimpArgs false
theorem spread_tot {s : List Bd} {c : Int → Int → Bool} (h : Shape s c) (hb : Box 3000000 c) (hl : s.length ≤ 4000000000) (hx : ∀ b ∈ s, b.f2.length ≤ 4000000000) (hn : (rectsP s).length ≤ 1000000000) (a1 a2 a3 a4 : Int) (h1 : 0 ≤ a1 ∧ a1 ≤ 200000) (h2 : 0 ≤ a2 ∧ a2 ≤ 200000) (h3 : 0 ≤ a3 ∧ a3 ≤ 200000) (h4 : 0 ≤ a4 ∧ a4 ≤ 200000) :
    Tot (fun k => shape_Set_Spread.f k s a1 a2 a3 a4) fun t => Shape t (covR (spreadP a1 a2 a3 a4 (rectsP s))) ∧ t.length ≤ 2 * (rectsP s).length ∧ ∀ b ∈ t, b.f2.length ≤ 2 * (rectsP s).length := by
  unfold shape_Set_Spread.f
  refine Tot.bind (rects_tot s (fun b hb => (h.can.ok b hb).even) hl hx (by omega)) fun l hl' => ?_
  subst hl'
  have hw := h.within hb
  generalize rectsP s = l at hw hn
  obtain ⟨g, hg⟩ : ∃ g : Rc → Rc, g = fun r => ⟨wrap64 (r.f0 - a1), wrap64 (r.f1 - a3), wrap64 (r.f2 + a2), wrap64 (r.f3 + a4)⟩ := ⟨_, rfl⟩
  have hmap : l.map g = spreadP a1 a2 a3 a4 l := by
    unfold spreadP
    refine List.map_congr_left fun r hr => ?_
    have := hw r hr
    rw [hg]
    simp only
    rw [w64 (by omega) (by omega), w64 (by omega) (by omega), w64 (by omega) (by omega), w64 (by omega) (by omega)]
  have hlen : (spreadP a1 a2 a3 a4 l).length = l.length := by unfold spreadP; simp
  have key := up_tot (α := List Bd) (σ := Unit) (F := fun k _ j => shape_Set_Spread.l0 k a1 a2 a3 a4 ((l.take j).map g ++ l.drop j) (l.length : Int) (j : Int)) (n := l.length)
    (Q := fun _ _ t => Shape t (covR (spreadP a1 a2 a3 a4 l)) ∧ t.length ≤ 2 * l.length ∧ ∀ b ∈ t, b.f2.length ≤ 2 * l.length) (fun _ j hj ih => ?_) (fun _ => ?_) l.length () 0 (by omega)
  · simpa using key
  · have e0 : ((l.take j).map g ++ l.drop j).length = l.length := by simp; omega
    have e1 : rd_T44 ((l.take j).map g ++ l.drop j) (j : Int) = l[j] := by
      rw [rdT44 (by omega), List.getElem_append_right (by simp <;> omega)]
      simp only [List.length_map, List.length_take, List.getElem_drop]
      congr 1
      omega
    have e2 : ((l.take j).map g ++ l.drop j).set j (g l[j]) = (l.take (j + 1)).map g ++ l.drop (j + 1) := by
      rw [List.set_append_right _ _ (by simp <;> omega), List.drop_eq_getElem_cons hj, List.take_add_one, List.getElem?_eq_getElem hj]
      simp only [List.length_map, List.length_take, List.map_append, Option.toList_some, List.map_cons, List.map_nil, List.append_assoc, List.singleton_append]
      rw [show j - min j l.length = 0 by omega, List.set_cons_zero]
    simp only [shape_Set_Spread.l0, e0, e1, w1 hj (by omega : l.length ≤ 9223372036854775807)]
    refine Tot.ite (fun _ => ?_) (fun _ => by exfalso; omega)
    refine Tot.ite (fun _ => ?_) (fun _ => by exfalso; omega)
    refine Tot.ite (fun _ => ?_) (fun _ => by exfalso; omega)
    refine (ih ()).of fun k => ?_
    rw [Int.toNat_natCast]
    have e3 : (⟨wrap64 (l[j].f0 - a1), wrap64 (l[j].f1 - a3), wrap64 (l[j].f2 + a2), wrap64 (l[j].f3 + a4)⟩ : Rc) = g l[j] := by rw [hg]
    rw [e3, e2]
  · have e0 : (l.take l.length).map g ++ l.drop l.length = spreadP a1 a2 a3 a4 l := by rw [List.take_length, List.drop_length, List.append_nil, hmap]
    simp only [shape_Set_Spread.l0, e0]
    refine Tot.ite (fun _ => by exfalso; omega) (fun _ => ?_)
    refine Tot.bind (setOf_tot (spreadP a1 a2 a3 a4 l) (fun r hr => ?_) (by omega)) fun t ht => Tot.pure _ ?_
    · obtain ⟨q, hq, rfl⟩ := List.mem_map.1 hr
      have := hw q hq
      exact ⟨by simp only; omega, by simp only; omega, by simp only; omega, by simp only; omega, by simp only; omega, by simp only; omega⟩
    · rw [hlen] at ht
      exact ht
theorem rectsB_end (y0 y1 : Int) : ∀ (n : Nat) (xs : List Int), xs.length = n → xs.length % 2 = 0 → ∀ v ∈ xs, ∃ q ∈ rectsB y0 y1 xs, v = q.f0 ∨ v = q.f2 := by
  intro n
  induction n using Nat.strongRecOn with
  | _ n ih =>
    intro xs hn he v hv
    match xs, hn, he, hv with
    | [], _, _, hv => cases hv
    | [a], _, he, _ => simp at he
    | a :: b :: r, hn, he, hv =>
      rw [rectsB]
      rcases List.mem_cons.1 hv with rfl | hv
      · exact ⟨_, List.mem_cons_self, .inl rfl⟩
      · rcases List.mem_cons.1 hv with rfl | hv
        · exact ⟨_, List.mem_cons_self, .inr rfl⟩
        · obtain ⟨q, hq, h⟩ := ih r.length (by simp only [List.length_cons] at hn; omega) r rfl (by simp only [List.length_cons] at he; omega) v hv
          exact ⟨q, List.mem_cons_of_mem _ hq, h⟩
theorem Shape.xs {s : List Bd} {c : Int → Int → Bool} (h : Shape s c) {B : Int} (hc : Box B c) : ∀ b ∈ s, ∀ v ∈ b.f2, -B ≤ v ∧ v ≤ B := by
  intro b hb v hv
  obtain ⟨q, hq, hv⟩ := rectsB_end b.f0 b.f1 _ _ rfl (h.can.ok b hb).even v hv
  have := h.within hc q (List.mem_flatMap.2 ⟨b, hb, hq⟩)
  omega
theorem inc_ends {xs : List Int} (hi : Inc xs) (h0 : 0 < xs.length) : ∀ v ∈ xs, rd xs 0 ≤ v ∧ v ≤ rd xs ((xs.length - 1 : Nat) : Int) := by
  intro v hv
  obtain ⟨j, hj, rfl⟩ := List.getElem_of_mem hv
  have e0 : rd xs 0 = xs[0] := rd_get xs 0 h0
  rw [e0, rd_get xs (xs.length - 1) (by omega)]
  have h1 := List.pairwise_iff_getElem.1 hi
  constructor
  · by_cases c : j = 0
    · subst c; exact Int.le_refl _
    · exact Int.le_of_lt (h1 0 j h0 hj (by omega))
  · by_cases c : j = xs.length - 1
    · subst c; exact Int.le_refl _
    · exact Int.le_of_lt (h1 j (xs.length - 1) hj (by omega) (by omega))
theorem rowAt_mem : ∀ {s : List Bd} {y x : Int}, tog (rowAt s y) x = true → ∃ b ∈ s, b.f0 ≤ y ∧ y < b.f1 ∧ tog b.f2 x = true
  | [], y, x, h => by simp [rowAt, tog] at h
  | b :: r, y, x, h => by
    rw [rowAt] at h
    by_cases c : b.f0 ≤ y ∧ y < b.f1
    · rw [if_pos c] at h
      exact ⟨b, List.mem_cons_self, c.1, c.2, h⟩
    · rw [if_neg c] at h
      obtain ⟨d, hd, hh⟩ := rowAt_mem h
      exact ⟨d, List.mem_cons_of_mem _ hd, hh⟩
theorem tog_between {xs : List Int} {x : Int} (he : xs.length % 2 = 0) (h : tog xs x = true) : (∃ v ∈ xs, v ≤ x) ∧ ∃ v ∈ xs, x < v := by
  constructor
  · refine Classical.byContradiction fun hn => ?_
    rw [tog_low fun a ha => Classical.byContradiction fun hc => hn ⟨a, ha, by omega⟩] at h
    simp at h
  · refine Classical.byContradiction fun hn => ?_
    rw [tog_high fun a ha => Classical.byContradiction fun hc => hn ⟨a, ha, by omega⟩] at h
    have := of_decide_eq_true h
    omega
theorem around_tot {s : List Bd} {c : Int → Int → Bool} (h : Shape s c) {B : Int} (hc : Box B c) (h0 : 0 < s.length) (hl : s.length ≤ 4000000000) (hx : ∀ b ∈ s, b.f2.length ≤ 4000000000) :
    Tot (fun k => shape_Set_Around.f k s) fun r => (∀ y x, c y x = true → r.1 ≤ x ∧ x < r.2.2.1 ∧ r.2.1 ≤ y ∧ y < r.2.2.2) ∧ -B ≤ r.1 ∧ -B ≤ r.2.1 ∧ r.2.2.1 ≤ B ∧ r.2.2.2 ≤ B := by
  unfold shape_Set_Around.f
  have hm0 := List.getElem_mem h0
  have hok := h.can.ok _ hm0
  have h2 := hok.two
  have hb0 := hx _ hm0
  have e0 : rd_T118 s 0 = s[0] := rdT118 h0
  have e1 : wrap64 ((s.length : Int) - 1) = ((s.length - 1 : Nat) : Int) := by rw [w64 (by omega) (by omega)]; omega
  rw [e0, e1, rdT118 (show s.length - 1 < s.length by omega)]
  refine Tot.ite (fun _ => ?_) (fun _ => by exfalso; omega)
  refine Tot.ite (fun _ => ?_) (fun _ => by exfalso; omega)
  refine Tot.ite (fun _ => ?_) (fun _ => by exfalso; omega)
  refine Tot.ite (fun _ => ?_) (fun _ => by exfalso; omega)
  refine Tot.ite (fun _ => ?_) (fun _ => by exfalso; omega)
  have g0 : rd s[0].f2 0 ∈ s[0].f2 := by rw [show rd s[0].f2 0 = s[0].f2[0] from rd_get _ 0 (by omega)]; exact List.getElem_mem _
  have g1 : rd s[0].f2 1 ∈ s[0].f2 := by rw [show rd s[0].f2 1 = s[0].f2[1] from rd_get _ 1 (by omega)]; exact List.getElem_mem _
  have b0 := h.xs hc _ hm0 _ g0
  have b1 := h.xs hc _ hm0 _ g1
  have key := up_tot (α := Int × Int × Int × Int) (σ := Int × Int) (F := fun k p j => shape_Set_Around.l0 k s (s.length : Int) (j : Int) p.1 s[0].f0 p.2 s[s.length - 1].f1) (n := s.length)
    (Q := fun p j r => r.2.1 = s[0].f0 ∧ r.2.2.2 = s[s.length - 1].f1 ∧ r.1 ≤ p.1 ∧ p.2 ≤ r.2.2.1 ∧ (∀ b ∈ s.drop j, ∀ v ∈ b.f2, r.1 ≤ v ∧ v ≤ r.2.2.1) ∧ (-B ≤ p.1 → -B ≤ r.1) ∧ (p.2 ≤ B → r.2.2.1 ≤ B)) (fun p j hj ih => ?_) (fun p => ?_) s.length (rd s[0].f2 0, rd s[0].f2 1) 0 (by omega)
  · refine key.imp fun r hr => ?_
    obtain ⟨q1, q2, q3, q4, q5, q6, q7⟩ := hr
    have hhi := h.high hc
    have l1 := hhi _ hm0
    have l2 := hhi _ (List.getElem_mem (show s.length - 1 < s.length by omega))
    refine ⟨fun y x hyx => ?_, q6 (by simp only; omega), by omega, q7 (by simp only; omega), by omega⟩
    rw [← h.cov] at hyx
    obtain ⟨b, hb, hy1, hy2, ht⟩ := rowAt_mem hyx
    obtain ⟨⟨v, hv, hv2⟩, ⟨u, hu, hu2⟩⟩ := tog_between (h.can.ok b hb).even ht
    have r1 := q5 b (by simpa using hb) v hv
    have r2 := q5 b (by simpa using hb) u hu
    obtain ⟨i, hi, rfl⟩ := List.getElem_of_mem hb
    have up := List.pairwise_iff_getElem.1 h.can.up
    have p1 : s[0].f0 ≤ s[i].f0 := by
      by_cases ci : i = 0
      · subst ci; exact Int.le_refl _
      · have := up 0 i h0 hi (by omega)
        have := hok.lt
        omega
    have p2 : s[i].f1 ≤ s[s.length - 1].f1 := by
      by_cases ci : i = s.length - 1
      · subst ci; exact Int.le_refl _
      · have := up i (s.length - 1) hi (by omega) (by omega)
        have := (h.can.ok _ (List.getElem_mem (show s.length - 1 < s.length by omega))).lt
        omega
    omega
  · have hmj := List.getElem_mem hj
    have hoj := h.can.ok _ hmj
    have h2j := hoj.two
    have hbj := hx _ hmj
    have ej : wrap64 ((s[j].f2.length : Int) - 1) = ((s[j].f2.length - 1 : Nat) : Int) := by rw [w64 (by omega) (by omega)]; omega
    simp only [shape_Set_Around.l0, rdT118 hj, ej, w1 hj (by omega : s.length ≤ 9223372036854775807)]
    refine Tot.ite (fun _ => ?_) (fun _ => by exfalso; omega)
    refine Tot.ite (fun _ => ?_) (fun _ => by exfalso; omega)
    refine Tot.ite (fun _ => ?_) (fun _ => by exfalso; omega)
    refine Tot.ite (fun _ => ?_) (fun _ => by exfalso; omega)
    refine Tot.ite (fun _ => ?_) (fun _ => by exfalso; omega)
    refine Tot.ite (fun _ => ?_) (fun _ => by exfalso; omega)
    refine (ih (mn p.1 (rd s[j].f2 0), mx p.2 (rd s[j].f2 ((s[j].f2.length - 1 : Nat) : Int)))).imp fun r hr => ?_
    simp only [mn_min, mx_max] at hr
    obtain ⟨q1, q2, q3, q4, q5, q6, q7⟩ := hr
    have ends := inc_ends hoj.inc (by omega)
    have f0 : rd s[j].f2 0 ∈ s[j].f2 := by rw [show rd s[j].f2 0 = s[j].f2[0] from rd_get _ 0 (by omega)]; exact List.getElem_mem _
    have f1 : rd s[j].f2 ((s[j].f2.length - 1 : Nat) : Int) ∈ s[j].f2 := by rw [rd_get _ _ (show s[j].f2.length - 1 < s[j].f2.length by omega)]; exact List.getElem_mem _
    have x0 := h.xs hc _ hmj _ f0
    have x1 := h.xs hc _ hmj _ f1
    refine ⟨q1, q2, by omega, by omega, fun b hb v hv => ?_, fun hp => q6 (by omega), fun hp => q7 (by omega)⟩
    rw [List.drop_eq_getElem_cons hj] at hb
    rcases List.mem_cons.1 hb with rfl | hb
    · have := ends v hv
      omega
    · exact q5 b hb v hv
  · simp only [shape_Set_Around.l0]
    refine Tot.ite (fun _ => by exfalso; omega) (fun _ => Tot.pure _ ?_)
    exact ⟨rfl, rfl, Int.le_refl _, Int.le_refl _, fun b hb => absurd hb (by rw [List.drop_length]; simp), fun h => h, fun h => h⟩
end Go.Proofs.YthkeonbmgcphkaaGreatDoorPlain
