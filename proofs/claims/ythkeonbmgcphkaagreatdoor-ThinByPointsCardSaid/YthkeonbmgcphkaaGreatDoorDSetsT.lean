-- Written by this session's own programs (wip/tools).
import Derived.Test.YthkeonbmgcphkaaGreatDoorDBandsT
import Derived.Test.YthkeonbmgcphkaaGreatDoorDPTx6
namespace Go.Proofs.YthkeonbmgcphkaaGreatDoorPlain
open Go.RowKit Go.Proofs.YthkeonbmgcphkaaGreatDoor.PT Go.Proofs.YthkeonbmgcphkaaGreatDoorW.PrintWords
set_option linter.unusedVariables false
set_option linter.unusedSimpArgs false
theorem w64 {x : Int} (h0 : -9223372036854775808 ≤ x) (h1 : x ≤ 9223372036854775807) : wrap64 x = x := by unfold wrap64; omega
theorem rdT44 {l : List S44} {i : Nat} (h : i < l.length) : rd_T44 l (i : Int) = l[i] := by
  unfold rd_T44
  rw [List.getD_eq_getElem?_getD, Int.toNat_natCast, List.getElem?_eq_getElem h, Option.getD_some]
theorem rdT118 {l : List S118} {i : Nat} (h : i < l.length) : rd_T118 l (i : Int) = l[i] := by
  unfold rd_T118
  rw [List.getD_eq_getElem?_getD, Int.toNat_natCast, List.getElem?_eq_getElem h, Option.getD_some]
theorem equal_l0 : ∀ (d k : Nat) (a b : List Int) (i : Nat), a.length = b.length → a.length ≤ 4611686018427387904 → i ≤ a.length → a.length - i = d → d < k → slices_Equal_int_int.l0 k a b (a.length : Int) (i : Int) = some (decide (a.drop i = b.drop i)) := by
  intro d
  induction d with
  | zero =>
    intro k a b i hab hm hi hd hk
    obtain ⟨k, rfl⟩ : ∃ m, k = m + 1 := ⟨k - 1, by omega⟩
    rw [slices_Equal_int_int.l0, if_neg (by omega), List.drop_of_length_le (by omega), List.drop_of_length_le (by omega)]
    simp
  | succ d ih =>
    intro k a b i hab hm hi hd hk
    obtain ⟨k, rfl⟩ : ∃ m, k = m + 1 := ⟨k - 1, by omega⟩
    have h1 : i < a.length := by omega
    have h2 : i < b.length := by omega
    rw [slices_Equal_int_int.l0, if_pos (by omega), if_pos (by omega), if_pos (by omega), if_pos (by omega), rd_get a i h1, rd_get b i h2]
    have hc : (a.drop i = b.drop i) ↔ (a[i] = b[i] ∧ a.drop (i + 1) = b.drop (i + 1)) := by rw [List.drop_eq_getElem_cons h1, List.drop_eq_getElem_cons h2, List.cons.injEq]
    by_cases h : a[i] = b[i]
    · rw [if_pos h, w64 (by omega) (by omega), show (i : Int) + 1 = ((i + 1 : Nat) : Int) by omega, ih k a b (i + 1) hab hm (by omega) (by omega) (by omega)]
      congr 1
      simp only [hc, h, true_and]
    · rw [if_neg h]
      congr 1
      simp only [hc, h, false_and, decide_false]
theorem equal_ev (a b : List Int) (hm : a.length ≤ 4611686018427387904) : Ev (fun k => slices_Equal_int_int.f k a b) (decide (a = b)) := by
  refine ⟨a.length + 1, fun k hk => ?_⟩
  show slices_Equal_int_int.f k a b = _
  unfold slices_Equal_int_int.f
  by_cases h : a.length = b.length
  · rw [if_pos (by omega)]
    have := equal_l0 a.length k a b 0 h hm (Nat.zero_le _) rfl (by omega)
    simpa using this
  · rw [if_neg (by omega)]
    congr 1
    rw [eq_comm, decide_eq_false_iff_not]
    exact fun e => h (by rw [e])
theorem push_ev (s : List S118) (y0 y1 : Int) (xs : List Int) (hs : s.length ≤ 4000000000) (hx : xs.length ≤ 4000000000) (hb : ∀ b ∈ s, b.f2.length ≤ 4000000000) : Ev (fun k => shape_Set_push.f k s y0 y1 xs) (pushP s ⟨y0, y1, xs⟩) := by
  have key : ∀ (g : Bool), Ev (fun k => shape_Set_push.j0 k s g y0 y1 xs) (if g = true then s else match s.getLast? with
    | some l => if l.f1 = y0 ∧ l.f2 = xs then s.dropLast ++ [⟨l.f0, y1, l.f2⟩] else s ++ [⟨y0, y1, xs⟩]
    | none => [⟨y0, y1, xs⟩]) := by
    intro g
    cases g with
    | true =>
      refine ⟨1, fun k hk => ?_⟩
      obtain ⟨k, rfl⟩ : ∃ m, k = m + 1 := ⟨k - 1, by omega⟩
      simp [shape_Set_push.j0]
    | false =>
      rcases List.eq_nil_or_concat s with rfl | ⟨s', l, rfl⟩
      · refine ⟨1, fun k hk => ?_⟩
        obtain ⟨k, rfl⟩ : ∃ m, k = m + 1 := ⟨k - 1, by omega⟩
        simp only [shape_Set_push.j0]
        rw [if_neg (by decide), if_neg (by simp [wrap64]), if_pos (by simp)]
        simp
      · rw [List.concat_eq_append] at *
        have hl : (s' ++ [l]).length = s'.length + 1 := by simp
        have e1 : wrap64 (((s' ++ [l]).length : Int) - 1) = (s'.length : Int) := by rw [hl, w64 (by omega) (by omega)]; omega
        have e2 : rd_T118 (s' ++ [l]) (s'.length : Int) = l := by rw [rdT118 (by omega)]; simp
        obtain ⟨K, hK⟩ := equal_ev l.f2 xs (by have := hb l (by simp); omega)
        refine ⟨K + 1, fun k hk => ?_⟩
        obtain ⟨k, rfl⟩ : ∃ m, k = m + 1 := ⟨k - 1, by omega⟩
        simp only [shape_Set_push.j0, Bool.false_eq_true, if_false]
        rw [e1, if_pos (by omega), if_pos (by omega), if_pos (by omega), e2, List.getLast?_concat]
        simp only
        by_cases hm : l.f1 = y0
        · rw [if_pos hm]
          have := hK k (by omega)
          simp only at this
          rw [this]
          simp only [Option.bind_some]
          by_cases hx2 : l.f2 = xs
          · rw [if_pos (decide_eq_true hx2), if_pos ⟨hm, hx2⟩, List.dropLast_concat]
            congr 1
            rw [Int.toNat_natCast, List.set_append_right _ _ (Nat.le_refl _)]
            simp
          · rw [if_neg (by simp [hx2]), if_pos (by omega), if_neg (fun h => hx2 h.2)]
        · rw [if_neg hm, if_pos (by omega), if_neg (fun h => hm h.1)]
  unfold shape_Set_push.f pushP
  by_cases h0 : xs = []
  · subst h0
    have := key true
    simpa using this
  · have hp : 0 < xs.length := List.length_pos_iff.2 h0
    have := key (decide (y1 ≤ y0))
    simp only [decide_eq_true_eq] at this
    obtain ⟨K, hK⟩ := this
    refine ⟨K, fun k hk => ?_⟩
    have h1 := hK k hk
    simp only at h1
    have h2 : ¬ (xs.length : Int) = 0 := by omega
    simp only [h2, if_false, h1]
    congr 1
    by_cases hy : y1 ≤ y0
    · rw [if_pos hy, if_pos (.inr hy)]
    · rw [if_neg hy, if_neg (fun h => h.elim (fun h => h0 h) hy)]
      cases s.getLast? <;> rfl
theorem sortX_some (l : List S44) (h : ∀ r ∈ l, -8000000 ≤ r.f0 ∧ r.f0 ≤ 8000000) (hl : l.length ≤ 1000000000) : ∃ r, api_Rect_87_with_shape_stretches_1.f l = some r ∧ r.Perm l ∧ r.Pairwise fun a b => a.f0 ≤ b.f0 := by
  have hok : (∀ x ∈ l, api_Rect_87_with_shape_stretches_1.Ok x) ∧ l.length < 4611686018427387904 := ⟨fun x hx => by have := h x hx; unfold api_Rect_87_with_shape_stretches_1.Ok; omega, by omega⟩
  refine ⟨_, by unfold api_Rect_87_with_shape_stretches_1.f; rw [dif_pos hok], ?_⟩
  by_cases hz : l.length = 0
  · rw [if_pos hz]
    obtain rfl := List.length_eq_zero_iff.1 hz
    exact ⟨List.Perm.refl _, List.Pairwise.nil⟩
  · rw [if_neg hz]
    have hsz : (api_Rect_87_with_shape_stretches_1.row l hok.1).toArray.size = l.length := by simp [api_Rect_87_with_shape_stretches_1.row]
    obtain ⟨⟨h1, _, h3⟩, h4⟩ := Go.Sort.pdq_sorts (ltOf api_Rect_87_with_shape_stretches_1.cf) api_Rect_87_with_shape_stretches_1.swo (api_Rect_87_with_shape_stretches_1.row l hok.1).toArray 0 l.length (Go.Lib.bitLen l.length) true true (Nat.zero_le _) (Nat.le_of_eq hsz.symm) (.inl rfl)
    generalize Go.Sort.pdq (ltOf api_Rect_87_with_shape_stretches_1.cf) (api_Rect_87_with_shape_stretches_1.row l hok.1).toArray 0 l.length (Go.Lib.bitLen l.length) true true = d at h1 h3 h4 ⊢
    rw [hsz] at h1
    have e1 : d.extract 0 l.length = d := by rw [← h1]; simp
    have e2 : (api_Rect_87_with_shape_stretches_1.row l hok.1).toArray.extract 0 l.length = (api_Rect_87_with_shape_stretches_1.row l hok.1).toArray := by
      apply Array.extract_eq_self_of_le
      omega
    rw [e1, e2] at h3
    refine ⟨?_, ?_⟩
    · have := h3.map api_Rect_87_with_shape_stretches_1.E.v
      refine this.trans ?_
      have e3 : (api_Rect_87_with_shape_stretches_1.row l hok.1).toArray.toList.map api_Rect_87_with_shape_stretches_1.E.v = l := by simp [api_Rect_87_with_shape_stretches_1.row, List.map_pmap]
      rw [e3]
    · rw [List.pairwise_iff_getElem]
      intro i j hi hj hij
      simp only [List.length_map, Array.length_toList] at hi hj
      have := h4 i j (Nat.zero_le _) hij (by omega)
      rw [getElem!_pos d j hj, getElem!_pos d i hi] at this
      have := of_decide_eq_false this
      unfold api_Rect_87_with_shape_stretches_1.cf at this
      simp only [List.getElem_map, Array.getElem_toList]
      omega
theorem sortY_some (l : List S44) (h : ∀ r ∈ l, -8000000 ≤ r.f1 ∧ r.f1 ≤ 8000000) (hl : l.length ≤ 1000000000) : ∃ r, api_Rect_87_with_shape_SetOf_1.f l = some r ∧ r.Perm l ∧ r.Pairwise fun a b => a.f1 ≤ b.f1 := by
  have hok : (∀ x ∈ l, api_Rect_87_with_shape_SetOf_1.Ok x) ∧ l.length < 4611686018427387904 := ⟨fun x hx => by have := h x hx; unfold api_Rect_87_with_shape_SetOf_1.Ok; omega, by omega⟩
  refine ⟨_, by unfold api_Rect_87_with_shape_SetOf_1.f; rw [dif_pos hok], ?_⟩
  by_cases hz : l.length = 0
  · rw [if_pos hz]
    obtain rfl := List.length_eq_zero_iff.1 hz
    exact ⟨List.Perm.refl _, List.Pairwise.nil⟩
  · rw [if_neg hz]
    have hsz : (api_Rect_87_with_shape_SetOf_1.row l hok.1).toArray.size = l.length := by simp [api_Rect_87_with_shape_SetOf_1.row]
    obtain ⟨⟨h1, _, h3⟩, h4⟩ := Go.Sort.pdq_sorts (ltOf api_Rect_87_with_shape_SetOf_1.cf) api_Rect_87_with_shape_SetOf_1.swo (api_Rect_87_with_shape_SetOf_1.row l hok.1).toArray 0 l.length (Go.Lib.bitLen l.length) true true (Nat.zero_le _) (Nat.le_of_eq hsz.symm) (.inl rfl)
    generalize Go.Sort.pdq (ltOf api_Rect_87_with_shape_SetOf_1.cf) (api_Rect_87_with_shape_SetOf_1.row l hok.1).toArray 0 l.length (Go.Lib.bitLen l.length) true true = d at h1 h3 h4 ⊢
    rw [hsz] at h1
    have e1 : d.extract 0 l.length = d := by rw [← h1]; simp
    have e2 : (api_Rect_87_with_shape_SetOf_1.row l hok.1).toArray.extract 0 l.length = (api_Rect_87_with_shape_SetOf_1.row l hok.1).toArray := by
      apply Array.extract_eq_self_of_le
      omega
    rw [e1, e2] at h3
    refine ⟨?_, ?_⟩
    · have := h3.map api_Rect_87_with_shape_SetOf_1.E.v
      refine this.trans ?_
      have e3 : (api_Rect_87_with_shape_SetOf_1.row l hok.1).toArray.toList.map api_Rect_87_with_shape_SetOf_1.E.v = l := by simp [api_Rect_87_with_shape_SetOf_1.row, List.map_pmap]
      rw [e3]
    · rw [List.pairwise_iff_getElem]
      intro i j hi hj hij
      simp only [List.length_map, Array.length_toList] at hi hj
      have := h4 i j (Nat.zero_le _) hij (by omega)
      rw [getElem!_pos d j hj, getElem!_pos d i hi] at this
      have := of_decide_eq_false this
      unfold api_Rect_87_with_shape_SetOf_1.cf at this
      simp only [List.getElem_map, Array.getElem_toList]
      omega
theorem set_last (o : List Int) (h : 0 < o.length) (v : Int) : o.set (o.length - 1) v = o.dropLast ++ [v] := by
  rcases List.eq_nil_or_concat o with rfl | ⟨p, b, rfl⟩
  · simp at h
  · rw [List.concat_eq_append, List.dropLast_concat, List.length_append, List.length_singleton, Nat.add_sub_cancel, List.set_append_right _ _ (Nat.le_refl _)]
    simp
theorem getLast_eq {o : List Int} (h : 0 < o.length) : o.getLast? = some (o[o.length - 1]) := by
  rw [List.getLast?_eq_getElem?, List.getElem?_eq_getElem (by omega)]
theorem str_l0 (x : List S44) (l : List S44) (hl : l.length ≤ 1000000000) : ∀ (d k i : Nat) (out : List Int), i ≤ l.length → l.length - i = d → d < k → out.length + 2 * d ≤ 8000000000 →
    shape_stretches.l0 k x out l (l.length : Int) (i : Int) = some (strP (l.drop i) out, x) := by
  intro d
  induction d with
  | zero =>
    intro k i out hi hd hk ho
    obtain ⟨k, rfl⟩ : ∃ m, k = m + 1 := ⟨k - 1, by omega⟩
    rw [shape_stretches.l0, if_neg (by omega), List.drop_of_length_le (by omega)]
    rfl
  | succ d ih =>
    intro k i out hi hd hk ho
    obtain ⟨k, rfl⟩ : ∃ m, k = m + 1 := ⟨k - 1, by omega⟩
    have h1 : i < l.length := by omega
    have e0 : wrap64 ((i : Int) + 1) = ((i + 1 : Nat) : Int) := by rw [w64 (by omega) (by omega)]; omega
    have hf : ((some (([l[i].f0, l[i].f2] : List Int) : List Int)).bind fun y280 => if out.length + y280.length < 17592186044416 then shape_stretches.l0 k x (out ++ y280) l (l.length : Int) (wrap64 ((i : Int) + 1)) else none) = some (strP (l.drop (i + 1)) (out ++ [l[i].f0, l[i].f2]), x) := by
      simp only [Option.bind_some]
      rw [if_pos (by simp; omega), e0, ih k (i + 1) _ (by omega) (by omega) (by omega) (by simp; omega)]
    rw [shape_stretches.l0, if_pos (by omega), if_pos (by omega), if_pos (by omega), rdT44 h1, List.drop_eq_getElem_cons h1, strP]
    by_cases hz : out.length = 0
    · obtain rfl := List.length_eq_zero_iff.1 hz
      rw [if_neg (by simp [wrap64]), hf]
      rfl
    · have e1 : wrap64 ((out.length : Int) - 1) = ((out.length - 1 : Nat) : Int) := by rw [w64 (by omega) (by omega)]; omega
      rw [e1, if_pos (by omega), if_pos (by omega), if_pos (by omega), rd_get out (out.length - 1) (by omega), getLast_eq (by omega)]
      simp only
      by_cases hc : l[i].f0 ≤ out[out.length - 1]
      · rw [if_pos hc, if_pos hc, e0, Int.toNat_natCast, ih k (i + 1) _ (by omega) (by omega) (by omega) (by simp; omega)]
        rw [set_last _ (by omega)]
        congr 5
        simp only [mx, Int.max_def]
        split <;> split <;> omega
      · rw [if_neg hc, if_neg hc, hf]
theorem str_ev (l : List S44) (hg : ∀ r ∈ l, GoodR r) (hl : l.length ≤ 1000000000) : ∃ K xs l', (∀ k, K ≤ k → shape_stretches.f k l = some (xs, l')) ∧ Inc xs ∧ xs.length % 2 = 0 ∧ (∀ x, tog xs x = l.any fun r => decide (r.f0 ≤ x ∧ x < r.f2)) ∧ (∀ r, r ∈ l' ↔ r ∈ l) ∧ l'.length = l.length ∧ xs.length ≤ 2 * l.length := by
  obtain ⟨l', h1, h2, h3⟩ := sortX_some l (fun r hr => by have h := hg r hr; have := h.b0; have := h.b2; have := h.x; omega) hl
  have hlen := h2.length_eq
  obtain ⟨p1, p2, p3, p4⟩ := strP_nil (l := l') (fun r hr => (hg r (h2.mem_iff.1 hr)).x) h3
  refine ⟨l'.length + 1, strP l' [], l', fun k hk => ?_, p1, p2, fun x => ?_, fun r => h2.mem_iff, hlen, by omega⟩
  · unfold shape_stretches.f
    rw [h1]
    simp only [Option.bind_some]
    rw [← hlen]
    exact str_l0 l' l' (by omega) l'.length k 0 [] (Nat.zero_le _) rfl (by omega) (by simp; omega)
  · rw [p3 x, Bool.eq_iff_iff, List.any_eq_true, List.any_eq_true]
    constructor
    · rintro ⟨r, hr, h⟩; exact ⟨r, h2.mem_iff.1 hr, h⟩
    · rintro ⟨r, hr, h⟩; exact ⟨r, h2.mem_iff.2 hr, h⟩
theorem helps : Helps shape_stretches.f shape_Set_push.f := ⟨str_ev, fun s y0 y1 xs h1 h2 h3 => push_ev s y0 y1 xs h1 h2 h3⟩
end Go.Proofs.YthkeonbmgcphkaaGreatDoorPlain
