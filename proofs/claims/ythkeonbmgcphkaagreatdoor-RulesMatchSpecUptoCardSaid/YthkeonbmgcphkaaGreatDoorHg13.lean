import Derived.Test.YthkeonbmgcphkaaGreatDoorHg7
import Derived.Test.YthkeonbmgcphkaaGreatDoorHg12
import Derived.Test.YthkeonbmgcphkaaGreatDoorHg6
namespace Go.Proofs.YthkeonbmgcphkaaGreatDoorPlain
open Go.RowKit Go.Proofs.YthkeonbmgcphkaaGreatDoor.PM Go.Proofs.YthkeonbmgcphkaaGreatDoorW.PrintWords
set_option linter.unusedVariables false
set_option linter.unusedSimpArgs false
theorem w64 {x : Int} (h0 : -9223372036854775808 ≤ x) (h1 : x ≤ 9223372036854775807) : wrap64 x = x := by unfold wrap64; omega
theorem jS {l : List S44} {i : Nat} (h : i < l.length) : aI l (i : Int) = l[i] := by
  unfold aI
  rw [List.getD_eq_getElem?_getD, Int.toNat_natCast, List.getElem?_eq_getElem h, Option.getD_some]
theorem rdT118 {l : List S118} {i : Nat} (h : i < l.length) : bP l (i : Int) = l[i] := by
  unfold bP
  rw [List.getD_eq_getElem?_getD, Int.toNat_natCast, List.getElem?_eq_getElem h, Option.getD_some]
theorem equal_l0 : ∀ (d k : Nat) (a b : List Int) (i : Nat), a.length = b.length → a.length ≤ 4611686018427387904 → i ≤ a.length → a.length - i = d → d < k → cO.l0 k a b (a.length : Int) (i : Int) = some (decide (a.drop i = b.drop i)) := by
  intro d
  induction d with
  | zero =>
    intro k a b i hab hm hi hd hk
    obtain ⟨k, rfl⟩ : ∃ m, k = m + 1 := ⟨k - 1, by omega⟩
    rw [cO.l0, if_neg (by omega), List.drop_of_length_le (by omega), List.drop_of_length_le (by omega)]
    simp
  | succ d ih =>
    intro k a b i hab hm hi hd hk
    obtain ⟨k, rfl⟩ : ∃ m, k = m + 1 := ⟨k - 1, by omega⟩
    have h1 : i < a.length := by omega
    have h2 : i < b.length := by omega
    rw [cO.l0, if_pos (by omega), if_pos (by omega), if_pos (by omega), if_pos (by omega), iJ a i h1, iJ b i h2]
    have hc : (a.drop i = b.drop i) ↔ (a[i] = b[i] ∧ a.drop (i + 1) = b.drop (i + 1)) := by rw [List.drop_eq_getElem_cons h1, List.drop_eq_getElem_cons h2, List.cons.injEq]
    by_cases h : a[i] = b[i]
    · rw [if_pos h, w64 (by omega) (by omega), show (i : Int) + 1 = ((i + 1 : Nat) : Int) by omega, ih k a b (i + 1) hab hm (by omega) (by omega) (by omega)]
      congr 1
      simp only [hc, h, true_and]
    · rw [if_neg h]
      congr 1
      simp only [hc, h, false_and, decide_false]
theorem equal_ev (a b : List Int) (hm : a.length ≤ 4611686018427387904) : Ev (fun k => cO.f k a b) (decide (a = b)) := by
  refine ⟨a.length + 1, fun k hk => ?_⟩
  show cO.f k a b = _
  unfold cO.f
  by_cases h : a.length = b.length
  · rw [if_pos (by omega)]
    have := equal_l0 a.length k a b 0 h hm (Nat.zero_le _) rfl (by omega)
    simpa using this
  · rw [if_neg (by omega)]
    congr 1
    rw [eq_comm, decide_eq_false_iff_not]
    exact fun e => h (by rw [e])
theorem push_ev (s : List S118) (y0 y1 : Int) (xs : List Int) (hs : s.length ≤ 4000000000) (hx : xs.length ≤ 4000000000) (hb : ∀ b ∈ s, b.f2.length ≤ 4000000000) : Ev (fun k => dH.f k s y0 y1 xs) (iK s ⟨y0, y1, xs⟩) := by
  have key : ∀ (g : Bool), Ev (fun k => dH.j0 k s g y0 y1 xs) (if g = true then s else match s.getLast? with
    | some l => if l.f1 = y0 ∧ l.f2 = xs then s.dropLast ++ [⟨l.f0, y1, l.f2⟩] else s ++ [⟨y0, y1, xs⟩]
    | none => [⟨y0, y1, xs⟩]) := by
    intro g
    cases g with
    | true =>
      refine ⟨1, fun k hk => ?_⟩
      obtain ⟨k, rfl⟩ : ∃ m, k = m + 1 := ⟨k - 1, by omega⟩
      simp [dH.j0]
    | false =>
      rcases List.eq_nil_or_concat s with rfl | ⟨s', l, rfl⟩
      · refine ⟨1, fun k hk => ?_⟩
        obtain ⟨k, rfl⟩ : ∃ m, k = m + 1 := ⟨k - 1, by omega⟩
        simp only [dH.j0]
        rw [if_neg (by decide), if_neg (by simp [wrap64]), if_pos (by simp)]
        simp
      · rw [List.concat_eq_append] at *
        have hl : (s' ++ [l]).length = s'.length + 1 := by simp
        have e1 : wrap64 (((s' ++ [l]).length : Int) - 1) = (s'.length : Int) := by rw [hl, w64 (by omega) (by omega)]; omega
        have e2 : bP (s' ++ [l]) (s'.length : Int) = l := by rw [rdT118 (by omega)]; simp
        obtain ⟨K, hK⟩ := equal_ev l.f2 xs (by have := hb l (by simp); omega)
        refine ⟨K + 1, fun k hk => ?_⟩
        obtain ⟨k, rfl⟩ : ∃ m, k = m + 1 := ⟨k - 1, by omega⟩
        simp only [dH.j0, Bool.false_eq_true, if_false]
        rw [e1, if_pos (by omega), if_pos (by omega), if_pos (by omega), e2, List.getLast?_concat]
        simp only
        by_cases hm : l.f1 = y0
        · rw [if_pos hm]
          have := hK k (by omega)
          simp only at this
          rw [this]
          simp only [Option.bind_some]
          by_cases hx2 : l.f2 = xs
          · rw [if_pos (decide_eq_true hx2), if_pos ⟨hm, hx2⟩, List.dropLast_concat]
            congr 1
            rw [Int.toNat_natCast, List.set_append_right _ _ (Nat.le_refl _)]
            simp
          · rw [if_neg (by simp [hx2]), if_pos (by omega), if_neg (fun h => hx2 h.2)]
        · rw [if_neg hm, if_pos (by omega), if_neg (fun h => hm h.1)]
  unfold dH.f iK
  by_cases h0 : xs = []
  · subst h0
    have := key true
    simpa using this
  · have hp : 0 < xs.length := List.length_pos_iff.2 h0
    have := key (decide (y1 ≤ y0))
    simp only [decide_eq_true_eq] at this
    obtain ⟨K, hK⟩ := this
    refine ⟨K, fun k hk => ?_⟩
    have h1 := hK k hk
    simp only at h1
    have h2 : ¬ (xs.length : Int) = 0 := by omega
    simp only [h2, if_false, h1]
    congr 1
    by_cases hy : y1 ≤ y0
    · rw [if_pos hy, if_pos (.inr hy)]
    · rw [if_neg hy, if_neg (fun h => h.elim (fun h => h0 h) hy)]
      cases s.getLast? <;> rfl
theorem sortX_some (l : List S44) (h : ∀ r ∈ l, -8000000 ≤ r.f0 ∧ r.f0 ≤ 8000000) (hl : l.length ≤ 1000000000) : ∃ r, aC.f l = some r ∧ r.Perm l ∧ r.Pairwise fun a b => a.f0 ≤ b.f0 := by
  have hok : (∀ x ∈ l, aC.Ok x) ∧ l.length < 4611686018427387904 := ⟨fun x hx => by have := h x hx; unfold aC.Ok; omega, by omega⟩
  refine ⟨_, by unfold aC.f; rw [dif_pos hok], ?_⟩
  by_cases hz : l.length = 0
  · rw [if_pos hz]
    obtain rfl := List.length_eq_zero_iff.1 hz
    exact ⟨List.Perm.refl _, List.Pairwise.nil⟩
  · rw [if_neg hz]
    have hsz : (aC.row l hok.1).toArray.size = l.length := by simp [aC.row]
    obtain ⟨⟨h1, _, h3⟩, h4⟩ := Go.Sort.pdq_sorts (ltOf aC.cf) aC.swo (aC.row l hok.1).toArray 0 l.length (Go.Lib.bitLen l.length) true true (Nat.zero_le _) (Nat.le_of_eq hsz.symm) (.inl rfl)
    generalize Go.Sort.pdq (ltOf aC.cf) (aC.row l hok.1).toArray 0 l.length (Go.Lib.bitLen l.length) true true = d at h1 h3 h4 ⊢
    rw [hsz] at h1
    have e1 : d.extract 0 l.length = d := by rw [← h1]; simp
    have e2 : (aC.row l hok.1).toArray.extract 0 l.length = (aC.row l hok.1).toArray := by
      apply Array.extract_eq_self_of_le
      omega
    rw [e1, e2] at h3
    refine ⟨?_, ?_⟩
    · have := h3.map aC.E.v
      refine this.trans ?_
      have e3 : (aC.row l hok.1).toArray.toList.map aC.E.v = l := by simp [aC.row, List.map_pmap]
      rw [e3]
    · rw [List.pairwise_iff_getElem]
      intro i j hi hj hij
      simp only [List.length_map, Array.length_toList] at hi hj
      have := h4 i j (Nat.zero_le _) hij (by omega)
      rw [getElem!_pos d j hj, getElem!_pos d i hi] at this
      have := of_decide_eq_false this
      unfold aC.cf at this
      simp only [List.getElem_map, Array.getElem_toList]
      omega
theorem sortY_some (l : List S44) (h : ∀ r ∈ l, -8000000 ≤ r.f1 ∧ r.f1 ≤ 8000000) (hl : l.length ≤ 1000000000) : ∃ r, aH.f l = some r ∧ r.Perm l ∧ r.Pairwise fun a b => a.f1 ≤ b.f1 := by
  have hok : (∀ x ∈ l, aH.Ok x) ∧ l.length < 4611686018427387904 := ⟨fun x hx => by have := h x hx; unfold aH.Ok; omega, by omega⟩
  refine ⟨_, by unfold aH.f; rw [dif_pos hok], ?_⟩
  by_cases hz : l.length = 0
  · rw [if_pos hz]
    obtain rfl := List.length_eq_zero_iff.1 hz
    exact ⟨List.Perm.refl _, List.Pairwise.nil⟩
  · rw [if_neg hz]
    have hsz : (aH.row l hok.1).toArray.size = l.length := by simp [aH.row]
    obtain ⟨⟨h1, _, h3⟩, h4⟩ := Go.Sort.pdq_sorts (ltOf aH.cf) aH.swo (aH.row l hok.1).toArray 0 l.length (Go.Lib.bitLen l.length) true true (Nat.zero_le _) (Nat.le_of_eq hsz.symm) (.inl rfl)
    generalize Go.Sort.pdq (ltOf aH.cf) (aH.row l hok.1).toArray 0 l.length (Go.Lib.bitLen l.length) true true = d at h1 h3 h4 ⊢
    rw [hsz] at h1
    have e1 : d.extract 0 l.length = d := by rw [← h1]; simp
    have e2 : (aH.row l hok.1).toArray.extract 0 l.length = (aH.row l hok.1).toArray := by
      apply Array.extract_eq_self_of_le
      omega
    rw [e1, e2] at h3
    refine ⟨?_, ?_⟩
    · have := h3.map aH.E.v
      refine this.trans ?_
      have e3 : (aH.row l hok.1).toArray.toList.map aH.E.v = l := by simp [aH.row, List.map_pmap]
      rw [e3]
    · rw [List.pairwise_iff_getElem]
      intro i j hi hj hij
      simp only [List.length_map, Array.length_toList] at hi hj
      have := h4 i j (Nat.zero_le _) hij (by omega)
      rw [getElem!_pos d j hj, getElem!_pos d i hi] at this
      have := of_decide_eq_false this
      unfold aH.cf at this
      simp only [List.getElem_map, Array.getElem_toList]
      omega
theorem set_last (o : List Int) (h : 0 < o.length) (v : Int) : o.set (o.length - 1) v = o.dropLast ++ [v] := by
  rcases List.eq_nil_or_concat o with rfl | ⟨p, b, rfl⟩
  · simp at h
  · rw [List.concat_eq_append, List.dropLast_concat, List.length_append, List.length_singleton, Nat.add_sub_cancel, List.set_append_right _ _ (Nat.le_refl _)]
    simp
theorem getLast_eq {o : List Int} (h : 0 < o.length) : o.getLast? = some (o[o.length - 1]) := by
  rw [List.getLast?_eq_getElem?, List.getElem?_eq_getElem (by omega)]
theorem str_l0 (x : List S44) (l : List S44) (hl : l.length ≤ 1000000000) : ∀ (d k i : Nat) (out : List Int), i ≤ l.length → l.length - i = d → d < k → out.length + 2 * d ≤ 8000000000 →
    bG.l0 k x out l (l.length : Int) (i : Int) = some (strP (l.drop i) out, x) := by
  intro d
  induction d with
  | zero =>
    intro k i out hi hd hk ho
    obtain ⟨k, rfl⟩ : ∃ m, k = m + 1 := ⟨k - 1, by omega⟩
    rw [bG.l0, if_neg (by omega), List.drop_of_length_le (by omega)]
    rfl
  | succ d ih =>
    intro k i out hi hd hk ho
    obtain ⟨k, rfl⟩ : ∃ m, k = m + 1 := ⟨k - 1, by omega⟩
    have h1 : i < l.length := by omega
    have e0 : wrap64 ((i : Int) + 1) = ((i + 1 : Nat) : Int) := by rw [w64 (by omega) (by omega)]; omega
    have hf : ((some (([l[i].f0, l[i].f2] : List Int) : List Int)).bind fun y280 => if out.length + y280.length < 17592186044416 then bG.l0 k x (out ++ y280) l (l.length : Int) (wrap64 ((i : Int) + 1)) else none) = some (strP (l.drop (i + 1)) (out ++ [l[i].f0, l[i].f2]), x) := by
      simp only [Option.bind_some]
      rw [if_pos (by simp; omega), e0, ih k (i + 1) _ (by omega) (by omega) (by omega) (by simp; omega)]
    rw [bG.l0, if_pos (by omega), if_pos (by omega), if_pos (by omega), jS h1, List.drop_eq_getElem_cons h1, strP]
    by_cases hz : out.length = 0
    · obtain rfl := List.length_eq_zero_iff.1 hz
      rw [if_neg (by simp [wrap64]), hf]
      rfl
    · have e1 : wrap64 ((out.length : Int) - 1) = ((out.length - 1 : Nat) : Int) := by rw [w64 (by omega) (by omega)]; omega
      rw [e1, if_pos (by omega), if_pos (by omega), if_pos (by omega), iJ out (out.length - 1) (by omega), getLast_eq (by omega)]
      simp only
      by_cases hc : l[i].f0 ≤ out[out.length - 1]
      · rw [if_pos hc, if_pos hc, e0, Int.toNat_natCast, ih k (i + 1) _ (by omega) (by omega) (by omega) (by simp; omega)]
        rw [set_last _ (by omega)]
        congr 5
        simp only [mx, Int.max_def]
        split <;> split <;> omega
      · rw [if_neg hc, if_neg hc, hf]
theorem str_ev (l : List S44) (hg : ∀ r ∈ l, GoodR r) (hl : l.length ≤ 1000000000) : ∃ K xs l', (∀ k, K ≤ k → bG.f k l = some (xs, l')) ∧ Inc xs ∧ xs.length % 2 = 0 ∧ (∀ x, tog xs x = l.any fun r => decide (r.f0 ≤ x ∧ x < r.f2)) ∧ (∀ r, r ∈ l' ↔ r ∈ l) ∧ l'.length = l.length ∧ xs.length ≤ 2 * l.length := by
  obtain ⟨l', h1, h2, h3⟩ := sortX_some l (fun r hr => by have h := hg r hr; have := h.b0; have := h.b2; have := h.x; omega) hl
  have hlen := h2.length_eq
  obtain ⟨p1, p2, p3, p4⟩ := strP_nil (l := l') (fun r hr => (hg r (h2.mem_iff.1 hr)).x) h3
  refine ⟨l'.length + 1, strP l' [], l', fun k hk => ?_, p1, p2, fun x => ?_, fun r => h2.mem_iff, hlen, by omega⟩
  · unfold bG.f
    rw [h1]
    simp only [Option.bind_some]
    rw [← hlen]
    exact str_l0 l' l' (by omega) l'.length k 0 [] (Nat.zero_le _) rfl (by omega) (by simp; omega)
  · rw [p3 x, Bool.eq_iff_iff, List.any_eq_true, List.any_eq_true]
    constructor
    · rintro ⟨r, hr, h⟩; exact ⟨r, h2.mem_iff.1 hr, h⟩
    · rintro ⟨r, hr, h⟩; exact ⟨r, h2.mem_iff.2 hr, h⟩
theorem helps : Helps bG.f dH.f := ⟨str_ev, fun s y0 y1 xs h1 h2 h3 => push_ev s y0 y1 xs h1 h2 h3⟩
end Go.Proofs.YthkeonbmgcphkaaGreatDoorPlain
namespace Go.Proofs.YthkeonbmgcphkaaGreatDoor.PM
open Go.RowKit Go.Proofs.YthkeonbmgcphkaaGreatDoorW.PrintWords Go.Proofs.YthkeonbmgcphkaaGreatDoorW.PrintLast Go.Proofs.YthkeonbmgcphkaaGreatDoorW.PrintMore
attribute [local go_sem] max2_int min2_int max_two min_two max_three min_three max_four min_four
set_option linter.unusedVariables false
set_option linter.unusedSimpArgs false
theorem eqA44 (d : Nat) (w : World) (x0 y0 : Int) (x1 y1 : Int) (x2 y2 : Int) (x3 y3 : Int) :
 (Op.equalIn (d + 2) 44 (.agg #[.int .i64 x0, .int .i64 x1, .int .i64 x2, .int .i64 x3]) (.agg #[.int .i64 y0, .int .i64 y1, .int .i64 y2, .int .i64 y3])).run Tryz.prog w = .ok (x0 == y0 && (x1 == y1 && (x2 == y2 && (x3 == y3)))) w := by
 refine eqA_of Tryz.underlying44 (by kernel_rfl) ?_
 refine eqf_cons (by rfl) (by go_simp; rfl) (by go_simp; rfl) (by go_simp) ?_
 refine eqf_cons (by rfl) (by go_simp; rfl) (by go_simp; rfl) (by go_simp) ?_
 refine eqf_cons (by rfl) (by go_simp; rfl) (by go_simp; rfl) (by go_simp) ?_
 exact eqf_last (by rfl) (by go_simp; rfl) (by go_simp; rfl) (by go_simp)
end Go.Proofs.YthkeonbmgcphkaaGreatDoor.PM
namespace Go.Proofs.YthkeonbmgcphkaaGreatDoor.PM
open Go.RowKit Go.Proofs.YthkeonbmgcphkaaGreatDoorW.PrintWords Go.Proofs.YthkeonbmgcphkaaGreatDoorW.PrintLast Go.Proofs.YthkeonbmgcphkaaGreatDoorW.PrintMore
attribute [local go_sem] max2_int min2_int max_two min_two max_three min_three max_four min_four
set_option linter.unusedVariables false
set_option maxHeartbeats 8000000
set_option maxRecDepth 100000
set_option linter.unusedSimpArgs false
attribute [local go_sem high] eqA44
def fQ.f (a0 : Int) (a1 : Int) (a2 : Int) : Option (Bool) := if a0 ≥ a1 then (some (decide (a0 ≤ a2))) else (some false)
theorem fQ.calls (a0 : Int) (a1 : Int) (a2 : Int) (r : Bool) (w : World) (hG : Tryz.GW w) (h : fQ.f a0 a1 a2 = some r) :
 Calls Tryz.prog 120 #[.int .i64 a0, .int .i64 a1, .int .i64 a2] w fun e w' => e = .returned (.bool r) ∧ Drawn0 w w' := by
 have HG := am_ hG
 clear hG
 have H : (if a0 ≥ a1 then (some (decide (a0 ≤ a2))) else (some false)) = some r := h
 clear h
 by_cases c4 : a0 ≥ a1
 · rw [if_pos c4] at H
   have c4b0 : decide (a1 ≤ a0) = true := decide_eq_true c4
   clear c4
   obtain rfl := sj_ H
   go_enter Tryz.func120, Tryz.ntmps120
   go_wp2
   go_ret
   exact ⟨ra_, dr_⟩
 rw [if_neg c4] at H
 have c4b0 : decide (a1 ≤ a0) = false := decide_eq_false c4
 clear c4
 obtain rfl := sj_ H
 go_enter Tryz.func120, Tryz.ntmps120
 go_wp2
 go_ret
 exact ⟨ra_, dr_⟩
def dO.f (a0 : Int) : Option (Bool) := (fQ.f a0 (-1000000) 1000000).bind fun t157 => (some t157)
theorem dO.calls (a0 : Int) (r : Bool) (w : World) (hG : Tryz.GW w) (h : dO.f a0 = some r) :
 Calls Tryz.prog 76 #[.int .i64 a0] w fun e w' => e = .returned (.bool r) ∧ Drawn0 w w' := by
 have HG := am_ hG
 clear hG
 have H : ((fQ.f a0 (-1000000) 1000000).bind fun t157 => (some t157)) = some r := h
 clear h
 obtain ⟨t157, A2, H⟩ := bs_ H
 obtain rfl := sj_ H
 go_enter Tryz.func76, Tryz.ntmps76
 go_wp2_with (first | ((with_reducible refine gf_ 120 rfl ?_); refine gl_ (some 4) Tryz.func120 #[.int .i64 a0, .int .i64 (-1000000), .int .i64 1000000] ?_; refine (fQ.calls a0 (-1000000) 1000000 t157 _ gd_ A2.out).mono ?_; rintro e w' ⟨rfl, ⟨nd, rfl⟩⟩; refine ⟨_, rfl, ?_⟩))
 go_ret
 exact ⟨ra_, dr_⟩
def eY.f (a0_0 : Int) (a0_1 : Int) (a0_2 : Int) (a0_3 : Int) : Option (Bool) := (dO.f a0_0).bind fun t159 => (if t159 = true then ((dO.f a0_1).bind fun t160 => (if t160 = true then ((dO.f a0_2).bind fun t161 => (if t161 = true then ((dO.f a0_3).bind fun t162 => (some t162)) else (some false))) else (some false))) else (some false))
theorem eY.calls (a0_0 : Int) (a0_1 : Int) (a0_2 : Int) (a0_3 : Int) (r : Bool) (w : World) (hG : Tryz.GW w) (h : eY.f a0_0 a0_1 a0_2 a0_3 = some r) :
 Calls Tryz.prog 114 #[.agg #[.int .i64 a0_0, .int .i64 a0_1, .int .i64 a0_2, .int .i64 a0_3]] w fun e w' => e = .returned (.bool r) ∧ Below w.heap.size w w' := by
 have hu44 := Tryz.underlying44
 have HG := am_ hG
 clear hG
 have HB := am_ (Below.refl w.heap.size w)
 have H : ((dO.f a0_0).bind fun t159 => (if t159 = true then ((dO.f a0_1).bind fun t160 => (if t160 = true then ((dO.f a0_2).bind fun t161 => (if t161 = true then ((dO.f a0_3).bind fun t162 => (some t162)) else (some false))) else (some false))) else (some false))) = some r := h
 clear h
 obtain ⟨t159, A2, H⟩ := bs_ H
 by_cases c3 : t159 = true
 rotate_left
 · obtain rfl := bf_ c3
   clear c3
   rw [if_neg ft_] at H
   obtain rfl := sj_ H
   go_enter Tryz.func114, Tryz.ntmps114
   go_wp2_with (first | ((with_reducible refine gn_ 1 rfl ?_); refine bq_ (N := 1) (cs := #[.int .i64 a0_0, .int .i64 a0_1, .int .i64 a0_2, .int .i64 a0_3]) (t := 44) ?_; intro gb158 hg w15 BK158 hb; have GW158 := ga_ w hg; have GE158 := GW158; replace HB := bp_ hb; clear hb hg; have bz16 := bc4_ BK158) | ((with_reducible refine gf_ 76 rfl ?_); refine gl_ (some 5) Tryz.func76 #[.int .i64 a0_0] ?_; refine (dO.calls a0_0 false _ (gw_ HG.out) A2.out).mono ?_; rintro e w' ⟨rfl, ⟨nd, rfl⟩⟩; refine ⟨_, rfl, ?_⟩))
   go_ret
   exact ⟨er_, bl_⟩
 subst c3
 rw [if_pos rfl] at H
 obtain ⟨t160, A4, H⟩ := bs_ H
 by_cases c5 : t160 = true
 rotate_left
 · obtain rfl := bf_ c5
   clear c5
   rw [if_neg ft_] at H
   obtain rfl := sj_ H
   go_enter Tryz.func114, Tryz.ntmps114
   go_wp2_with (first | ((with_reducible refine gn_ 1 rfl ?_); refine bq_ (N := 1) (cs := #[.int .i64 a0_0, .int .i64 a0_1, .int .i64 a0_2, .int .i64 a0_3]) (t := 44) ?_; intro gb158 hg w13 BK158 hb; have GW158 := ga_ w hg; have GE158 := GW158; replace HB := bp_ hb; clear hb hg; have bz14 := bc4_ BK158) | ((with_reducible refine gf_ 76 rfl ?_); refine gl_ (some 5) Tryz.func76 #[.int .i64 a0_0] ?_; refine (dO.calls a0_0 true _ (gw_ HG.out) A2.out).mono ?_; rintro e w' ⟨rfl, ⟨nd, rfl⟩⟩; refine ⟨_, rfl, ?_⟩) | (go_at_call 76; refine (dO.calls a0_1 false _ (gw_ HG.out) A4.out).mono ?_; rintro e w' ⟨rfl, ⟨nd, rfl⟩⟩))
   go_ret
   exact ⟨er_, bl_⟩
 subst c5
 rw [if_pos rfl] at H
 obtain ⟨t161, A6, H⟩ := bs_ H
 by_cases c7 : t161 = true
 · subst c7
   rw [if_pos rfl] at H
   obtain ⟨t162, A8, H⟩ := bs_ H
   obtain rfl := sj_ H
   go_enter Tryz.func114, Tryz.ntmps114
   go_wp2_with (first | ((with_reducible refine gn_ 1 rfl ?_); refine bq_ (N := 1) (cs := #[.int .i64 a0_0, .int .i64 a0_1, .int .i64 a0_2, .int .i64 a0_3]) (t := 44) ?_; intro gb158 hg w9 BK158 hb; have GW158 := ga_ w hg; have GE158 := GW158; replace HB := bp_ hb; clear hb hg; have bz10 := bc4_ BK158) | ((with_reducible refine gf_ 76 rfl ?_); refine gl_ (some 5) Tryz.func76 #[.int .i64 a0_0] ?_; refine (dO.calls a0_0 true _ (gw_ HG.out) A2.out).mono ?_; rintro e w' ⟨rfl, ⟨nd, rfl⟩⟩; refine ⟨_, rfl, ?_⟩) | (go_at_call 76; refine (dO.calls a0_1 true _ (gw_ HG.out) A4.out).mono ?_; rintro e w' ⟨rfl, ⟨nd, rfl⟩⟩) | (go_at_call 76; refine (dO.calls a0_2 true _ (gw_ HG.out) A6.out).mono ?_; rintro e w' ⟨rfl, ⟨nd, rfl⟩⟩) | (go_at_call 76; refine (dO.calls a0_3 t162 _ (gw_ HG.out) A8.out).mono ?_; rintro e w' ⟨rfl, ⟨nd, rfl⟩⟩))
   go_ret
   exact ⟨er_, bl_⟩
 obtain rfl := bf_ c7
 clear c7
 rw [if_neg ft_] at H
 obtain rfl := sj_ H
 go_enter Tryz.func114, Tryz.ntmps114
 go_wp2_with (first | ((with_reducible refine gn_ 1 rfl ?_); refine bq_ (N := 1) (cs := #[.int .i64 a0_0, .int .i64 a0_1, .int .i64 a0_2, .int .i64 a0_3]) (t := 44) ?_; intro gb158 hg w11 BK158 hb; have GW158 := ga_ w hg; have GE158 := GW158; replace HB := bp_ hb; clear hb hg; have bz12 := bc4_ BK158) | ((with_reducible refine gf_ 76 rfl ?_); refine gl_ (some 5) Tryz.func76 #[.int .i64 a0_0] ?_; refine (dO.calls a0_0 true _ (gw_ HG.out) A2.out).mono ?_; rintro e w' ⟨rfl, ⟨nd, rfl⟩⟩; refine ⟨_, rfl, ?_⟩) | (go_at_call 76; refine (dO.calls a0_1 true _ (gw_ HG.out) A4.out).mono ?_; rintro e w' ⟨rfl, ⟨nd, rfl⟩⟩) | (go_at_call 76; refine (dO.calls a0_2 false _ (gw_ HG.out) A6.out).mono ?_; rintro e w' ⟨rfl, ⟨nd, rfl⟩⟩))
 go_ret
 exact ⟨er_, bl_⟩
def dI.l0 : Nat → List (S44) → Int → Int → Option (Int)
 | 0, _, _, _ => none
 | k + 1, x8, x9, x10 => if x10 < x9 then (if 0 ≤ x10 then (if x10 < (x8.length : Int) then ((eY.f ((aI x8 x10).f0) ((aI x8 x10).f1) ((aI x8 x10).f2) ((aI x8 x10).f3)).bind fun t165 => (if t165 = true then (if ((aI x8 x10).f2) ≤ ((aI x8 x10).f0) then (some 13) else (if ((aI x8 x10).f3) ≤ ((aI x8 x10).f1) then (some 13) else (dI.l0 k x8 x9 (wrap64 (x10 + 1))))) else (some 1))) else (none)) else (none)) else (some 0)
def dI.f (k : Nat) (l0 : List (S44)) : Option (Int) := if (l0.length : Int) > 2000 then (some 2) else (dI.l0 k l0 (l0.length : Int) 0)
theorem dI.calls (k : Nat) (A0 : Option Addr) (c0 : Nat) (l0 : List (S44)) (r : Int) (w : World) (hG : Tryz.GW w) (hr0 : Kd.C k44 w A0 l0.length l0) (hc0 : l0.length ≤ c0) (h : dI.f k l0 = some r) :
 Calls Tryz.prog 67 #[.slice A0 l0.length c0] w fun e w' => e = .returned (.int .i64 r) ∧ Below w.heap.size w w' := by
 have hu44 := Tryz.underlying44
 have HR0 := am_ hr0
 have HC0 := am_ hc0
 clear hr0 hc0
 have HG := am_ hG
 clear hG
 have HB := am_ (Below.refl w.heap.size w)
 have H : (if (l0.length : Int) > 2000 then (some 2) else (dI.l0 k l0 (l0.length : Int) 0)) = some r := h
 clear h
 by_cases c2 : (l0.length : Int) > 2000
 · rw [if_pos c2] at H
   have c2b0 : decide (2000 < (l0.length : Int)) = true := decide_eq_true c2
   have c2b1 : decide (2000 < l0.length) = true := decide_eq_true (by omega)
   clear c2
   obtain rfl := sj_ H
   go_enter Tryz.func67, Tryz.ntmps67
   go_wp2
   go_ret
   exact ⟨er_, bl_⟩
 rw [if_neg c2] at H
 have c2b0 : decide (2000 < (l0.length : Int)) = false := decide_eq_false c2
 have c2b1 : decide (2000 < l0.length) = false := decide_eq_false (by omega)
 clear c2
 replace H := am_ H
 go_enter Tryz.func67, Tryz.ntmps67
 go_wp2
 go_loopg [10] k (fun kq v10 w' => ∃ (x10_1 : Int), v10 = .int .i64 x10_1 ∧ Aside0 (dI.l0 kq l0 (l0.length : Int) x10_1 = some r) ∧ Aside0 (kq ≤ k) ∧ Aside0 (Below w.heap.size w w'))
 case atStart => exact ⟨(0), ra_, H, ⟨Nat.le_refl _⟩, ⟨bl_⟩⟩
 case round =>
  clear H
  try clear c2
  try clear c2b0
  try clear c2b1
  try clear p2
  obtain ⟨x10_1, rfl, HA, HK1, HB⟩ := hrel
  cases gk with
  | zero => exact absurd HA.out (by simp [dI.l0])
  | succ k1 =>
   have H := HA.out
   clear HA
   simp only [dI.l0] at H
   by_cases c3 : x10_1 < (l0.length : Int)
   rotate_left
   · rw [if_neg c3] at H
     have c3b0 := decide_eq_false c3
     clear c3
     obtain rfl := sj_ H
     go_wp2
     go_ret
     exact ⟨er_, bl_⟩
   rw [if_pos c3] at H
   have c3b0 := decide_eq_true c3
   clear c3
   obtain ⟨c4b0, H⟩ := ifd_ H
   obtain ⟨c5b0, H⟩ := ifd_ H
   obtain ⟨t165, A6, H⟩ := bs_ H
   by_cases c7 : t165 = true
   rotate_left
   · obtain rfl := bf_ c7
     clear c7
     rw [if_neg ft_] at H
     obtain rfl := sj_ H
     have p163 := pt_ x10_1
     have q163 := qt_ x10_1 l0.length
     obtain ⟨ad163, e163, hx163_0, hx163_1, hx163_2, hx163_3⟩ := dS HR0.out x10_1 (oe_ p163) (oe_ q163)
     cases e163
     replace hx163_0 := ce_ HB hx163_0
     replace hx163_1 := ce_ HB hx163_1
     replace hx163_2 := ce_ HB hx163_2
     replace hx163_3 := ce_ HB hx163_3
     go_wp2_with (first | ((with_reducible refine gn_ 4 rfl ?_); refine bq_ (N := 4) (cs := #[.int .i64 0, .int .i64 0, .int .i64 0, .int .i64 0]) (t := 44) ?_; intro gb164 hg w22 BK164 hb; have GW164 := ga_ w hg; have GE164 := GW164; replace HB := bp_ hb; clear hb hg; have bz23 := bc4_ BK164) | ((with_reducible refine gf_ 114 rfl ?_); refine gl_ (some 15) Tryz.func114 #[.agg #[.int .i64 ((aI l0 x10_1).f0), .int .i64 ((aI l0 x10_1).f1), .int .i64 ((aI l0 x10_1).f2), .int .i64 ((aI l0 x10_1).f3)]] ?_; refine (eY.calls ((aI l0 x10_1).f0) ((aI l0 x10_1).f1) ((aI l0 x10_1).f2) ((aI l0 x10_1).f3) false _ (gw_ HG.out) A6.out).mono ?_; rintro e w24 ⟨rfl, hb⟩; refine ⟨_, rfl, ?_⟩; replace BK164 := am_ (blk_below (g := gb164) (o := .cells #[.int .i64 ((aI l0 x10_1).f0), .int .i64 ((aI l0 x10_1).f1), .int .i64 ((aI l0 x10_1).f2), .int .i64 ((aI l0 x10_1).f3)] 44 (0, 0)) (bw_ BK164) hb); replace HB := bp_ hb; (try clear hb)))
     go_ret
     exact ⟨er_, bl_⟩
   subst c7
   rw [if_pos rfl] at H
   by_cases c8 : ((aI l0 x10_1).f2) ≤ ((aI l0 x10_1).f0)
   · rw [if_pos c8] at H
     have c8b0 := decide_eq_true c8
     clear c8
     obtain rfl := sj_ H
     have p163 := pt_ x10_1
     have q163 := qt_ x10_1 l0.length
     obtain ⟨ad163, e163, hx163_0, hx163_1, hx163_2, hx163_3⟩ := dS HR0.out x10_1 (oe_ p163) (oe_ q163)
     cases e163
     replace hx163_0 := ce_ HB hx163_0
     replace hx163_1 := ce_ HB hx163_1
     replace hx163_2 := ce_ HB hx163_2
     replace hx163_3 := ce_ HB hx163_3
     go_wp2_with (first | ((with_reducible refine gn_ 4 rfl ?_); refine bq_ (N := 4) (cs := #[.int .i64 0, .int .i64 0, .int .i64 0, .int .i64 0]) (t := 44) ?_; intro gb164 hg w9 BK164 hb; have GW164 := ga_ w hg; have GE164 := GW164; replace HB := bp_ hb; clear hb hg; have bz10 := bc4_ BK164) | ((with_reducible refine gf_ 114 rfl ?_); refine gl_ (some 15) Tryz.func114 #[.agg #[.int .i64 ((aI l0 x10_1).f0), .int .i64 ((aI l0 x10_1).f1), .int .i64 ((aI l0 x10_1).f2), .int .i64 ((aI l0 x10_1).f3)]] ?_; refine (eY.calls ((aI l0 x10_1).f0) ((aI l0 x10_1).f1) ((aI l0 x10_1).f2) ((aI l0 x10_1).f3) true _ (gw_ HG.out) A6.out).mono ?_; rintro e w11 ⟨rfl, hb⟩; refine ⟨_, rfl, ?_⟩; replace BK164 := am_ (blk_below (g := gb164) (o := .cells #[.int .i64 ((aI l0 x10_1).f0), .int .i64 ((aI l0 x10_1).f1), .int .i64 ((aI l0 x10_1).f2), .int .i64 ((aI l0 x10_1).f3)] 44 (0, 0)) (bw_ BK164) hb); replace HB := bp_ hb; (try clear hb); have bz12 := bc4_ BK164))
     go_ret
     exact ⟨er_, bl_⟩
   rw [if_neg c8] at H
   have c8b0 := decide_eq_false c8
   clear c8
   by_cases c13 : ((aI l0 x10_1).f3) ≤ ((aI l0 x10_1).f1)
   · rw [if_pos c13] at H
     have c13b0 := decide_eq_true c13
     clear c13
     obtain rfl := sj_ H
     have p163 := pt_ x10_1
     have q163 := qt_ x10_1 l0.length
     obtain ⟨ad163, e163, hx163_0, hx163_1, hx163_2, hx163_3⟩ := dS HR0.out x10_1 (oe_ p163) (oe_ q163)
     cases e163
     replace hx163_0 := ce_ HB hx163_0
     replace hx163_1 := ce_ HB hx163_1
     replace hx163_2 := ce_ HB hx163_2
     replace hx163_3 := ce_ HB hx163_3
     go_wp2_with (first | ((with_reducible refine gn_ 4 rfl ?_); refine bq_ (N := 4) (cs := #[.int .i64 0, .int .i64 0, .int .i64 0, .int .i64 0]) (t := 44) ?_; intro gb164 hg w14 BK164 hb; have GW164 := ga_ w hg; have GE164 := GW164; replace HB := bp_ hb; clear hb hg; have bz15 := bc4_ BK164) | ((with_reducible refine gf_ 114 rfl ?_); refine gl_ (some 15) Tryz.func114 #[.agg #[.int .i64 ((aI l0 x10_1).f0), .int .i64 ((aI l0 x10_1).f1), .int .i64 ((aI l0 x10_1).f2), .int .i64 ((aI l0 x10_1).f3)]] ?_; refine (eY.calls ((aI l0 x10_1).f0) ((aI l0 x10_1).f1) ((aI l0 x10_1).f2) ((aI l0 x10_1).f3) true _ (gw_ HG.out) A6.out).mono ?_; rintro e w16 ⟨rfl, hb⟩; refine ⟨_, rfl, ?_⟩; replace BK164 := am_ (blk_below (g := gb164) (o := .cells #[.int .i64 ((aI l0 x10_1).f0), .int .i64 ((aI l0 x10_1).f1), .int .i64 ((aI l0 x10_1).f2), .int .i64 ((aI l0 x10_1).f3)] 44 (0, 0)) (bw_ BK164) hb); replace HB := bp_ hb; (try clear hb); have bz17 := bc4_ BK164))
     go_ret
     exact ⟨er_, bl_⟩
   rw [if_neg c13] at H
   have c13b0 := decide_eq_false c13
   clear c13
   replace H := am_ H
   have p163 := pt_ x10_1
   have q163 := qt_ x10_1 l0.length
   obtain ⟨ad163, e163, hx163_0, hx163_1, hx163_2, hx163_3⟩ := dS HR0.out x10_1 (oe_ p163) (oe_ q163)
   cases e163
   replace hx163_0 := ce_ HB hx163_0
   replace hx163_1 := ce_ HB hx163_1
   replace hx163_2 := ce_ HB hx163_2
   replace hx163_3 := ce_ HB hx163_3
   go_wp2_with (first | ((with_reducible refine gn_ 4 rfl ?_); refine bq_ (N := 4) (cs := #[.int .i64 0, .int .i64 0, .int .i64 0, .int .i64 0]) (t := 44) ?_; intro gb164 hg w18 BK164 hb; have GW164 := ga_ w hg; have GE164 := GW164; replace HB := bp_ hb; clear hb hg; have bz19 := bc4_ BK164) | ((with_reducible refine gf_ 114 rfl ?_); refine gl_ (some 15) Tryz.func114 #[.agg #[.int .i64 ((aI l0 x10_1).f0), .int .i64 ((aI l0 x10_1).f1), .int .i64 ((aI l0 x10_1).f2), .int .i64 ((aI l0 x10_1).f3)]] ?_; refine (eY.calls ((aI l0 x10_1).f0) ((aI l0 x10_1).f1) ((aI l0 x10_1).f2) ((aI l0 x10_1).f3) true _ (gw_ HG.out) A6.out).mono ?_; rintro e w20 ⟨rfl, hb⟩; refine ⟨_, rfl, ?_⟩; replace BK164 := am_ (blk_below (g := gb164) (o := .cells #[.int .i64 ((aI l0 x10_1).f0), .int .i64 ((aI l0 x10_1).f1), .int .i64 ((aI l0 x10_1).f2), .int .i64 ((aI l0 x10_1).f3)] 44 (0, 0)) (bw_ BK164) hb); replace HB := bp_ hb; (try clear hb); have bz21 := bc4_ BK164))
   go_roundg k1
   case measure => have := HK1.out; omega
   case rel => exact ⟨(wrap64 (x10_1 + 1)), ra_, H, ⟨by have := HK1.out; omega⟩, ⟨bl_⟩⟩
def dP.l0 : Nat → List (S44) → List (S44) → Int → Int → Option (Bool)
 | 0, _, _, _, _ => none
 | k + 1, x0, x1, x12, x13 => if x13 < x12 then (if 0 ≤ x13 then (if x13 < (x0.length : Int) then (if x13 < (x1.length : Int) then (if (!(((aI x0 x13).f0) == ((aI x1 x13).f0)) || (!(((aI x0 x13).f1) == ((aI x1 x13).f1)) || (!(((aI x0 x13).f2) == ((aI x1 x13).f2)) || (!(((aI x0 x13).f3) == ((aI x1 x13).f3)))))) = true then (some false) else (dP.l0 k x0 x1 x12 (wrap64 (x13 + 1)))) else (none)) else (none)) else (none)) else (some true)
def dP.f (k : Nat) (l0 : List (S44)) (l1 : List (S44)) : Option (Bool) := if (l0.length : Int) = (l1.length : Int) then (dP.l0 k l0 l1 (l0.length : Int) 0) else (some false)
theorem dP.calls (k : Nat) (A0 : Option Addr) (c0 : Nat) (l0 : List (S44)) (A1 : Option Addr) (c1 : Nat) (l1 : List (S44)) (r : Bool) (w : World) (hG : Tryz.GW w) (hr0 : Kd.C k44 w A0 l0.length l0) (hc0 : l0.length ≤ c0) (hr1 : Kd.C k44 w A1 l1.length l1) (hc1 : l1.length ≤ c1) (h : dP.f k l0 l1 = some r) :
 Calls Tryz.prog 68 #[.slice A0 l0.length c0, .slice A1 l1.length c1] w fun e w' => e = .returned (.bool r) ∧ Drawn0 w w' := by
 have hu44 := Tryz.underlying44
 have HR0 := am_ hr0
 have HC0 := am_ hc0
 clear hr0 hc0
 have HR1 := am_ hr1
 have HC1 := am_ hc1
 clear hr1 hc1
 have HG := am_ hG
 clear hG
 have H : (if (l0.length : Int) = (l1.length : Int) then (dP.l0 k l0 l1 (l0.length : Int) 0) else (some false)) = some r := h
 clear h
 by_cases c3 : (l0.length : Int) = (l1.length : Int)
 rotate_left
 · rw [if_neg c3] at H
   have c3b0 : ((l0.length : Int) == (l1.length : Int)) = false := beq_eq_false_iff_ne.mpr c3
   have c3b1 : ((l0.length : Int) != (l1.length : Int)) = true := bne_iff_ne.mpr c3
   have c3b2 : (l0.length == l1.length) = false := by first | simpa using c3 | (simp at c3 ⊢; omega)
   obtain rfl := sj_ H
   go_enter Tryz.func68, Tryz.ntmps68
   go_wp2
   repeat (go_quiet (fail); try go_wp2)
   go_ret
   exact ⟨ra_, dr_⟩
 rw [if_pos c3] at H
 have c3b0 : ((l0.length : Int) == (l1.length : Int)) = true := beq_iff_eq.mpr c3
 have c3b1 : ((l0.length : Int) != (l1.length : Int)) = false := bne_eq_false_iff_eq.mpr c3
 have c3b2 : (l0.length == l1.length) = true := by first | simpa using c3 | (simp at c3 ⊢; omega)
 clear c3
 replace H := am_ H
 go_enter Tryz.func68, Tryz.ntmps68
 go_wp2
 repeat (go_quiet (fail); try go_wp2)
 go_loopg [13] k (fun kq v13 w' => ∃ (x13_1 : Int), v13 = .int .i64 x13_1 ∧ Aside0 (dP.l0 kq l0 l1 (l0.length : Int) x13_1 = some r) ∧ Aside0 (kq ≤ k) ∧ Drawn0 w w')
 case atStart => exact ⟨(0), ra_, H, ⟨Nat.le_refl _⟩, dr_⟩
 case round =>
  clear H
  try clear c1
  try clear p2
  try clear c3
  try clear c3b0
  try clear c3b1
  try clear c3b2
  obtain ⟨x13_1, rfl, HA, HK1, ⟨m1, rfl⟩⟩ := hrel
  cases gk with
  | zero => exact absurd HA.out (by simp [dP.l0])
  | succ k1 =>
   have H := HA.out
   clear HA
   simp only [dP.l0] at H
   by_cases c4 : x13_1 < (l0.length : Int)
   rotate_left
   · rw [if_neg c4] at H
     have c4b0 := decide_eq_false c4
     clear c4
     obtain rfl := sj_ H
     go_wp2
     repeat (go_quiet (fail); try go_wp2)
     go_ret
     exact ⟨ra_, dr_⟩
   rw [if_pos c4] at H
   have c4b0 := decide_eq_true c4
   clear c4
   obtain ⟨c5b0, H⟩ := ifd_ H
   obtain ⟨c6b0, H⟩ := ifd_ H
   obtain ⟨c7b0, H⟩ := ifd_ H
   by_cases c8 : (!(((aI l0 x13_1).f0) == ((aI l1 x13_1).f0)) || (!(((aI l0 x13_1).f1) == ((aI l1 x13_1).f1)) || (!(((aI l0 x13_1).f2) == ((aI l1 x13_1).f2)) || (!(((aI l0 x13_1).f3) == ((aI l1 x13_1).f3)))))) = true
   · rw [if_pos c8] at H
     have c8b0 : (!(((aI l0 x13_1).f0) == ((aI l1 x13_1).f0)) || (!(((aI l0 x13_1).f1) == ((aI l1 x13_1).f1)) || (!(((aI l0 x13_1).f2) == ((aI l1 x13_1).f2)) || (!(((aI l0 x13_1).f3) == ((aI l1 x13_1).f3)))))) = true := c8
     clear c8
     obtain rfl := sj_ H
     have p166 := pt_ x13_1
     have q166 := qt_ x13_1 l0.length
     obtain ⟨ad166, e166, hx166_0, hx166_1, hx166_2, hx166_3⟩ := dS HR0.out x13_1 (oe_ p166) (oe_ q166)
     cases e166
     have p167 := pt_ x13_1
     have q167 := qt_ x13_1 l1.length
     obtain ⟨ad167, e167, hx167_0, hx167_1, hx167_2, hx167_3⟩ := dS HR1.out x13_1 (oe_ p167) (oe_ q167)
     cases e167
     go_wp2
     repeat (go_quiet (fail); try go_wp2)
     go_ret
     exact ⟨ra_, dr_⟩
   rw [if_neg c8] at H
   have c8b0 : (!(((aI l0 x13_1).f0) == ((aI l1 x13_1).f0)) || (!(((aI l0 x13_1).f1) == ((aI l1 x13_1).f1)) || (!(((aI l0 x13_1).f2) == ((aI l1 x13_1).f2)) || (!(((aI l0 x13_1).f3) == ((aI l1 x13_1).f3)))))) = false := by simpa using c8
   clear c8
   replace H := am_ H
   have p166 := pt_ x13_1
   have q166 := qt_ x13_1 l0.length
   obtain ⟨ad166, e166, hx166_0, hx166_1, hx166_2, hx166_3⟩ := dS HR0.out x13_1 (oe_ p166) (oe_ q166)
   cases e166
   have p167 := pt_ x13_1
   have q167 := qt_ x13_1 l1.length
   obtain ⟨ad167, e167, hx167_0, hx167_1, hx167_2, hx167_3⟩ := dS HR1.out x13_1 (oe_ p167) (oe_ q167)
   cases e167
   go_wp2
   repeat (go_quiet (fail); try go_wp2)
   go_roundg k1
   case measure => have := HK1.out; omega
   case rel => exact ⟨(wrap64 (x13_1 + 1)), ra_, H, ⟨by have := HK1.out; omega⟩, dr_⟩
end Go.Proofs.YthkeonbmgcphkaaGreatDoor.PM
