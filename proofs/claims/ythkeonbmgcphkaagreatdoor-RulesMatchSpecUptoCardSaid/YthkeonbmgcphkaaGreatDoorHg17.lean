import Derived.Test.YthkeonbmgcphkaaGreatDoorHg6
import Derived.Test.YthkeonbmgcphkaaGreatDoorHg16
import Derived.Test.YthkeonbmgcphkaaGreatDoorHg13
import Derived.Lib.SplitLaws
import Derived.Test.YthkeonbmgcphkaaGreatDoorHg14
namespace Go.Proofs.YthkeonbmgcphkaaGreatDoor.PM
open Go.RowKit Go.Proofs.YthkeonbmgcphkaaGreatDoorW.PrintWords Go.Proofs.YthkeonbmgcphkaaGreatDoorW.PrintLast Go.Proofs.YthkeonbmgcphkaaGreatDoorW.PrintMore
attribute [local go_sem] max2_int min2_int max_two min_two max_three min_three max_four min_four
set_option linter.unusedVariables false
set_option maxHeartbeats 8000000
set_option maxRecDepth 100000
set_option linter.unusedSimpArgs false
def dR.f (k : Nat)  : Option (Bool) := (aA.f k 0 5 0 0 0 ([] : List (S66)) ([] : List (S68))).bind fun bt360 => (if bt360.2 = 0 then (some (bt360.1.toList == ([114, 117, 108, 101, 115, 32, 48, 32, 53, 32, 48, 32, 48, 32, 48, 10] : List UInt8))) else (some false))
theorem dR.calls (k : Nat)  (r : Bool) (w : World) (hG : Tryz.GW w) (h : dR.f k  = some r) :
 Calls Tryz.prog 14 #[] w fun e w' => e = .returned (.bool r) ∧ Below w.heap.size w w' := by
 have hu25 := Tryz.underlying25
 have HG := am_ hG
 clear hG
 have HB := am_ (Below.refl w.heap.size w)
 have H : ((aA.f k 0 5 0 0 0 ([] : List (S66)) ([] : List (S68))).bind fun bt360 => (if bt360.2 = 0 then (some (bt360.1.toList == ([114, 117, 108, 101, 115, 32, 48, 32, 53, 32, 48, 32, 48, 32, 48, 10] : List UInt8))) else (some false))) = some r := h
 clear h
 obtain ⟨⟨t360, t361⟩, A1, H⟩ := bs_ H
 by_cases c2 : t361 = 0
 · rw [if_pos c2] at H
   have c2b0 : (t361 == 0) = true := beq_iff_eq.mpr c2
   have c2b1 : (t361 != 0) = false := bne_eq_false_iff_eq.mpr c2
   clear c2
   obtain rfl := sj_ H
   go_enter Tryz.func14, Tryz.ntmps14
   go_wp2_with (first | ((with_reducible refine gf_ 10 rfl ?_); refine gl_ (some 5) Tryz.func10 #[.agg #[.int .i64 0, .int .i64 5, .int .i64 0, .int .i64 0, .int .i64 0, .slice none 0 0, .slice none 0 0]] ?_; (refine (aA.calls k 0 5 0 0 0 _ _ ([] : List (S66)) _ _ ([] : List (S68)) t360 t361 _ ?s1 ?s2 ?s3 ?s4 ?s5 A1.out).mono ?_); (case s1 => exact gw_ HG.out); (case s2 => exact Kd.C_nil _ _); (case s3 => exact Nat.le_refl _); (case s4 => exact Kd.C_nil _ _); (case s5 => exact Nat.le_refl _); rintro e w3 ⟨rfl, hb⟩; refine ⟨_, rfl, ?_⟩; replace HB := bp_ hb; (try clear hb)))
   go_ret
   exact ⟨er_, bl_⟩
 rw [if_neg c2] at H
 have c2b0 : (t361 == 0) = false := beq_eq_false_iff_ne.mpr c2
 have c2b1 : (t361 != 0) = true := bne_iff_ne.mpr c2
 obtain rfl := sj_ H
 go_enter Tryz.func14, Tryz.ntmps14
 go_wp2_with (first | ((with_reducible refine gf_ 10 rfl ?_); refine gl_ (some 5) Tryz.func10 #[.agg #[.int .i64 0, .int .i64 5, .int .i64 0, .int .i64 0, .int .i64 0, .slice none 0 0, .slice none 0 0]] ?_; (refine (aA.calls k 0 5 0 0 0 _ _ ([] : List (S66)) _ _ ([] : List (S68)) t360 t361 _ ?s1 ?s2 ?s3 ?s4 ?s5 A1.out).mono ?_); (case s1 => exact gw_ HG.out); (case s2 => exact Kd.C_nil _ _); (case s3 => exact Nat.le_refl _); (case s4 => exact Kd.C_nil _ _); (case s5 => exact Nat.le_refl _); rintro e w4 ⟨rfl, hb⟩; refine ⟨_, rfl, ?_⟩; replace HB := bp_ hb; (try clear hb)))
 go_ret
 exact ⟨er_, bl_⟩
end Go.Proofs.YthkeonbmgcphkaaGreatDoor.PM
namespace Go.Proofs.YthkeonbmgcphkaaGreatDoorPlain
open Go.RowKit Go.Proofs.YthkeonbmgcphkaaGreatDoor.PM Go.Proofs.YthkeonbmgcphkaaGreatDoorW.PrintWords
set_option linter.unusedVariables false
set_option linter.unusedSimpArgs false
def Tot {α : Type} (f : Nat → Option α) (Q : α → Prop) : Prop := ∃ K r, (∀ k, K ≤ k → f k = some r) ∧ Q r
theorem Tot.pure {α : Type} {Q : α → Prop} (r : α) (h : Q r) : Tot (fun _ => some r) Q := ⟨0, r, fun _ _ => rfl, h⟩
theorem Tot.bind {α β : Type} {f : Nat → Option α} {g : α → Nat → Option β} {Q : α → Prop} {R : β → Prop} (h : Tot f Q) (hg : ∀ r, Q r → Tot (g r) R) : Tot (fun k => (f k).bind fun r => g r k) R := by
  obtain ⟨K, r, hk, hq⟩ := h
  obtain ⟨K', r', hk', hr⟩ := hg r hq
  refine ⟨max K K', r', fun k h => ?_, hr⟩
  show (f k).bind _ = _
  rw [hk k (by omega)]
  exact hk' k (by omega)
theorem Tot.imp {α : Type} {f : Nat → Option α} {Q R : α → Prop} (h : Tot f Q) (hq : ∀ r, Q r → R r) : Tot f R := by
  obtain ⟨K, r, h1, h2⟩ := h
  exact ⟨K, r, h1, hq r h2⟩
theorem Tot.of {α : Type} {f g : Nat → Option α} {Q : α → Prop} (h : Tot g Q) (e : ∀ k, f k = g k) : Tot f Q := by
  obtain ⟨K, r, h1, h2⟩ := h
  exact ⟨K, r, fun k hk => (e k).trans (h1 k hk), h2⟩
theorem Tot.succ {α : Type} {f g : Nat → Option α} {Q : α → Prop} (h : Tot g Q) (e : ∀ k, f (k + 1) = g k) : Tot f Q := by
  obtain ⟨K, r, h1, h2⟩ := h
  refine ⟨K + 1, r, fun k hk => ?_, h2⟩
  obtain ⟨k, rfl⟩ : ∃ m, k = m + 1 := ⟨k - 1, by omega⟩
  exact (e k).trans (h1 k (by omega))
theorem Tot.ite {α : Type} {c : Prop} [Decidable c] {f g : Nat → Option α} {Q : α → Prop} (h1 : c → Tot f Q) (h2 : ¬ c → Tot g Q) : Tot (fun k => if c then f k else g k) Q := by
  by_cases h : c
  · exact (h1 h).of fun k => if_pos h
  · exact (h2 h).of fun k => if_neg h
theorem gV {α σ : Type} {F : Nat → σ → Nat → Option α} {n : Nat} {Q : σ → Nat → α → Prop} (step : ∀ s j, j < n → (∀ s', Tot (fun k => F k s' (j + 1)) (Q s' (j + 1))) → Tot (fun k => F (k + 1) s j) (Q s j)) (last : ∀ s, Tot (fun k => F (k + 1) s n) (Q s n)) :
    ∀ d s j, j + d = n → Tot (fun k => F k s j) (Q s j) := by
  intro d
  induction d with
  | zero =>
    intro s j hj
    obtain rfl : j = n := by omega
    exact (last s).succ fun k => rfl
  | succ d ih =>
    intro s j hj
    exact (step s j (by omega) fun s' => ih s' (j + 1) (by omega)).succ fun k => rfl
theorem w1 {j n : Nat} (h : j < n) (hn : n ≤ 9223372036854775807) : wrap64 ((j : Int) + 1) = ((j + 1 : Nat) : Int) := by rw [w64 (by omega) (by omega)]; omega
theorem kR (sep : ByteArray) (save : Nat) : ∀ (k : Nat) (s x : ByteArray), x ∈ Lib.splitB sep save k s → x.size ≤ s.size
  | 0, s, x, h => by
    rw [Lib.splitB_zero, List.mem_singleton] at h
    rw [h]
    exact Nat.le_refl _
  | k + 1, s, x, h => by
    unfold Lib.splitB at h
    split at h
    · rw [List.mem_singleton] at h
      rw [h]
      exact Nat.le_refl _
    · rcases List.mem_cons.1 h with rfl | h
      · rw [ByteArray.size_extract]; omega
      · have := kR sep save k _ x h
        rw [ByteArray.size_extract] at this
        omega
theorem kU (n : Int) : dN.f n = some (decide (0 ≤ n) && decide (n ≤ 100000)) := by
  unfold dN.f dQ.f
  by_cases h0 : 0 ≤ n
  · rw [if_pos h0]; simp [h0]
  · rw [if_neg h0]; simp [h0]
theorem within_some (a b c : Int) : dQ.f a b c = some (decide (b ≤ a) && decide (a ≤ c)) := by
  unfold dQ.f
  by_cases h0 : b ≤ a
  · rw [if_pos h0]; simp [h0]
  · rw [if_neg h0]; simp [h0]
theorem isAt_some (n : Int) : dO.f n = some (decide (-1000000 ≤ n) && decide (n ≤ 1000000)) := by
  unfold dO.f fQ.f
  by_cases h0 : n ≥ -1000000
  · rw [if_pos h0]; simp [h0]
  · rw [if_neg h0]; simp [h0]
theorem isRect_some (a b c d : Int) : eY.f a b c d = some ((decide (-1000000 ≤ a) && decide (a ≤ 1000000)) && ((decide (-1000000 ≤ b) && decide (b ≤ 1000000)) && ((decide (-1000000 ≤ c) && decide (c ≤ 1000000)) && (decide (-1000000 ≤ d) && decide (d ≤ 1000000))))) := by
  unfold eY.f
  simp only [isAt_some, Option.bind_some]
  cases (decide (-1000000 ≤ a) && decide (a ≤ 1000000)) <;> cases (decide (-1000000 ≤ b) && decide (b ≤ 1000000)) <;> cases (decide (-1000000 ≤ c) && decide (c ≤ 1000000)) <;> simp
theorem setL_same : ∀ k l ys kk next now out, aJ.l0 k l ys kk next now out = setL bG.f dH.f k l ys kk next now out
  | 0, _, _, _, _, _, _ => rfl
  | k + 1, l, ys, kk, next, now, out => by
    simp only [aJ.l0, setL, setL_same k]
    rfl
theorem setOf_tot (l : List S44) (hg : ∀ r ∈ l, GoodR r) (hl : l.length ≤ 1000000000) : Tot (fun k => aJ.f k l) fun s => Shape s (covR l) ∧ s.length ≤ 2 * l.length ∧ ∀ b ∈ s, b.f2.length ≤ 2 * l.length := by
  unfold aJ.f
  obtain ⟨l', h1, h2, h3⟩ := sortY_some l (fun r hr => by have h := hg r hr; have := h.b1; have := h.b3; have := h.y; omega) hl
  have hlen := h2.length_eq
  obtain ⟨hi, hm⟩ := heightsP_spec l'
  obtain ⟨K, s, hk, hs, hsl, hsb⟩ := setL_shape helps l' (fun r hr => hg r (h2.mem_iff.1 hr)) (by omega) h3 (kE l') hi hm (by have := kG l'; omega)
  refine ⟨K, s, fun k hkk => ?_, ?_, by have := kG l'; omega, fun b hb => by have := hsb b hb; omega⟩
  · dsimp only
    rw [if_pos hl, h1]
    simp only [Option.bind_some, setL_same]
    exact hk k hkk
  · have : covR l' = covR l := by
      funext y x
      unfold covR
      rw [Bool.eq_iff_iff, List.any_eq_true, List.any_eq_true]
      constructor
      · rintro ⟨r, hr, h⟩; exact ⟨r, h2.mem_iff.1 hr, h⟩
      · rintro ⟨r, hr, h⟩; exact ⟨r, h2.mem_iff.2 hr, h⟩
    rw [← this]
    exact hs
theorem rects_l1 (s : List S118) (m j : Int) (y0 y1 : Int) (xs : List Int) (hx : xs.length ≤ 4000000000) : ∀ (d k i : Nat) (out : List S44), i + 2 * d = xs.length → out.length + d ≤ 4000000000000 →
    bT.l1 (k + d + 1) out (i : Int) s m j y0 y1 xs = bT.l0 k (out ++ gU y0 y1 (xs.drop i)) s m (wrap64 (j + 1)) := by
  intro d
  induction d with
  | zero =>
    intro k i out hi ho
    rw [bT.l1, if_neg (by omega), List.drop_of_length_le (by omega)]
    simp [gU]
  | succ d ih =>
    intro k i out hi ho
    have e1 : wrap64 ((i : Int) + 1) = ((i + 1 : Nat) : Int) := by rw [w64 (by omega) (by omega)]; omega
    have e2 : wrap64 ((i : Int) + 2) = ((i + 2 : Nat) : Int) := by rw [w64 (by omega) (by omega)]; omega
    rw [show k + (d + 1) + 1 = (k + d + 1) + 1 by omega, bT.l1, if_pos (by omega), if_pos (by omega), e1, if_pos (by omega), if_pos (by omega), if_pos (by omega), e2, ih k (i + 2) _ (by omega) (by rw [List.length_append]; simp; omega), iJ xs i (by omega), iJ xs (i + 1) (by omega)]
    rw [List.drop_eq_getElem_cons (show i < xs.length by omega), List.drop_eq_getElem_cons (show i + 1 < xs.length by omega)]
    simp [gU]
theorem jB (n : Nat) : ∀ (s : List S118), (∀ b ∈ s, b.f2.length ≤ 2 * n) → (dZ s).length ≤ s.length * n
  | [], _ => Nat.zero_le _
  | b :: s, h => by
    have h1 := jB n s fun c hc => h c (List.mem_cons_of_mem _ hc)
    have h2 := h b (List.mem_cons_self ..)
    have e : dZ (b :: s) = gU b.f0 b.f1 b.f2 ++ dZ s := by simp [dZ]
    rw [e, List.length_append, iR _ _ _ _ rfl, List.length_cons, Nat.succ_mul]
    omega
theorem rects_tot (s : List S118) (hc : ∀ b ∈ s, b.f2.length % 2 = 0) (hs : s.length ≤ 4000000000) (hb : ∀ b ∈ s, b.f2.length ≤ 4000000000) (hr : (dZ s).length ≤ 4000000000000) : Tot (fun k => bT.f k s) fun r => r = dZ s := by
  unfold bT.f
  have key : ∀ (d j : Nat) (out : List S44), j + d = s.length → out.length + (dZ (s.drop j)).length ≤ 4000000000000 → Tot (fun k => bT.l0 k out s (s.length : Int) (j : Int)) fun r => r = out ++ dZ (s.drop j) := by
    intro d
    induction d with
    | zero =>
      intro j out hj ho
      refine Tot.succ (Tot.pure (out ++ dZ (s.drop j)) rfl) fun k => ?_
      rw [bT.l0, if_neg (by omega), List.drop_of_length_le (by omega)]
      simp [dZ]
    | succ d ih =>
      intro j out hj ho
      have hjs : j < s.length := by omega
      have hm := List.getElem_mem hjs
      have he := hc _ hm
      have hl := hb _ hm
      have hsp : dZ (s.drop j) = gU s[j].f0 s[j].f1 s[j].f2 ++ dZ (s.drop (j + 1)) := by rw [List.drop_eq_getElem_cons hjs]; simp only [dZ, List.flatMap_cons]
      have hsl : (dZ (s.drop j)).length = s[j].f2.length / 2 + (dZ (s.drop (j + 1))).length := by rw [hsp, List.length_append, iR _ _ _ _ rfl]
      obtain ⟨K, r, hk, hr⟩ := ih (j + 1) (out ++ gU s[j].f0 s[j].f1 s[j].f2) (by omega) (by
        rw [List.length_append, iR _ _ _ _ rfl]; omega)
      refine ⟨K + s[j].f2.length / 2 + 2, r, fun k hkk => ?_, ?_⟩
      · obtain ⟨k, rfl⟩ : ∃ m, k = (m + s[j].f2.length / 2 + 1) + 1 := ⟨k - s[j].f2.length / 2 - 2, by omega⟩
        dsimp only
        rw [bT.l0, if_pos (by omega), if_pos (by omega), if_pos (by omega), rdT118 hjs]
        have h1 := rects_l1 s (s.length : Int) (j : Int) s[j].f0 s[j].f1 s[j].f2 hl (s[j].f2.length / 2) k 0 out (by omega) (by omega)
        rw [show ((0 : Nat) : Int) = 0 from rfl, List.drop_zero] at h1
        rw [h1, w1 hjs (by omega)]
        exact hk k (by omega)
      · rw [hr, List.drop_eq_getElem_cons hjs]
        simp only [dZ, List.flatMap_cons, List.append_assoc]
  have := key s.length 0 [] (by omega) (by simpa using hr)
  simpa using this
theorem equalR_tot (a b : List S44) (ha : a.length ≤ 9223372036854775807) : Tot (fun k => dP.f k a b) fun r => r = true ↔ a = b := by
  unfold dP.f
  refine Tot.ite (fun h => ?_) fun h => Tot.pure _ ?_
  · have hl : a.length = b.length := by omega
    have key := gV (α := Bool) (σ := Unit) (F := fun k _ j => dP.l0 k a b (a.length : Int) (j : Int)) (n := a.length) (Q := fun _ j r => r = true ↔ a.drop j = b.drop j) (fun _ j hj ih => ?_) (fun _ => ?_) a.length () 0 (by omega)
    · simpa using key
    · have hj2 : j < b.length := by omega
      simp only [dP.l0, w1 hj ha, jS hj, jS hj2]
      refine Tot.ite (fun _ => ?_) (fun _ => by exfalso; omega)
      refine Tot.ite (fun _ => ?_) (fun _ => by exfalso; omega)
      refine Tot.ite (fun _ => ?_) (fun _ => by exfalso; omega)
      refine Tot.ite (fun _ => ?_) (fun _ => by exfalso; omega)
      have hd : (a.drop j = b.drop j) ↔ (a[j] = b[j] ∧ a.drop (j + 1) = b.drop (j + 1)) := by rw [List.drop_eq_getElem_cons hj, List.drop_eq_getElem_cons hj2, List.cons.injEq]
      refine Tot.ite (fun hne => Tot.pure _ ?_) (fun heq => ?_)
      · refine ⟨fun h => by simp at h, fun e => ?_⟩
        have := (hd.1 e).1
        rw [this] at hne
        simp at hne
      · refine (ih ()).imp fun r hr => ?_
        have he : a[j] = b[j] := by
          simp only [Bool.or_eq_true, Bool.not_eq_true', beq_eq_false_iff_ne, ne_eq, not_or, Classical.not_not] at heq
          cases hA : a[j] with | mk p q r s => cases hB : b[j] with | mk p' q' r' s' => rw [hA, hB] at heq; simp only at heq; simp [heq]
        exact hr.trans ⟨fun h => hd.2 ⟨he, h⟩, fun h => (hd.1 h).2⟩
    · simp only [dP.l0]
      refine Tot.ite (fun _ => by exfalso; omega) (fun _ => Tot.pure _ ?_)
      rw [List.drop_length, List.drop_of_length_le (by omega)]
      simp
  · refine ⟨fun h => by simp at h, fun e => absurd (by rw [e]) h⟩
theorem awake_tot : Tot (fun k => dR.f k) fun r => r = true := by
  refine ⟨20, true, fun k hk => ?_, rfl⟩
  obtain ⟨m, rfl⟩ : ∃ m, k = m + 20 := ⟨k - 20, by omega⟩
  have h1 : bZ.f (m + 20) 0 5 0 0 0 [] [] = some 0 := by
    unfold bZ.f bF.f aW.f
    simp [aW.l0, eF.f, kU, rd, wrap64, aG.f, aG.l, bZ.l0]
  have h2 : aA.f (m + 20) 0 5 0 0 0 [] [] = some (⟨#[114, 117, 108, 101, 115, 32, 48, 32, 53, 32, 48, 32, 48, 32, 48, 10]⟩, 0) := by
    unfold aA.f
    rw [h1]
    simp only [Option.bind_some, if_true]
    have d0 : aA.num 0 = ⟨#[48]⟩ := by
      unfold aA.num Lib.itoa
      rw [if_neg (by decide), Lib.decDigits_one (by decide)]
      rfl
    have d5 : aA.num 5 = ⟨#[53]⟩ := by
      unfold aA.num Lib.itoa
      rw [if_neg (by decide), Lib.decDigits_one (by decide)]
      rfl
    have hl : aA.fG (aA.w1 0 5 0 0 0) = [114, 117, 108, 101, 115, 32, 48, 32, 53, 32, 48, 32, 48, 32, 48, 10] := by
      unfold aA.w1
      rw [d0, d5]
      rfl
    first
    | (rw [if_pos (by decide), hl]; rfl)
    | (rw [show aA.all 0 5 0 0 0 [] [] = [114, 117, 108, 101, 115, 32, 48, 32, 53, 32, 48, 32, 48, 32, 48, 10] from by (show (aA.fG (aA.w1 0 5 0 0 0) ++ []) ++ [] = _; rw [hl]; rfl), if_pos (by decide), if_pos (by simp), if_pos (by simp)]; rfl)
  show dR.f (m + 20) = _
  unfold dR.f
  rw [h2]
  simp only [Option.bind_some, if_true]
  rw [show ByteArray.toList ⟨#[114, 117, 108, 101, 115, 32, 48, 32, 53, 32, 48, 32, 48, 32, 48, 10]⟩ = [114, 117, 108, 101, 115, 32, 48, 32, 53, 32, 48, 32, 48, 32, 48, 10] from (Go.ByteArray.toList_eq _).trans rfl]
  rfl
end Go.Proofs.YthkeonbmgcphkaaGreatDoorPlain
namespace Go.Proofs.YthkeonbmgcphkaaGreatDoorPlain
open Go.RowKit Go.Proofs.YthkeonbmgcphkaaGreatDoor.PM Go.Proofs.YthkeonbmgcphkaaGreatDoorW.PrintWords
theorem rdT68 {l : List S68} {i : Nat} (h : i < l.length) : aV l (i : Int) = l[i] := by
  unfold aV
  rw [List.getD_eq_getElem?_getD, Int.toNat_natCast, List.getElem?_eq_getElem h, Option.getD_some]
theorem rdT66 {l : List S66} {i : Nat} (h : i < l.length) : aT l (i : Int) = l[i] := by
  unfold aT
  rw [List.getD_eq_getElem?_getD, Int.toNat_natCast, List.getElem?_eq_getElem h, Option.getD_some]
end Go.Proofs.YthkeonbmgcphkaaGreatDoorPlain
