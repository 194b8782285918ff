-- Written by this session's own programs (wip/tools).
import Derived.Test.YthkeonbmgcphkaaGreatDoorDBandsT
namespace Go.Proofs.YthkeonbmgcphkaaGreatDoorPlain
open Go.Proofs.YthkeonbmgcphkaaGreatDoor.PT Go.Proofs.YthkeonbmgcphkaaGreatDoorW.PrintWords
set_option linter.unusedVariables false
abbrev Bd := S118
abbrev Rc := S44
def endsB (s : List Bd) : List Int := s.flatMap fun b => [b.f0, b.f1]
def endsOver (s : List Bd) (y : Int) : Nat := (endsB s).countP fun v => decide (y < v)
def sumOver : List Bd → Int → Nat
  | [], _ => 0
  | b :: r, y => (if y < b.f1 then b.f2.length else 0) + sumOver r y
def sumXs : List Bd → Nat
  | [] => 0
  | b :: r => b.f2.length + sumXs r
theorem sumXs_append : ∀ (s t : List Bd), sumXs (s ++ t) = sumXs s + sumXs t
  | [], t => by simp [sumXs]
  | b :: s, t => by simp [sumXs, sumXs_append s t]; omega
theorem countP_lt {y v : Int} (h : y < v) : ∀ {l : List Int}, v ∈ l → (l.countP fun u => decide (v < u)) + 1 ≤ l.countP fun u => decide (y < u)
  | a :: l, hv => by
    rw [List.countP_cons, List.countP_cons]
    have h1 : (l.countP fun u => decide (v < u)) ≤ l.countP fun u => decide (y < u) := List.countP_mono_left fun u _ hu => by
      have := of_decide_eq_true hu
      exact decide_eq_true (by omega)
    rcases List.mem_cons.1 hv with rfl | hv
    · rw [if_neg (by simp), if_pos (decide_eq_true h)]
      omega
    · have h2 := countP_lt h hv
      by_cases c : v < a
      · rw [if_pos (decide_eq_true c), if_pos (decide_eq_true (by omega))]; omega
      · rw [if_neg (by simpa using c)]; omega
theorem endsOver_mono (s : List Bd) {y z : Int} (h : y ≤ z) : endsOver s z ≤ endsOver s y := List.countP_mono_left fun u _ hu => by
  have := of_decide_eq_true hu
  exact decide_eq_true (by omega)
theorem endsOver_le (s : List Bd) (y : Int) : endsOver s y ≤ 2 * s.length := by
  refine Nat.le_trans List.countP_le_length ?_
  unfold endsB
  induction s with
  | nil => simp
  | cons b s ih => simp at ih ⊢; omega
theorem sumOver_mono : ∀ (s : List Bd) {y z : Int}, y ≤ z → sumOver s z ≤ sumOver s y
  | [], _, _, _ => Nat.le_refl _
  | b :: s, y, z, h => by
    have := sumOver_mono s h
    rw [sumOver, sumOver]
    split <;> split <;> omega
theorem sumOver_le : ∀ (s : List Bd) (y : Int), sumOver s y ≤ sumXs s
  | [], _ => Nat.le_refl _
  | b :: s, y => by
    have := sumOver_le s y
    rw [sumOver, sumXs]
    split <;> omega
theorem dropW_mem {a : List Bd} {y : Int} : ∀ {c : Bd}, c ∈ dropW y a → c ∈ a := fun h => (List.dropWhile_sublist _).subset h
theorem dropW_ends (y z : Int) : ∀ (a : List Bd), endsOver (dropW y a) z ≤ endsOver a z
  | [] => Nat.le_refl _
  | b :: r => by
    unfold dropW
    rw [List.dropWhile_cons]
    split
    · refine Nat.le_trans (dropW_ends y z r) ?_
      unfold endsOver endsB
      rw [List.flatMap_cons, List.countP_append]
      omega
    · exact Nat.le_refl _
theorem dropW_sum (y z : Int) : ∀ (a : List Bd), sumOver (dropW y a) z ≤ sumOver a z
  | [] => Nat.le_refl _
  | b :: r => by
    unfold dropW
    rw [List.dropWhile_cons]
    split
    · refine Nat.le_trans (dropW_sum y z r) ?_
      rw [sumOver]
      omega
    · exact Nat.le_refl _
theorem mline_len (keep : Bool → Bool → Bool) : ∀ (n : Nat) (l m : List Int) (p q is : Bool), (mline keep n l m p q is).length ≤ l.length + m.length := by
  intro n
  induction n with
  | zero => intro l m p q is; simp [mline]
  | succ n ih =>
    intro l m p q is
    have key : ∀ (c : Prop) [Decidable c] (v : Int), (if c then [v] else []).length ≤ 1 := fun c _ v => by split <;> simp
    cases l with
    | nil =>
      cases m with
      | nil => simp [mline]
      | cons b m =>
        have := ih [] m p (!q) (keep p (!q))
        rw [mline, List.length_append]
        have := key ((keep p !q) != is) b
        simp only [List.length_cons, List.length_nil] at *
        omega
    | cons a l =>
      cases m with
      | nil =>
        have := ih l [] (!p) q (keep (!p) q)
        rw [mline, List.length_append]
        have := key ((keep (!p) q) != is) a
        simp only [List.length_cons, List.length_nil] at *
        omega
      | cons b m =>
        have h1 := ih l (b :: m) (!p) q (keep (!p) q)
        have h2 := ih (a :: l) m p (!q) (keep p (!q))
        have h3 := ih l m (!p) (!q) (keep (!p) (!q))
        have k1 := key ((keep (!p) q) != is) a
        have k2 := key ((keep p !q) != is) b
        have k3 := key ((keep (!p) !q) != is) a
        rw [mline]
        split
        · rw [List.length_append]; simp only [List.length_cons] at *; omega
        · split
          · rw [List.length_append]; simp only [List.length_cons] at *; omega
          · rw [List.length_append]; simp only [List.length_cons] at *; omega
theorem pushP_sum (s : List Bd) (b : Bd) : sumXs (pushP s b) ≤ sumXs s + b.f2.length := by
  unfold pushP
  split
  · omega
  · split
    · rename_i l hl
      split
      · rename_i e
        obtain ⟨p, rfl⟩ : ∃ p, s = p ++ [l] := by
          rcases List.eq_nil_or_concat s with rfl | ⟨p, c, rfl⟩
          · simp at hl
          · rw [List.concat_eq_append] at *
            rw [List.getLast?_concat] at hl
            exact ⟨p, by rw [Option.some.inj hl]⟩
        rw [List.dropLast_concat, sumXs_append, sumXs_append]
        simp only [sumXs]
        omega
      · rw [sumXs_append]
        simp [sumXs]
    · simp [sumXs]
theorem at_next {a : List Bd} {y e : Int} (hy : y < e) : (atP (dropW y a) y e).2 = e ∨ (atP (dropW y a) y e).2 ∈ endsB (dropW y a) := by
  cases hd : dropW y a with
  | nil => exact .inl rfl
  | cons b r =>
    have e0 : atP (b :: r) y e = if y < b.f0 then ([], min e b.f0) else (b.f2, min e b.f1) := rfl
    rw [e0]
    have m0 : b.f0 ∈ endsB (b :: r) := by simp [endsB]
    have m1 : b.f1 ∈ endsB (b :: r) := by simp [endsB]
    split
    · by_cases c : e ≤ b.f0
      · exact .inl (by simp only; omega)
      · exact .inr (by simp only; rwa [show min e b.f0 = b.f0 by omega])
    · by_cases c : e ≤ b.f1
      · exact .inl (by simp only; omega)
      · exact .inr (by simp only; rwa [show min e b.f1 = b.f1 by omega])
theorem at_gt {a : List Bd} {y e : Int} (hy : y < e) : y < (atP (dropW y a) y e).2 ∧ (atP (dropW y a) y e).2 ≤ e := by
  cases hd : dropW y a with
  | nil => exact ⟨hy, Int.le_refl _⟩
  | cons b r =>
    have hb := drop_head hd
    have e0 : atP (b :: r) y e = if y < b.f0 then ([], min e b.f0) else (b.f2, min e b.f1) := rfl
    rw [e0]
    split <;> exact ⟨by simp only; omega, by simp only; omega⟩
theorem at_len {a : List Bd} {y e : Int} {A : Nat} (h : ∀ c ∈ a, c.f2.length ≤ A) : (atP (dropW y a) y e).1.length ≤ A := by
  cases hd : dropW y a with
  | nil => exact Nat.zero_le _
  | cons b r =>
    have e0 : atP (b :: r) y e = if y < b.f0 then ([], min e b.f0) else (b.f2, min e b.f1) := rfl
    rw [e0]
    split
    · exact Nat.zero_le _
    · exact h b (dropW_mem (hd ▸ List.mem_cons_self))
theorem at_cost {a : List Bd} {y e nx : Int} (hn : nx ≤ (atP (dropW y a) y e).2) (hy : y < nx) (he : nx < e) :
    (atP (dropW y a) y e).1.length + sumOver (dropW y a) nx ≤ sumOver (dropW y a) y ∨ nx ≠ (atP (dropW y a) y e).2 := by
  cases hd : dropW y a with
  | nil => exact .inl (Nat.le_refl _)
  | cons b r =>
    rw [hd] at hn
    have hb := drop_head hd
    have e0 : atP (b :: r) y e = if y < b.f0 then ([], min e b.f0) else (b.f2, min e b.f1) := rfl
    rw [e0] at hn ⊢
    have hr := sumOver_mono r (Int.le_of_lt hy)
    by_cases c : y < b.f0
    · rw [if_pos c] at hn ⊢
      have := sumOver_mono (b :: r) (Int.le_of_lt hy)
      exact .inl (by simpa using this)
    · rw [if_neg c] at hn ⊢
      simp only at hn ⊢
      by_cases c2 : nx = min e b.f1
      · left
        rw [sumOver, sumOver, if_neg (by omega), if_pos hb]
        omega
      · exact .inr c2
theorem merge_size (keep : Bool → Bool → Bool) (e : Int) (A X : Nat) : ∀ (k : Nat) (a b : List Bd) (y : Int) (out r : List Bd), mergeL keep k a b y e out = some r → (∀ c ∈ a, c.f2.length ≤ A) → (∀ c ∈ b, c.f2.length ≤ X) →
    r.length ≤ out.length + (endsOver a y + endsOver b y + 1) ∧
    sumXs r ≤ sumXs out + (sumOver b y + (endsOver a y + 1) * X + (endsOver a y + endsOver b y + 1) * A) ∧ ((∀ c ∈ out, c.f2.length ≤ A + X) → ∀ c ∈ r, c.f2.length ≤ A + X) := by
  intro k
  induction k with
  | zero => intro a b y out r h; simp [mergeL] at h
  | succ k ih =>
    intro a b y out r h ha hb
    rw [mergeL] at h
    by_cases hlt : y < e
    · rw [if_pos hlt] at h
      have ga := at_gt (a := a) hlt
      have gb := at_gt (a := b) hlt
      have na := at_next (a := a) hlt
      have nb := at_next (a := b) hlt
      have la := at_len (y := y) (e := e) ha
      have lb := at_len (y := y) (e := e) hb
      have ca := fun nx => at_cost (a := b) (y := y) (e := e) (nx := nx)
      have hml := mline_len keep ((atP (dropW y a) y e).1.length + (atP (dropW y b) y e).1.length) (atP (dropW y a) y e).1 (atP (dropW y b) y e).1 false false false
      obtain ⟨xs, hxs⟩ : ∃ xs, mline keep ((atP (dropW y a) y e).1.length + (atP (dropW y b) y e).1.length) (atP (dropW y a) y e).1 (atP (dropW y b) y e).1 false false false = xs := ⟨_, rfl⟩
      rw [hxs] at h hml
      obtain ⟨nx, hnx⟩ : ∃ nx, min (atP (dropW y a) y e).2 (atP (dropW y b) y e).2 = nx := ⟨_, rfl⟩
      rw [hnx] at h
      have p1 := pushP_len out ⟨y, nx, xs⟩
      have p2 := pushP_sum out ⟨y, nx, xs⟩
      have p3 := fun n h => pushP_xs (s := out) (b := ⟨y, nx, xs⟩) (n := n) h
      have dA := dropW_ends y y a
      have dB := dropW_ends y y b
      have dS := dropW_sum y y b
      have hX : xs.length ≤ A + X := by omega
      simp only at p1 p2 p3
      by_cases hlast : e ≤ nx
      ·
        cases k with
        | zero => simp [mergeL] at h
        | succ k =>
          rw [mergeL, if_neg (by omega)] at h
          obtain rfl := Option.some.inj h
          refine ⟨by omega, ?_, fun ho => p3 _ ho hX⟩
          have e1 : (endsOver a y + 1) * X = endsOver a y * X + X := Nat.succ_mul _ _
          have e2 : (endsOver a y + endsOver b y + 1) * A = (endsOver a y + endsOver b y) * A + A := Nat.succ_mul _ _
          omega
      · obtain ⟨i1, i2, i3⟩ := ih _ _ _ _ _ h (fun c hc => ha c (dropW_mem hc)) (fun c hc => hb c (dropW_mem hc))
        have hy : y < nx := by omega
        have mA := endsOver_mono (dropW y a) (Int.le_of_lt hy)
        have mB := endsOver_mono (dropW y b) (Int.le_of_lt hy)
        have mS := sumOver_mono (dropW y b) (Int.le_of_lt hy)
        have sA : nx = (atP (dropW y a) y e).2 → endsOver (dropW y a) nx + 1 ≤ endsOver (dropW y a) y := fun hq => by
          rcases na with hz | hz
          · omega
          · rw [← hq] at hz; exact countP_lt hy hz
        have sB : nx = (atP (dropW y b) y e).2 → endsOver (dropW y b) nx + 1 ≤ endsOver (dropW y b) y := fun hq => by
          rcases nb with hz | hz
          · omega
          · rw [← hq] at hz; exact countP_lt hy hz
        have hsum : endsOver (dropW y a) nx + endsOver (dropW y b) nx + 1 ≤ endsOver a y + endsOver b y := by
          by_cases c : nx = (atP (dropW y a) y e).2
          · have := sA c; omega
          · have := sB (by omega); omega
        refine ⟨by omega, ?_, fun ho => i3 (p3 _ ho hX)⟩
        have e1 : (endsOver (dropW y a) nx + endsOver (dropW y b) nx + 1) * A + A ≤ (endsOver a y + endsOver b y + 1) * A := by
          have := Nat.mul_le_mul_right A (show endsOver (dropW y a) nx + endsOver (dropW y b) nx + 1 + 1 ≤ endsOver a y + endsOver b y + 1 by omega)
          rwa [Nat.succ_mul] at this
        rcases ca nx (by omega) hy (by omega) with hc | hc
        · have e2 := Nat.mul_le_mul_right X (show endsOver (dropW y a) nx + 1 ≤ endsOver a y + 1 by omega)
          omega
        · have hq := sA (by omega)
          have e2 : (endsOver (dropW y a) nx + 1) * X + X ≤ (endsOver a y + 1) * X := by
            have := Nat.mul_le_mul_right X (show endsOver (dropW y a) nx + 1 + 1 ≤ endsOver a y + 1 by omega)
            rwa [Nat.succ_mul] at this
          omega
    · rw [if_neg hlt] at h
      obtain rfl := Option.some.inj h
      exact ⟨by omega, by omega, fun ho => ho⟩
theorem rectsB_sum (y0 y1 : Int) (xs : List Int) (h : xs.length % 2 = 0) : 2 * (rectsB y0 y1 xs).length = xs.length := by rw [rectsB_length _ _ _ _ rfl]; omega
theorem rectsP_sum : ∀ {s : List Bd}, (∀ b ∈ s, b.f2.length % 2 = 0) → 2 * (rectsP s).length = sumXs s
  | [], _ => rfl
  | b :: s, h => by
    have h1 := rectsP_sum (s := s) fun c hc => h c (List.mem_cons_of_mem _ hc)
    have h2 := rectsB_sum b.f0 b.f1 b.f2 (h b List.mem_cons_self)
    have e : rectsP (b :: s) = rectsB b.f0 b.f1 b.f2 ++ rectsP s := by simp [rectsP]
    rw [e, List.length_append, sumXs]
    omega
theorem sumXs_mem : ∀ {s : List Bd} {b : Bd}, b ∈ s → b.f2.length ≤ sumXs s
  | c :: s, b, h => by
    rw [sumXs]
    rcases List.mem_cons.1 h with rfl | h
    · omega
    · have := sumXs_mem h; omega
theorem sumXs_len : ∀ {s : List Bd}, (∀ b ∈ s, 2 ≤ b.f2.length) → 2 * s.length ≤ sumXs s
  | [], _ => Nat.le_refl _
  | b :: s, h => by
    have h1 := sumXs_len (s := s) fun c hc => h c (List.mem_cons_of_mem _ hc)
    have h2 := h b List.mem_cons_self
    rw [sumXs, List.length_cons]
    omega
theorem OkB.two {b : Bd} (h : OkB b) : 2 ≤ b.f2.length := by
  have h1 := h.some
  have h2 := h.even
  have : 0 < b.f2.length := List.length_pos_iff.2 h1
  omega
theorem sumXs_bound {n : Nat} : ∀ {s : List Bd}, (∀ b ∈ s, b.f2.length ≤ n) → sumXs s ≤ s.length * n
  | [], _ => Nat.zero_le _
  | b :: s, h => by
    have h1 := sumXs_bound (s := s) fun c hc => h c (List.mem_cons_of_mem _ hc)
    have h2 := h b List.mem_cons_self
    rw [sumXs, List.length_cons, Nat.succ_mul]
    omega
theorem Shape.within {s : List Bd} {c : Int → Int → Bool} (h : Shape s c) {lo hi : Int} (hc : ∀ y x, c y x = true → lo ≤ x ∧ x < hi ∧ lo ≤ y ∧ y < hi) : ∀ r ∈ rectsP s, r.f0 < r.f2 ∧ r.f1 < r.f3 ∧ lo ≤ r.f0 ∧ lo ≤ r.f1 ∧ r.f2 ≤ hi ∧ r.f3 ≤ hi := by
  intro r hr
  obtain ⟨p1, p2⟩ := rectsP_pos h.can r hr
  have hin : ∀ y x, inR r y x = true → c y x = true := fun y x hyx => by
    rw [← h.cov, ← cov_rectsP h.can]
    exact List.any_eq_true.2 ⟨r, hr, hyx⟩
  have h1 := hc _ _ (hin r.f1 r.f0 (by unfold inR; simp only [Bool.and_eq_true, decide_eq_true_eq]; omega))
  have h2 := hc _ _ (hin (r.f3 - 1) (r.f2 - 1) (by unfold inR; simp only [Bool.and_eq_true, decide_eq_true_eq]; omega))
  omega
def spreadP (left right down up : Int) (l : List Rc) : List Rc := l.map fun r => ⟨r.f0 - left, r.f1 - down, r.f2 + right, r.f3 + up⟩
theorem cov_spread {left right down up : Int} (h0 : 0 ≤ left) (h1 : 0 ≤ right) (h2 : 0 ≤ down) (h3 : 0 ≤ up) {l : List Rc} (hp : ∀ r ∈ l, r.f0 < r.f2 ∧ r.f1 < r.f3) (y x : Int) :
    covR (spreadP left right down up l) y x = true ↔ ∃ y' x', covR l y' x' = true ∧ x' - left ≤ x ∧ x ≤ x' + right ∧ y' - down ≤ y ∧ y ≤ y' + up := by
  unfold covR spreadP
  rw [List.any_eq_true]
  constructor
  · rintro ⟨q, hq, hi⟩
    obtain ⟨r, hr, rfl⟩ := List.mem_map.1 hq
    obtain ⟨p1, p2⟩ := hp r hr
    unfold inR at hi
    simp only [Bool.and_eq_true, decide_eq_true_eq] at hi
    obtain ⟨x', hx'⟩ : ∃ x' : Int, r.f0 ≤ x' ∧ x' < r.f2 ∧ x' - left ≤ x ∧ x ≤ x' + right := by
      by_cases c : x < r.f0
      · exact ⟨r.f0, by omega⟩
      · by_cases c2 : x < r.f2
        · exact ⟨x, by omega⟩
        · exact ⟨r.f2 - 1, by omega⟩
    obtain ⟨y', hy'⟩ : ∃ y' : Int, r.f1 ≤ y' ∧ y' < r.f3 ∧ y' - down ≤ y ∧ y ≤ y' + up := by
      by_cases c : y < r.f1
      · exact ⟨r.f1, by omega⟩
      · by_cases c2 : y < r.f3
        · exact ⟨y, by omega⟩
        · exact ⟨r.f3 - 1, by omega⟩
    refine ⟨y', x', List.any_eq_true.2 ⟨r, hr, ?_⟩, by omega, by omega, by omega, by omega⟩
    unfold inR
    simp only [Bool.and_eq_true, decide_eq_true_eq]
    omega
  · rintro ⟨y', x', hc, hh⟩
    obtain ⟨r, hr, hi⟩ := List.any_eq_true.1 hc
    refine ⟨_, List.mem_map.2 ⟨r, hr, rfl⟩, ?_⟩
    unfold inR at hi ⊢
    simp only [Bool.and_eq_true, decide_eq_true_eq] at hi ⊢
    omega
def Deep (c : Int → Int → Bool) (left right down up : Int) (y x : Int) : Prop := ∀ y' x', x - left ≤ x' → x' ≤ x + right → y - down ≤ y' → y' ≤ y + up → c y' x' = true
def Broad (c : Int → Int → Bool) (w : Int) (y x : Int) : Prop := ∃ y0 x0, Deep c 0 (w - 1) 0 (w - 1) y0 x0 ∧ x0 ≤ x ∧ x ≤ x0 + (w - 1) ∧ y0 ≤ y ∧ y ≤ y0 + (w - 1)
theorem Broad.one {c : Int → Int → Bool} {y x : Int} (h : c y x = true) : Broad c 1 y x :=
  ⟨y, x, fun y' x' a b p q => by rw [show y' = y by omega, show x' = x by omega]; exact h, by omega, by omega, by omega, by omega⟩
end Go.Proofs.YthkeonbmgcphkaaGreatDoorPlain
