import Derived.Test.YthkeonbmgcphkaaGreatDoorHg6
import Derived.Lib.SlicesCompact
namespace Go.Proofs.YthkeonbmgcphkaaGreatDoorPlain
open Go.Proofs.YthkeonbmgcphkaaGreatDoor.PM Go.Proofs.YthkeonbmgcphkaaGreatDoorW.PrintWords
set_option linter.unusedVariables false
def tog : List Int → Int → Bool
  | [], _ => false
  | a :: r, x => (decide (a ≤ x)) != tog r x
abbrev Inc (l : List Int) : Prop := l.Pairwise (· < ·)
theorem tog_append (l m : List Int) (x : Int) : tog (l ++ m) x = (tog l x != tog m x) := by
  induction l with
  | nil => simp [tog]
  | cons a r ih => simp [tog, ih]
theorem iW {l : List Int} {x : Int} (h : ∀ a ∈ l, x < a) : tog l x = false := by
  induction l with
  | nil => rfl
  | cons a r ih =>
    have h1 := h a List.mem_cons_self
    simp [tog, ih (fun b hb => h b (List.mem_cons_of_mem _ hb))]
    omega
theorem tog_high {l : List Int} {x : Int} (h : ∀ a ∈ l, a ≤ x) : tog l x = decide (l.length % 2 = 1) := by
  induction l with
  | nil => rfl
  | cons a r ih =>
    have h1 := h a List.mem_cons_self
    have h2 := ih (fun b hb => h b (List.mem_cons_of_mem _ hb))
    simp only [tog, h2, h1, decide_true, List.length_cons]
    rcases Nat.mod_two_eq_zero_or_one r.length with e | e
    · have e' : (r.length + 1) % 2 = 1 := by omega
      simp [e, e']
    · have e' : (r.length + 1) % 2 = 0 := by omega
      simp [e, e']
theorem fK {a : Int} {r : List Int} (h : Inc (a :: r)) : ∀ b ∈ r, a < b := (List.pairwise_cons.1 h).1
theorem gZ {a : Int} {r : List Int} (h : Inc (a :: r)) : Inc r := (List.pairwise_cons.1 h).2
theorem tog_inj : ∀ (l m : List Int), Inc l → Inc m → (∀ x, tog l x = tog m x) → l = m
  | [], [], _, _, _ => rfl
  | [], b :: m, _, hm, h => by
    have := h b
    rw [tog, tog, iW (fK hm)] at this
    simp at this
  | a :: l, [], hl, _, h => by
    have := h a
    rw [tog, tog, iW (fK hl)] at this
    simp at this
  | a :: l, b :: m, hl, hm, h => by
    have hab : a = b := by
      have h1 := h a
      have h2 := h b
      rw [tog, tog, iW (fK hl)] at h1
      rw [tog, tog, iW (fK hm)] at h2
      by_cases c1 : a < b
      · rw [iW (fun c hc => Int.lt_trans c1 (fK hm c hc)), decide_eq_false (by omega : ¬ b ≤ a)] at h1
        simp at h1
      · by_cases c2 : b < a
        · rw [iW (fun c hc => Int.lt_trans c2 (fK hl c hc)), decide_eq_false (by omega : ¬ a ≤ b)] at h2
          simp at h2
        · omega
    subst hab
    congr 1
    refine tog_inj l m (gZ hl) (gZ hm) fun x => ?_
    have := h x
    simp only [tog] at this
    revert this
    cases decide (a ≤ x) <;> cases tog l x <;> cases tog m x <;> simp
structure OkB (b : S118) : Prop where
  lt : b.f0 < b.f1
  some : b.f2 ≠ []
  inc : Inc b.f2
  even : b.f2.length % 2 = 0
structure Can (s : List S118) : Prop where
  ok : ∀ b ∈ s, OkB b
  up : s.Pairwise fun b c => b.f1 ≤ c.f0
  link : ∀ p b c q, s = p ++ b :: c :: q → b.f1 = c.f0 → b.f2 ≠ c.f2
def rowAt : List S118 → Int → List Int
  | [], _ => []
  | b :: r, y => if b.f0 ≤ y ∧ y < b.f1 then b.f2 else rowAt r y
theorem gW {s : List S118} {y : Int} (h : ∀ b ∈ s, ¬ (b.f0 ≤ y ∧ y < b.f1)) : rowAt s y = [] := by
  induction s with
  | nil => rfl
  | cons a r ih =>
    rw [rowAt, if_neg (h a List.mem_cons_self)]
    exact ih fun b hb => h b (List.mem_cons_of_mem _ hb)
theorem jA {s t : List S118} {y : Int} (h : ∀ b ∈ s, ¬ (b.f0 ≤ y ∧ y < b.f1)) : rowAt (s ++ t) y = rowAt t y := by
  induction s with
  | nil => rfl
  | cons a r ih =>
    rw [List.cons_append, rowAt, if_neg (h a List.mem_cons_self)]
    exact ih fun b hb => h b (List.mem_cons_of_mem _ hb)
theorem jV {s t : List S118} {y : Int} (h : ∀ b ∈ t, ¬ (b.f0 ≤ y ∧ y < b.f1)) : rowAt (s ++ t) y = rowAt s y := by
  induction s with
  | nil => exact gW h
  | cons a r ih => rw [List.cons_append, rowAt, rowAt, ih]
theorem Can.nil : Can [] := ⟨fun _ h => by simp at h, List.Pairwise.nil, fun p b c q h => by simp at h⟩
theorem Can.tail {b : S118} {s : List S118} (h : Can (b :: s)) : Can s :=
  ⟨fun c hc => h.ok c (List.mem_cons_of_mem _ hc), (List.pairwise_cons.1 h.up).2, fun p c d q e => h.link (b :: p) c d q (by rw [e]; rfl)⟩
theorem Can.above {b : S118} {s : List S118} (h : Can (b :: s)) : ∀ c ∈ s, b.f1 ≤ c.f0 := (List.pairwise_cons.1 h.up).1
theorem Can.low {b : S118} {s : List S118} (h : Can (b :: s)) {y : Int} (hy : y < b.f0) : rowAt (b :: s) y = [] := gW fun c hc => by
  rcases List.mem_cons.1 hc with rfl | hc
  · omega
  · have := h.above c hc
    have := (h.ok b List.mem_cons_self).lt
    omega
theorem Can.rest {b : S118} {s : List S118} (h : Can (b :: s)) {y : Int} (hy : y < b.f1) : rowAt s y = [] := gW fun c hc => by
  have := h.above c hc
  omega
theorem Can.next {b : S118} {s : List S118} (h : Can (b :: s)) : rowAt s b.f1 ≠ b.f2 := by
  intro he
  cases s with
  | nil => exact (h.ok b List.mem_cons_self).some he.symm
  | cons c r =>
    by_cases hc : b.f1 = c.f0
    · have h2 := h.tail.ok c List.mem_cons_self
      rw [rowAt, if_pos ⟨by omega, by have := h2.lt; omega⟩] at he
      exact h.link [] b c r rfl hc he.symm
    · have h1 := h.above c List.mem_cons_self
      rw [h.tail.low (by omega)] at he
      exact (h.ok b List.mem_cons_self).some he.symm
theorem can_inj : ∀ (s t : List S118), Can s → Can t → (∀ y, rowAt s y = rowAt t y) → s = t
  | [], [], _, _, _ => rfl
  | b :: s, [], hs, _, h => by
    have hb := hs.ok b List.mem_cons_self
    have := h b.f0
    rw [rowAt, rowAt, if_pos ⟨Int.le_refl _, hb.lt⟩] at this
    exact absurd this hb.some
  | [], b :: s, _, hs, h => by
    have hb := hs.ok b List.mem_cons_self
    have := h b.f0
    rw [rowAt, rowAt, if_pos ⟨Int.le_refl _, hb.lt⟩] at this
    exact absurd this.symm hb.some
  | b :: s, c :: t, hs, ht, h => by
    have hb := hs.ok b List.mem_cons_self
    have hc := ht.ok c List.mem_cons_self
    have e0 : b.f0 = c.f0 := by
      by_cases h1 : b.f0 < c.f0
      · have := h b.f0
        rw [ht.low h1, rowAt, if_pos ⟨Int.le_refl _, hb.lt⟩] at this
        exact absurd this hb.some
      · by_cases h2 : c.f0 < b.f0
        · have := h c.f0
          rw [hs.low h2, rowAt, if_pos ⟨Int.le_refl _, hc.lt⟩] at this
          exact absurd this.symm hc.some
        · omega
    have e2 : b.f2 = c.f2 := by
      have := h b.f0
      rw [rowAt, if_pos ⟨Int.le_refl _, hb.lt⟩, rowAt, if_pos ⟨by omega, by have := hc.lt; omega⟩] at this
      exact this
    have e1 : b.f1 = c.f1 := by
      by_cases h1 : b.f1 < c.f1
      · have := h b.f1
        rw [rowAt, if_neg (by omega), rowAt, if_pos ⟨by have := hb.lt; omega, h1⟩] at this
        exact absurd (this.trans e2.symm) hs.next
      · by_cases h2 : c.f1 < b.f1
        · have := h c.f1
          rw [rowAt, if_pos ⟨by have := hc.lt; omega, h2⟩, rowAt, if_neg (by omega)] at this
          exact absurd (this.symm.trans e2) ht.next
        · omega
    have ebc : b = c := by cases b; cases c; simp only at e0 e1 e2; subst e0; subst e1; subst e2; rfl
    subst ebc
    rw [can_inj s t hs.tail ht.tail fun y => ?_]
    by_cases hy : y < b.f1
    · rw [hs.rest hy, ht.rest hy]
    · have := h y
      rw [rowAt, if_neg (by omega), rowAt, if_neg (by omega)] at this
      exact this
def iK (s : List S118) (b : S118) : List S118 :=
  if b.f2 = [] ∨ b.f1 ≤ b.f0 then s else
    match s.getLast? with
    | some l => if l.f1 = b.f0 ∧ l.f2 = b.f2 then s.dropLast ++ [⟨l.f0, b.f1, l.f2⟩] else s ++ [b]
    | none => [b]
structure jF (F : Int → List Int → Prop) (s : List S118) (y : Int) : Prop where
  can : Can s
  top : ∀ b ∈ s, b.f1 ≤ y
  row : ∀ z, z < y → F z (rowAt s z)
theorem jF.start {F : Int → List Int → Prop} {y : Int} (h : ∀ z, z < y → F z []) : jF F [] y := ⟨Can.nil, fun _ h => by simp at h, fun z hz => h z hz⟩
theorem jF.done {F : Int → List Int → Prop} {s : List S118} {y : Int} (h : jF F s y) (hF : ∀ z, y ≤ z → F z []) : ∀ z, F z (rowAt s z) := fun z => by
  by_cases hz : z < y
  · exact h.row z hz
  · rw [gW fun b hb => by have := h.top b hb; omega]
    exact hF z (by omega)
theorem Can.snoc {s : List S118} {b : S118} (h : Can s) (hb : OkB b) (htop : ∀ c ∈ s, c.f1 ≤ b.f0) (hl : ∀ p c, s = p ++ [c] → c.f1 = b.f0 → c.f2 ≠ b.f2) : Can (s ++ [b]) := by
  refine ⟨fun c hc => ?_, ?_, fun p c d q e => ?_⟩
  · rcases List.mem_append.1 hc with hc | hc
    · exact h.ok c hc
    · rw [List.mem_singleton.1 hc]; exact hb
  · rw [List.pairwise_append]
    exact ⟨h.up, List.pairwise_singleton _ _, fun c hc d hd => by rw [List.mem_singleton.1 hd]; exact htop c hc⟩
  · rcases List.eq_nil_or_concat q with rfl | ⟨q', x, rfl⟩
    · have e2 : s ++ [b] = (p ++ [c]) ++ [d] := by rw [e]; simp
      obtain ⟨e3, e4⟩ := List.append_inj' e2 rfl
      obtain rfl := List.singleton_inj.1 e4
      exact hl p c e3
    · have e2 : s ++ [b] = (p ++ c :: d :: q') ++ [x] := by rw [e]; simp
      obtain ⟨e3, _⟩ := List.append_inj' e2 rfl
      exact h.link p c d q' e3
theorem Can.init {s : List S118} {b : S118} (h : Can (s ++ [b])) : Can s :=
  ⟨fun c hc => h.ok c (List.mem_append_left _ hc), (List.pairwise_append.1 h.up).1, fun p c d q e => h.link p c d (q ++ [b]) (by rw [e]; simp)⟩
theorem jF.step {F : Int → List Int → Prop} {s : List S118} {y y' : Int} {xs : List Int} (h : jF F s y) (hy : y ≤ y') (hx : ∀ z, y ≤ z → z < y' → F z xs) (hi : Inc xs) (he : xs.length % 2 = 0) : jF F (iK s ⟨y, y', xs⟩) y' := by
  unfold iK
  by_cases h0 : xs = [] ∨ y' ≤ y
  · rw [if_pos h0]
    refine ⟨h.can, fun b hb => Int.le_trans (h.top b hb) hy, fun z hz => ?_⟩
    by_cases hzy : z < y
    · exact h.row z hzy
    · rcases h0 with rfl | h0
      · rw [gW fun b hb => by have := h.top b hb; omega]
        exact hx z (by omega) hz
      · omega
  · rw [if_neg h0]
    have hxs : xs ≠ [] := fun e => h0 (.inl e)
    have hlt : y < y' := by
      by_cases hh : y < y'
      · exact hh
      · exact absurd (.inr (by omega)) h0
    have hnew : OkB ⟨y, y', xs⟩ := ⟨hlt, hxs, hi, he⟩
    have plain : (∀ p c, s = p ++ [c] → c.f1 = y → c.f2 ≠ xs) → jF F (s ++ [⟨y, y', xs⟩]) y' := fun hl => by
      refine ⟨h.can.snoc hnew h.top hl, fun b hb => ?_, fun z hz => ?_⟩
      · rcases List.mem_append.1 hb with hb | hb
        · have := h.top b hb; omega
        · rw [List.mem_singleton.1 hb]; exact Int.le_refl _
      · by_cases hzy : z < y
        · rw [jV (fun b hb => by rw [List.mem_singleton.1 hb]; simp only; omega)]
          exact h.row z hzy
        · rw [jA (fun b hb => by have := h.top b hb; omega), rowAt, if_pos ⟨by simp only; omega, hz⟩]
          exact hx z (by omega) hz
    rcases List.eq_nil_or_concat s with rfl | ⟨s', l, rfl⟩
    · exact plain fun p c e => by simp at e
    · rw [List.concat_eq_append] at *
      rw [List.getLast?_concat]
      simp only
      by_cases hm : l.f1 = y ∧ l.f2 = xs
      · rw [if_pos hm, List.dropLast_concat]
        have hl := h.can.ok l (by simp)
        have htl := h.top l (by simp)
        refine ⟨h.can.init.snoc ⟨by simp only; have := hl.lt; omega, hl.some, hl.inc, hl.even⟩ ?_ ?_, fun b hb => ?_, fun z hz => ?_⟩
        · intro c hc
          exact (List.pairwise_append.1 h.can.up).2.2 c hc l (by simp)
        · intro p c e
          subst e
          exact h.can.link p c l [] (by simp)
        · rcases List.mem_append.1 hb with hb | hb
          · have := h.top b (List.mem_append_left _ hb); omega
          · rw [List.mem_singleton.1 hb]; exact Int.le_refl _
        · by_cases hz1 : l.f0 ≤ z
          · rw [jA (fun b hb => by have := (List.pairwise_append.1 h.can.up).2.2 b hb l (by simp); omega), rowAt, if_pos ⟨hz1, hz⟩]
            simp only
            by_cases hzy : z < y
            · have := h.row z hzy
              rwa [jA (fun b hb => by have := (List.pairwise_append.1 h.can.up).2.2 b hb l (by simp); omega), rowAt, if_pos ⟨hz1, by omega⟩] at this
            · rw [hm.2]; exact hx z (by omega) hz
          · rw [jV (fun b hb => by rw [List.mem_singleton.1 hb]; simp only; omega)]
            have h3 := hl.lt
            have := h.row z (by omega)
            rwa [jV (fun b hb => by rw [List.mem_singleton.1 hb]; omega)] at this
      · rw [if_neg hm]
        refine plain fun p c e hc1 hc2 => hm ?_
        obtain ⟨_, e4⟩ := List.append_inj' e rfl
        obtain rfl := List.singleton_inj.1 e4
        exact ⟨hc1, hc2⟩
structure Shape (s : List S118) (c : Int → Int → Bool) : Prop where
  can : Can s
  cov : ∀ y x, tog (rowAt s y) x = c y x
theorem Can.row_inc {s : List S118} (h : Can s) (y : Int) : Inc (rowAt s y) ∧ (rowAt s y).length % 2 = 0 := by
  induction s with
  | nil => exact ⟨List.Pairwise.nil, rfl⟩
  | cons b r ih =>
    rw [rowAt]
    split
    · have := h.ok b List.mem_cons_self
      exact ⟨this.inc, this.even⟩
    · exact ih h.tail
theorem Shape.inj {s t : List S118} {c : Int → Int → Bool} (hs : Shape s c) (ht : Shape t c) : s = t :=
  can_inj s t hs.can ht.can fun y => tog_inj _ _ (hs.can.row_inc y).1 (ht.can.row_inc y).1 fun x => by rw [hs.cov, ht.cov]
def inR (r : S44) (y x : Int) : Bool := decide (r.f0 ≤ x) && decide (x < r.f2) && (decide (r.f1 ≤ y) && decide (y < r.f3))
def covR (l : List S44) (y x : Int) : Bool := l.any fun r => inR r y x
def gU (y0 y1 : Int) : List Int → List S44
  | a :: b :: r => ⟨a, y0, b, y1⟩ :: gU y0 y1 r
  | _ => []
def dZ (s : List S118) : List S44 := s.flatMap fun b => gU b.f0 b.f1 b.f2
theorem iR (y0 y1 : Int) : ∀ (n : Nat) (xs : List Int), xs.length = n → (gU y0 y1 xs).length = xs.length / 2 := by
  intro n
  induction n using Nat.strongRecOn with
  | ind n ih =>
    intro xs hn
    match xs, hn with
    | [], _ => rfl
    | [a], _ => simp [gU]
    | a :: b :: q, hn =>
      rw [gU, List.length_cons, ih q.length (by simp at hn; omega) q rfl]
      simp only [List.length_cons]; omega
theorem Shape.empty {s : List S118} {c : Int → Int → Bool} (h : Shape s c) (hc : ∀ y x, c y x = false) : s = [] := by
  refine Shape.inj h ⟨Can.nil, fun y x => ?_⟩
  rw [hc]; rfl
def dropW (y : Int) (a : List S118) : List S118 := a.dropWhile fun b => decide (b.f1 ≤ y)
theorem Can.drop {a : List S118} (h : Can a) (y : Int) : Can (dropW y a) := by
  induction a with
  | nil => exact h
  | cons b r ih =>
    unfold dropW
    rw [List.dropWhile_cons]
    split
    · exact ih h.tail
    · exact h
theorem Can.high {s p : List S118} {l : S118} (h : Can s) (e : s = p ++ [l]) {z : Int} (hz : l.f1 ≤ z) : rowAt s z = [] := by
  subst e
  refine gW fun b hb => ?_
  rcases List.mem_append.1 hb with hb | hb
  · have := (List.pairwise_append.1 h.up).2.2 b hb l (by simp)
    have := (h.ok l (by simp)).lt
    omega
  · rw [List.mem_singleton.1 hb]; omega
def strP : List S44 → List Int → List Int
  | [], out => out
  | r :: l, out =>
    match out.getLast? with
    | some b => if r.f0 ≤ b then strP l (out.dropLast ++ [max b r.f2]) else strP l (out ++ [r.f0, r.f2])
    | none => strP l (out ++ [r.f0, r.f2])
theorem pair_tog {o : List Int} {a b : Int} (hi : Inc (o ++ [a, b])) (he : (o ++ [a, b]).length % 2 = 0) (x : Int) : tog (o ++ [a, b]) x = (tog o x || decide (a ≤ x ∧ x < b)) := by
  rw [tog_append]
  obtain ⟨h1, h2, h3⟩ := List.pairwise_append.1 hi
  have hab : a < b := fK h2 b (by simp)
  have hab' : ∀ x, tog [a, b] x = decide (a ≤ x ∧ x < b) := fun x => by
    simp only [tog]
    by_cases h1 : a ≤ x
    · by_cases h2 : b ≤ x
      · have h3 : ¬ x < b := by omega
        simp [h1, h2, h3]
      · have h3 : x < b := by omega
        simp [h1, h2, h3]
    · have h2 : ¬ b ≤ x := by omega
      simp [h1, h2]
  rw [hab' x]
  by_cases hx : a ≤ x
  · have : tog o x = false := by
      rw [tog_high (fun c hc => by have := h3 c hc a (by simp); omega)]
      simp at he ⊢
      omega
    simp [this]
  · have hn : ¬ (a ≤ x ∧ x < b) := by omega
    simp [hn]
theorem strP_spec : ∀ (l : List S44) (out : List Int), (∀ r ∈ l, r.f0 < r.f2) → l.Pairwise (fun r q => r.f0 ≤ q.f0) → Inc out → out.length % 2 = 0 → (∀ o a b, out = o ++ [a, b] → ∀ r ∈ l, a ≤ r.f0) →
    Inc (strP l out) ∧ (strP l out).length % 2 = 0 ∧ (∀ x, tog (strP l out) x = (tog out x || l.any fun r => decide (r.f0 ≤ x ∧ x < r.f2))) ∧ (strP l out).length ≤ out.length + 2 * l.length := by
  intro l
  induction l with
  | nil => intro out _ _ hi he _; exact ⟨hi, he, fun x => by simp [strP], by simp [strP]⟩
  | cons r l ih =>
    intro out hr hs hi he ha
    have hr0 := hr r List.mem_cons_self
    have hs0 : ∀ q ∈ l, r.f0 ≤ q.f0 := (List.pairwise_cons.1 hs).1
    have hs1 := (List.pairwise_cons.1 hs).2
    have hr1 : ∀ q ∈ l, q.f0 < q.f2 := fun q hq => hr q (List.mem_cons_of_mem _ hq)
    have fresh : (∀ c ∈ out, c < r.f0) → Inc (strP l (out ++ [r.f0, r.f2])) ∧ (strP l (out ++ [r.f0, r.f2])).length % 2 = 0 ∧ (∀ x, tog (strP l (out ++ [r.f0, r.f2])) x = (tog out x || (r :: l).any fun r => decide (r.f0 ≤ x ∧ x < r.f2))) ∧ (strP l (out ++ [r.f0, r.f2])).length ≤ out.length + 2 * (r :: l).length := fun hlt => by
      have hi2 : Inc (out ++ [r.f0, r.f2]) := List.pairwise_append.2 ⟨hi, by simp [hr0], fun c hc d hd => by
        have := hlt c hc
        simp at hd
        rcases hd with rfl | rfl <;> omega⟩
      have he2 : (out ++ [r.f0, r.f2]).length % 2 = 0 := by simp; omega
      obtain ⟨h1, h2, h3, h4⟩ := ih (out ++ [r.f0, r.f2]) hr1 hs1 hi2 he2 (fun o a b e q hq => by
        obtain ⟨_, e2⟩ := List.append_inj' e rfl
        simp at e2
        rw [← e2.1]; exact hs0 q hq)
      refine ⟨h1, h2, fun x => ?_, ?_⟩
      · rw [h3 x, pair_tog hi2 he2, List.any_cons, Bool.or_assoc]
      · simp only [List.length_append, List.length_cons, List.length_nil] at h4 ⊢; omega
    rw [strP]
    rcases List.eq_nil_or_concat out with rfl | ⟨o1, b, rfl⟩
    · exact fresh (fun c hc => by simp at hc)
    · rw [List.concat_eq_append] at *
      rcases List.eq_nil_or_concat o1 with rfl | ⟨o, a, rfl⟩
      · simp at he
      · rw [List.concat_eq_append] at *
        have e2 : o ++ [a] ++ [b] = o ++ [a, b] := by simp
        rw [List.getLast?_concat]
        simp only
        by_cases hb : r.f0 ≤ b
        · rw [if_pos hb, List.dropLast_concat]
          have har := ha o a b e2 r List.mem_cons_self
          have e3 : o ++ [a] ++ [max b r.f2] = o ++ [a, max b r.f2] := by simp
          rw [e2] at hi he
          obtain ⟨p1, p2, p3⟩ := List.pairwise_append.1 hi
          have hab : a < b := fK p2 b (by simp)
          have hi2 : Inc (o ++ [a, max b r.f2]) := List.pairwise_append.2 ⟨p1, by simp; omega, fun c hc d hd => by
            have := p3 c hc a (by simp)
            simp at hd
            rcases hd with rfl | rfl <;> omega⟩
          have he2 : (o ++ [a, max b r.f2]).length % 2 = 0 := by simp at he ⊢; omega
          obtain ⟨h1, h2, h3, h4⟩ := ih (o ++ [a, max b r.f2]) hr1 hs1 hi2 he2 (fun o' a' b' e q hq => by
            obtain ⟨_, e5⟩ := List.append_inj' e rfl
            simp at e5
            rw [← e5.1]
            have := hs0 q hq
            omega)
          rw [e3, e2]
          refine ⟨h1, h2, fun x => ?_, ?_⟩
          · have hd : decide (a ≤ x ∧ x < max b r.f2) = (decide (a ≤ x ∧ x < b) || decide (r.f0 ≤ x ∧ x < r.f2)) := by
              rw [← Bool.decide_or]
              congr 1
              apply propext
              omega
            rw [h3 x, pair_tog hi2 he2, pair_tog hi he, List.any_cons, hd]
            simp only [Bool.or_assoc]
          · simp only [List.length_append, List.length_cons, List.length_nil] at h4 ⊢; omega
        · rw [if_neg hb]
          refine fresh (fun c hc => ?_)
          obtain ⟨p1, p2, p3⟩ := List.pairwise_append.1 hi
          rcases List.mem_append.1 hc with hc | hc
          · have := p3 c hc b (by simp); omega
          · rw [List.mem_singleton.1 hc]; omega
theorem strP_nil {l : List S44} (hr : ∀ r ∈ l, r.f0 < r.f2) (hs : l.Pairwise (fun r q => r.f0 ≤ q.f0)) :
    Inc (strP l []) ∧ (strP l []).length % 2 = 0 ∧ (∀ x, tog (strP l []) x = l.any fun r => decide (r.f0 ≤ x ∧ x < r.f2)) ∧ (strP l []).length ≤ 2 * l.length := by
  obtain ⟨h1, h2, h3, h4⟩ := strP_spec l [] hr hs List.Pairwise.nil rfl (fun o a b e => by simp at e)
  exact ⟨h1, h2, fun x => by rw [h3 x]; simp [tog], by simpa using h4⟩
theorem jZ (zs : List Int) (hs : zs.Pairwise (· ≤ ·)) : ∀ m, m ≤ zs.length →
    Inc (Go.Lib.compactUpTo zs.toArray m) ∧ (∀ x, x ∈ Go.Lib.compactUpTo zs.toArray m ↔ ∃ j, j < m ∧ zs[j]? = some x) := by
  intro m
  induction m with
  | zero => intro _; exact ⟨by simp [Go.Lib.compactUpTo, Inc], fun x => by simp [Go.Lib.compactUpTo]⟩
  | succ m ih =>
    intro hm
    obtain ⟨h1, h2⟩ := ih (by omega)
    have hget : zs.toArray[m]! = zs[m] := by simp [show m < zs.length by omega]
    have hle : ∀ j (h : j < m), zs[j]'(by omega) ≤ zs[m] := fun j h => List.pairwise_iff_getElem.1 hs j m (by omega) (by omega) h
    rw [Go.Lib.compactUpTo_succ]
    by_cases hk : Go.Lib.keeps zs.toArray m = true
    · rw [if_pos hk]
      have hk' : m = 0 ∨ zs.toArray[m]! ≠ zs.toArray[m - 1]! := of_decide_eq_true hk
      refine ⟨List.pairwise_append.2 ⟨h1, List.pairwise_singleton _ _, fun c hc d hd => ?_⟩, fun x => ?_⟩
      · rw [List.mem_singleton.1 hd, hget]
        obtain ⟨j, hj, hx⟩ := (h2 c).1 hc
        have hjl : j < zs.length := by omega
        rw [List.getElem?_eq_getElem hjl] at hx
        obtain rfl := Option.some.inj hx
        rcases hk' with hk' | hk'
        · omega
        · have e1 : zs.toArray[m - 1]! = zs[m - 1]'(by omega) := by simp [show m - 1 < zs.length by omega]
          rw [hget, e1] at hk'
          have h5 := hle (m - 1) (by omega)
          have h6 : zs[j] ≤ zs[m - 1]'(by omega) := by
            by_cases e : j = m - 1
            · subst e; exact Int.le_refl _
            · exact List.pairwise_iff_getElem.1 hs j (m - 1) (by omega) (by omega) (by omega)
          omega
      · rw [List.mem_append, h2 x, List.mem_singleton, hget]
        constructor
        · rintro (⟨j, hj, hx⟩ | rfl)
          · exact ⟨j, by omega, hx⟩
          · exact ⟨m, by omega, List.getElem?_eq_getElem (by omega)⟩
        · rintro ⟨j, hj, hx⟩
          by_cases e : j = m
          · subst e
            rw [List.getElem?_eq_getElem (by omega)] at hx
            exact .inr (Option.some.inj hx).symm
          · exact .inl ⟨j, by omega, hx⟩
    · rw [if_neg hk, List.append_nil]
      have hk' : ¬ (m = 0 ∨ zs.toArray[m]! ≠ zs.toArray[m - 1]!) := fun h => hk (decide_eq_true h)
      have hm0 : m ≠ 0 := fun e => hk' (.inl e)
      have he : zs.toArray[m]! = zs.toArray[m - 1]! := Classical.byContradiction fun h => hk' (.inr h)
      refine ⟨h1, fun x => ?_⟩
      rw [h2 x]
      constructor
      · rintro ⟨j, hj, hx⟩; exact ⟨j, by omega, hx⟩
      · rintro ⟨j, hj, hx⟩
        by_cases e : j = m
        · subst e
          have e1 : zs.toArray[j - 1]! = zs[j - 1]'(by omega) := by simp [show j - 1 < zs.length by omega]
          rw [hget, e1] at he
          rw [List.getElem?_eq_getElem (by omega)] at hx
          exact ⟨j - 1, by omega, by rw [List.getElem?_eq_getElem (by omega), ← he]; exact hx⟩
        · exact ⟨j, by omega, hx⟩
def kE (l : List S44) : List Int := Go.Lib.compact ((l.flatMap fun r => [r.f1, r.f3]).mergeSort fun x y => decide (x ≤ y))
theorem heightsP_spec (l : List S44) : Inc (kE l) ∧ (∀ x, x ∈ kE l ↔ ∃ r ∈ l, x = r.f1 ∨ x = r.f3) := by
  have hs : ((l.flatMap fun r => [r.f1, r.f3]).mergeSort fun x y => decide (x ≤ y)).Pairwise (· ≤ ·) := by
    have := List.pairwise_mergeSort (le := fun x y : Int => decide (x ≤ y)) (fun a b c h1 h2 => by simp at *; omega) (fun a b => by simp; omega) (l.flatMap fun r => [r.f1, r.f3])
    exact this.imp fun h => by simpa using h
  obtain ⟨h1, h2⟩ := jZ _ hs _ (Nat.le_refl _)
  refine ⟨h1, fun x => (h2 x).trans ?_⟩
  constructor
  · rintro ⟨j, _, hx⟩
    have := List.mem_of_getElem? hx
    rw [List.mem_mergeSort] at this
    obtain ⟨r, hr, hx⟩ := List.mem_flatMap.1 this
    exact ⟨r, hr, by simpa using hx⟩
  · rintro ⟨r, hr, hx⟩
    have : x ∈ (l.flatMap fun r => [r.f1, r.f3]).mergeSort fun x y => decide (x ≤ y) := by
      rw [List.mem_mergeSort]
      exact List.mem_flatMap.2 ⟨r, hr, by simpa using hx⟩
    obtain ⟨j, hj, he⟩ := List.getElem_of_mem this
    exact ⟨j, hj, by rw [List.getElem?_eq_getElem hj, he]⟩
theorem compact_len (zs : List Int) : (Go.Lib.compact zs).length ≤ zs.length := by
  unfold Go.Lib.compact Go.Lib.compactUpTo
  rw [List.length_map]
  exact Nat.le_trans (List.length_filter_le _ _) (by simp)
theorem kG (l : List S44) : (kE l).length ≤ 2 * l.length := by
  refine Nat.le_trans (compact_len _) ?_
  rw [List.length_mergeSort]
  induction l with
  | nil => simp
  | cons a r ih => simp at ih ⊢; omega
def iO (l : List S44) (y : Int) (next : Nat) : List S44 := (l.drop next).takeWhile fun r => decide (r.f1 ≤ y)
def setL (str : Nat → List S44 → Option (List Int × List S44)) (psh : Nat → List S118 → Int → Int → List Int → Option (List S118)) : Nat → List S44 → List Int → Nat → Nat → List S44 → List S118 → Option (List S118)
  | 0, _, _, _, _, _, _ => none
  | k + 1, l, ys, kk, next, now, out =>
    if kk + 1 < ys.length then
      (if (now.filter fun r => !decide (r.f3 ≤ rd ys kk)).length + (iO l (rd ys kk) next).length ≤ 1000000000 then
        ((str k ((now.filter fun r => !decide (r.f3 ≤ rd ys kk)) ++ iO l (rd ys kk) next)).bind fun t =>
          ((psh k out (rd ys kk) (rd ys ((kk + 1 : Nat) : Int)) t.1).bind fun out1 =>
            setL str psh k l ys (kk + 1) (next + (iO l (rd ys kk) next).length) t.2 out1))
      else none)
    else some out
structure GoodR (r : S44) : Prop where
  x : r.f0 < r.f2
  y : r.f1 < r.f3
  b0 : -8000000 ≤ r.f0
  b1 : -8000000 ≤ r.f1
  b2 : r.f2 ≤ 8000000
  b3 : r.f3 ≤ 8000000
structure Helps (str : Nat → List S44 → Option (List Int × List S44)) (psh : Nat → List S118 → Int → Int → List Int → Option (List S118)) : Prop where
  str : ∀ l, (∀ r ∈ l, GoodR r) → l.length ≤ 1000000000 → ∃ K xs l', (∀ k, K ≤ k → str k l = some (xs, l')) ∧ Inc xs ∧ xs.length % 2 = 0 ∧ (∀ x, tog xs x = l.any fun r => decide (r.f0 ≤ x ∧ x < r.f2)) ∧ (∀ r, r ∈ l' ↔ r ∈ l) ∧ l'.length = l.length ∧ xs.length ≤ 2 * l.length
  psh : ∀ s y0 y1 xs, s.length ≤ 4000000000 → xs.length ≤ 4000000000 → (∀ b ∈ s, b.f2.length ≤ 4000000000) → ∃ K, ∀ k, K ≤ k → psh k s y0 y1 xs = some (iK s ⟨y0, y1, xs⟩)
theorem iJ (ys : List Int) (j : Nat) (h : j < ys.length) : rd ys (j : Int) = ys[j] := by
  unfold rd
  rw [List.getD_eq_getElem?_getD, Int.toNat_natCast, List.getElem?_eq_getElem h, Option.getD_some]
theorem pushP_len (s : List S118) (b : S118) : (iK s b).length ≤ s.length + 1 := by
  unfold iK
  split
  · omega
  · split
    · split
      · simp
        try omega
      · simp
    · simp
theorem pushP_xs {s : List S118} {b : S118} {n : Nat} (h : ∀ c ∈ s, c.f2.length ≤ n) (hb : b.f2.length ≤ n) : ∀ c ∈ iK s b, c.f2.length ≤ n := by
  intro c hc
  unfold iK at hc
  split at hc
  · exact h c hc
  · split at hc
    · rename_i l hl
      have hml : l ∈ s := List.mem_of_getLast? hl
      split at hc
      · rcases List.mem_append.1 hc with hc | hc
        · exact h c (List.dropLast_subset _ hc)
        · rw [List.mem_singleton.1 hc]; exact h l hml
      · rcases List.mem_append.1 hc with hc | hc
        · exact h c hc
        · rw [List.mem_singleton.1 hc]; exact hb
    · rw [List.mem_singleton.1 hc]; exact hb
theorem jI {l : List S44} {y : Int} (hs : l.Pairwise fun r q => r.f1 ≤ q.f1) (r : S44) : r ∈ (l.takeWhile fun r => decide (r.f1 ≤ y)) ↔ r ∈ l ∧ r.f1 ≤ y := by
  induction l with
  | nil => simp
  | cons a q ih =>
    rw [List.takeWhile_cons]
    by_cases ha : a.f1 ≤ y
    · rw [if_pos (decide_eq_true ha), List.mem_cons, List.mem_cons, ih (List.pairwise_cons.1 hs).2]
      constructor
      · rintro (rfl | ⟨h1, h2⟩)
        · exact ⟨.inl rfl, ha⟩
        · exact ⟨.inr h1, h2⟩
      · rintro ⟨rfl | h1, h2⟩
        · exact .inl rfl
        · exact .inr ⟨h1, h2⟩
    · rw [if_neg (by simpa using ha)]
      simp only [List.not_mem_nil, List.mem_cons, false_iff, not_and]
      rintro (rfl | h1)
      · exact ha
      · have := (List.pairwise_cons.1 hs).1 r h1
        omega
theorem take_takeWhile (l : List S44) (next : Nat) (p : S44 → Bool) : l.take (next + ((l.drop next).takeWhile p).length) = l.take next ++ (l.drop next).takeWhile p := by
  rw [List.take_add]
  congr 1
  exact (List.prefix_iff_eq_take.1 (List.takeWhile_prefix p)).symm
def covAt (l : List S44) (z : Int) (xs : List Int) : Prop := ∀ x, tog xs x = covR l z x
theorem setL_spec {str : Nat → List S44 → Option (List Int × List S44)} {psh : Nat → List S118 → Int → Int → List Int → Option (List S118)} (H : Helps str psh) (l : List S44) (hg : ∀ r ∈ l, GoodR r) (hl : l.length ≤ 1000000000) (hs : l.Pairwise fun r q => r.f1 ≤ q.f1)
    (ys : List Int) (hi : Inc ys) (hm : ∀ r ∈ l, r.f1 ∈ ys ∧ r.f3 ∈ ys) (hyl : ys.length ≤ 2000000000) :
    ∀ (d kk next : Nat) (now : List S44) (out : List S118), (hd : ys.length - kk ≤ d) → (hk : kk < ys.length) → jF (covAt l) out (ys[kk]) → next ≤ l.length → (∀ r ∈ l.take next, r.f1 < ys[kk]) → (∀ r ∈ l.drop next, ys[kk] ≤ r.f1) →
      (∀ r, r ∈ now ↔ r ∈ l.take next ∧ ys[kk] ≤ r.f3) → now.length ≤ next → out.length ≤ kk → (∀ b ∈ out, b.f2.length ≤ 2 * l.length) →
      ∃ K r, (∀ k, K ≤ k → setL str psh k l ys kk next now out = some r) ∧ Shape r (covR l) ∧ r.length ≤ ys.length ∧ (∀ b ∈ r, b.f2.length ≤ 2 * l.length) := by
  intro d
  induction d with
  | zero => intro kk next now out hd hk; omega
  | succ d ih =>
    intro kk next now out hd hk hsw hn hlo hhi hnow hnl hol hxl
    by_cases hlt : kk + 1 < ys.length
    · have e0 : rd ys (kk : Int) = ys[kk] := iJ ys kk hk
      have e1 : rd ys ((kk + 1 : Nat) : Int) = ys[kk + 1] := iJ ys (kk + 1) hlt
      have hstep : ys[kk] < ys[kk + 1] := List.pairwise_iff_getElem.1 hi kk (kk + 1) hk hlt (by omega)
      have hgap : ∀ z, z ∈ ys → ys[kk] < z → ys[kk + 1] ≤ z := fun z hz hlt2 => by
        obtain ⟨j, hj, rfl⟩ := List.getElem_of_mem hz
        by_cases c1 : j ≤ kk
        · by_cases c2 : j = kk
          · subst c2; omega
          · have := List.pairwise_iff_getElem.1 hi j kk hj hk (by omega); omega
        · by_cases c2 : j = kk + 1
          · subst c2; exact Int.le_refl _
          · have := List.pairwise_iff_getElem.1 hi (kk + 1) j hlt hj (by omega); omega
      have hsd : (l.drop next).Pairwise fun r q => r.f1 ≤ q.f1 := hs.drop
      have hmore : ∀ r, r ∈ iO l ys[kk] next ↔ r ∈ l.drop next ∧ r.f1 ≤ ys[kk] := fun r => jI hsd r
      have htake : l.take (next + (iO l ys[kk] next).length) = l.take next ++ iO l ys[kk] next := take_takeWhile _ _ _
      have hlen : next + (iO l ys[kk] next).length ≤ l.length := by
        have h1 : (iO l ys[kk] next).length ≤ (l.drop next).length := by
          unfold iO
          exact (List.takeWhile_prefix _).length_le
        rw [List.length_drop] at h1
        omega
      have hfl : (now.filter fun r => !decide (r.f3 ≤ ys[kk])).length ≤ now.length := List.length_filter_le _ _
      have hsplit : ∀ r, r ∈ l ↔ r ∈ l.take next ∨ r ∈ l.drop next := fun r => by
        conv => lhs; rw [← List.take_append_drop next l]
        exact List.mem_append
      obtain ⟨cur, hcur⟩ : ∃ cur, cur = (now.filter fun r => !decide (r.f3 ≤ ys[kk])) ++ iO l ys[kk] next := ⟨_, rfl⟩
      have hmem : ∀ r, r ∈ cur ↔ r ∈ l.take (next + (iO l ys[kk] next).length) ∧ ys[kk] < r.f3 := fun r => by
        rw [hcur, htake, List.mem_append, List.mem_append, List.mem_filter, hnow r]
        constructor
        · rintro (⟨⟨h1, h2⟩, h3⟩ | h1)
          · exact ⟨.inl h1, by simpa using h3⟩
          · have h2 := (hmore r).1 h1
            have h3 := (hg r ((hsplit r).2 (.inr h2.1))).y
            have h4 := hhi r h2.1
            exact ⟨.inr h1, by omega⟩
        · rintro ⟨h1 | h1, h2⟩
          · exact .inl ⟨⟨h1, by omega⟩, by simp; omega⟩
          · exact .inr h1
      have hcl : cur.length ≤ next + (iO l ys[kk] next).length := by rw [hcur, List.length_append]; omega
      have hcg : ∀ r ∈ cur, GoodR r := fun r hr => hg r (List.mem_of_mem_take ((hmem r).1 hr).1)
      obtain ⟨K1, xs, l', hK1, x1, x2, x3, x4, x5, x6⟩ := H.str cur hcg (by omega)
      obtain ⟨K2, hK2⟩ := H.psh out ys[kk] ys[kk + 1] xs (by omega) (by omega) (fun b hb => Nat.le_trans (hxl b hb) (by omega))
      have hsw2 := hsw.step (y' := ys[kk + 1]) (xs := xs) (by omega) (fun z hz1 hz2 x => by
        rw [x3 x]
        unfold covR
        rw [Bool.eq_iff_iff, List.any_eq_true, List.any_eq_true]
        constructor
        · rintro ⟨r, hr, hx⟩
          have h1 := (hmem r).1 hr
          have hrl := List.mem_of_mem_take h1.1
          refine ⟨r, hrl, ?_⟩
          have h2 := of_decide_eq_true hx
          have h3 := hgap r.f3 (hm r hrl).2 h1.2
          have h4 : r.f1 ≤ ys[kk] := by
            rw [htake] at h1
            rcases List.mem_append.1 h1.1 with h | h
            · have := hlo r h; omega
            · exact ((hmore r).1 h).2
          unfold inR
          simp only [Bool.and_eq_true, decide_eq_true_eq]
          omega
        · rintro ⟨r, hrl, hx⟩
          unfold inR at hx
          simp only [Bool.and_eq_true, decide_eq_true_eq] at hx
          have h4 : r.f1 ≤ ys[kk] := by
            by_cases c : r.f1 ≤ ys[kk]
            · exact c
            · have := hgap r.f1 (hm r hrl).1 (by omega); omega
          refine ⟨r, (hmem r).2 ⟨?_, by omega⟩, decide_eq_true ⟨hx.1.1, hx.1.2⟩⟩
          rw [htake]
          rcases (hsplit r).1 hrl with h | h
          · exact List.mem_append_left _ h
          · exact List.mem_append_right _ ((hmore r).2 ⟨h, h4⟩)) x1 x2
      obtain ⟨K3, res, hK3, hres⟩ := ih (kk + 1) (next + (iO l ys[kk] next).length) l' (iK out ⟨ys[kk], ys[kk + 1], xs⟩) (by omega) hlt hsw2 hlen
        (fun r hr => by
          rw [htake] at hr
          rcases List.mem_append.1 hr with h | h
          · have := hlo r h; omega
          · have := ((hmore r).1 h).2; omega)
        (fun r hr => by
          have hrl := List.mem_of_mem_drop hr
          have hr2 : r ∈ l.drop next := by
            rw [← List.drop_drop] at hr
            exact List.mem_of_mem_drop hr
          by_cases c : ys[kk] < r.f1
          · exact hgap _ (hm r hrl).1 c
          · exfalso
            rw [← List.drop_drop] at hr
            have e := List.takeWhile_append_dropWhile (p := fun r : S44 => decide (r.f1 ≤ ys[kk])) (l := l.drop next)
            have hr' : r ∈ (l.drop next).dropWhile fun r => decide (r.f1 ≤ ys[kk]) := by
              have h1 : (l.drop next).drop (iO l ys[kk] next).length = (l.drop next).dropWhile fun r => decide (r.f1 ≤ ys[kk]) := by
                conv => lhs; rw [← e]
                exact List.drop_left' rfl
              rwa [h1] at hr
            have hsp : ((l.drop next).dropWhile fun r => decide (r.f1 ≤ ys[kk])).Pairwise fun r q => r.f1 ≤ q.f1 := hsd.sublist (List.dropWhile_sublist _)
            cases hdw : (l.drop next).dropWhile fun r => decide (r.f1 ≤ ys[kk]) with
            | nil => rw [hdw] at hr'; simp at hr'
            | cons a q =>
              rw [hdw] at hr' hsp
              have ha : ¬ a.f1 ≤ ys[kk] := by
                have := List.head?_dropWhile_not (fun r : S44 => decide (r.f1 ≤ ys[kk])) (l.drop next)
                rw [hdw] at this
                simpa using this
              rcases List.mem_cons.1 hr' with rfl | hr'
              · exact ha (by omega)
              · have := (List.pairwise_cons.1 hsp).1 r hr'
                omega)
        (fun r => by
          rw [x4 r, hmem r]
          constructor
          · rintro ⟨h1, h2⟩; exact ⟨h1, hgap _ (hm r (List.mem_of_mem_take h1)).2 h2⟩
          · rintro ⟨h1, h2⟩; exact ⟨h1, by omega⟩)
        (by omega) (by have := pushP_len out ⟨ys[kk], ys[kk + 1], xs⟩; omega) (pushP_xs hxl (by show xs.length ≤ _; omega))
      refine ⟨max K1 (max K2 K3) + 1, res, fun k hk1 => ?_, hres⟩
      obtain ⟨k, rfl⟩ : ∃ m, k = m + 1 := ⟨k - 1, by omega⟩
      rw [setL, if_pos hlt, e0, e1, if_pos (by omega), ← hcur, hK1 k (by omega)]
      simp only [Option.bind_some]
      rw [hK2 k (by omega)]
      exact hK3 k (by omega)
    · refine ⟨1, out, fun k hk1 => ?_, ⟨hsw.can, fun y x => ?_⟩, by omega, hxl⟩
      · obtain ⟨k, rfl⟩ : ∃ m, k = m + 1 := ⟨k - 1, by omega⟩
        rw [setL, if_neg hlt]
      · refine hsw.done (fun z hz x => ?_) y x
        rw [tog, eq_comm]
        unfold covR
        rw [List.any_eq_false]
        intro r hr
        obtain ⟨j, hj, he⟩ := List.getElem_of_mem (hm r hr).2
        have h1 : ys[j] ≤ ys[kk] := by
          by_cases c : j = kk
          · subst c; exact Int.le_refl _
          · have := List.pairwise_iff_getElem.1 hi j kk hj hk (by omega); omega
        unfold inR
        simp only [Bool.and_eq_true, decide_eq_true_eq]
        omega
theorem setL_shape {str : Nat → List S44 → Option (List Int × List S44)} {psh : Nat → List S118 → Int → Int → List Int → Option (List S118)} (H : Helps str psh) (l : List S44) (hg : ∀ r ∈ l, GoodR r) (hl : l.length ≤ 1000000000) (hs : l.Pairwise fun r q => r.f1 ≤ q.f1)
    (ys : List Int) (hi : Inc ys) (hm : ∀ x, x ∈ ys ↔ ∃ r ∈ l, x = r.f1 ∨ x = r.f3) (hyl : ys.length ≤ 2000000000) :
    ∃ K r, (∀ k, K ≤ k → setL str psh k l ys 0 0 [] [] = some r) ∧ Shape r (covR l) ∧ r.length ≤ ys.length ∧ (∀ b ∈ r, b.f2.length ≤ 2 * l.length) := by
  by_cases h0 : 0 < ys.length
  · refine setL_spec H l hg hl hs ys hi (fun r hr => ⟨(hm _).2 ⟨r, hr, .inl rfl⟩, (hm _).2 ⟨r, hr, .inr rfl⟩⟩) hyl ys.length 0 0 [] [] (by omega) h0 (jF.start fun z hz x => ?_) (Nat.zero_le _) (fun r hr => by simp at hr) (fun r hr => ?_) (fun r => by simp) (Nat.le_refl _) (Nat.le_refl _) (fun b hb => by simp at hb)
    · rw [tog, eq_comm]
      unfold covR
      rw [List.any_eq_false]
      intro r hr
      obtain ⟨j, hj, he⟩ := List.getElem_of_mem ((hm _).2 ⟨r, hr, .inl rfl⟩)
      have h1 : ys[0] ≤ ys[j] := by
        by_cases c : j = 0
        · subst c; exact Int.le_refl _
        · have := List.pairwise_iff_getElem.1 hi 0 j h0 hj (by omega); omega
      unfold inR
      simp only [Bool.and_eq_true, decide_eq_true_eq]
      omega
    · obtain ⟨j, hj, he⟩ := List.getElem_of_mem ((hm _).2 ⟨r, List.mem_of_mem_drop hr, .inl rfl⟩)
      by_cases c : j = 0
      · subst c; omega
      · have := List.pairwise_iff_getElem.1 hi 0 j h0 hj (by omega); omega
  · have hy : ys = [] := List.length_eq_zero_iff.1 (by omega)
    have hl0 : l = [] := List.eq_nil_iff_forall_not_mem.2 fun r hr => by
      have := (hm r.f1).2 ⟨r, hr, .inl rfl⟩
      rw [hy] at this
      simp at this
    subst hy; subst hl0
    refine ⟨1, [], fun k hk => ?_, ⟨Can.nil, fun y x => rfl⟩, Nat.le_refl _, fun b hb => by simp at hb⟩
    obtain ⟨k, rfl⟩ : ∃ m, k = m + 1 := ⟨k - 1, by omega⟩
    rw [setL, if_neg (by simp)]
end Go.Proofs.YthkeonbmgcphkaaGreatDoorPlain
