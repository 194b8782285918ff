-- Written by this session's own programs (wip/tools).
import Derived.Test.YthkeonbmgcphkaaGreatDoorDTotT
import Derived.Test.YthkeonbmgcphkaaGreatDoorDCoverT
import Derived.Test.YthkeonbmgcphkaaGreatDoorDPTx14
namespace Go.Proofs.YthkeonbmgcphkaaGreatDoorPlain
open Go.RowKit Go.Proofs.YthkeonbmgcphkaaGreatDoor.PT Go.Proofs.YthkeonbmgcphkaaGreatDoorW.PrintWords
set_option linter.unusedVariables false
set_option linter.unusedSimpArgs false
def ok1 (r : Rc) : Bool := (decide (-1000000 ≤ r.f0) && decide (r.f0 ≤ 1000000)) && ((decide (-1000000 ≤ r.f1) && decide (r.f1 ≤ 1000000)) && ((decide (-1000000 ≤ r.f2) && decide (r.f2 ≤ 1000000)) && (decide (-1000000 ≤ r.f3) && decide (r.f3 ≤ 1000000))))
def rectsErr : List Rc → Int
  | [] => 0
  | r :: t => if ok1 r = true then (if r.f2 ≤ r.f0 then 13 else if r.f3 ≤ r.f1 then 13 else rectsErr t) else 1
def checkErr (l : List Rc) : Int := if l.length > 2000 then 2 else rectsErr l
structure Good1 (r : Rc) : Prop where
  x : r.f0 < r.f2
  y : r.f1 < r.f3
  b0 : -1000000 ≤ r.f0
  b1 : -1000000 ≤ r.f1
  b2 : r.f2 ≤ 1000000
  b3 : r.f3 ≤ 1000000
theorem Good1.good {r : Rc} (h : Good1 r) : GoodR r := by
  obtain ⟨a, b, c, d, e, f⟩ := h
  exact ⟨a, b, by omega, by omega, by omega, by omega⟩
theorem rectsErr_good : ∀ {l : List Rc}, rectsErr l = 0 ↔ ∀ r ∈ l, Good1 r
  | [] => ⟨fun _ r hr => (by cases hr), fun _ => rfl⟩
  | r :: t => by
    have ih := rectsErr_good (l := t)
    rw [rectsErr]
    by_cases h : ok1 r = true
    · rw [if_pos h]
      unfold ok1 at h
      simp only [Bool.and_eq_true, decide_eq_true_eq] at h
      by_cases hx : r.f2 ≤ r.f0
      · rw [if_pos hx]
        exact ⟨fun e => by simp at e, fun g => by have := (g r List.mem_cons_self).x; omega⟩
      · rw [if_neg hx]
        by_cases hy : r.f3 ≤ r.f1
        · rw [if_pos hy]
          exact ⟨fun e => by simp at e, fun g => by have := (g r List.mem_cons_self).y; omega⟩
        · rw [if_neg hy, ih]
          constructor
          · intro g q hq
            rcases List.mem_cons.1 hq with rfl | hq
            · exact ⟨by omega, by omega, by omega, by omega, by omega, by omega⟩
            · exact g q hq
          · exact fun g q hq => g q (List.mem_cons_of_mem _ hq)
    · rw [if_neg h]
      refine ⟨fun e => by simp at e, fun g => absurd ?_ h⟩
      obtain ⟨a, b, c, d, e, f⟩ := g r List.mem_cons_self
      unfold ok1
      simp only [Bool.and_eq_true, decide_eq_true_eq]
      omega
theorem checkErr_good {l : List Rc} : checkErr l = 0 ↔ l.length ≤ 2000 ∧ ∀ r ∈ l, Good1 r := by
  unfold checkErr
  by_cases h : l.length > 2000
  · rw [if_pos h]; exact ⟨fun e => by simp at e, fun g => by omega⟩
  · rw [if_neg h, rectsErr_good]; exact ⟨fun g => ⟨by omega, g⟩, fun g => g.2⟩
theorem checkRects_spec (l : List Rc) : Tot (fun k => shape_CheckRects.f k l) fun t => t = checkErr l := by
  unfold shape_CheckRects.f checkErr
  by_cases hl : l.length > 2000
  · rw [if_pos hl]
    exact Tot.ite (fun _ => Tot.pure _ rfl) (fun h => by exfalso; omega)
  · rw [if_neg hl]
    refine Tot.of ?_ fun k => if_neg (by omega)
    have key := up_tot (α := Int) (σ := Unit) (F := fun k _ j => shape_CheckRects.l0 k l (l.length : Int) (j : Int)) (n := l.length) (Q := fun _ j t => t = rectsErr (l.drop j)) (fun _ j hj ih => ?_) (fun _ => ?_) l.length () 0 (by omega)
    · exact key.imp fun t ht => by rw [ht, List.drop_zero]
    · simp only [shape_CheckRects.l0, isRect_some, Option.bind_some, w1 hj (by omega : l.length ≤ 9223372036854775807), rdT44 hj, List.drop_eq_getElem_cons hj, rectsErr]
      refine Tot.ite (fun _ => ?_) (fun _ => by exfalso; omega)
      refine Tot.ite (fun _ => ?_) (fun _ => by exfalso; omega)
      refine Tot.ite (fun _ => ?_) (fun _ => by exfalso; omega)
      refine Tot.ite (fun h => ?_) (fun h => Tot.pure _ (by rw [if_neg (by exact h)]))
      refine Tot.ite (fun hx => Tot.pure _ (by rw [if_pos (by exact h), if_pos hx])) (fun hx => ?_)
      refine Tot.ite (fun hy => Tot.pure _ (by rw [if_pos (by exact h), if_neg hx, if_pos hy])) (fun hy => ?_)
      exact (ih ()).imp fun t ht => by rw [if_pos (by exact h), if_neg hx, if_neg hy, ht]
    · simp only [shape_CheckRects.l0]
      exact Tot.ite (fun _ => by exfalso; omega) (fun _ => Tot.pure _ (by rw [List.drop_length]; rfl))
def IsForm (l : List Rc) : Prop := ∃ s, Shape s (covR l) ∧ l = rectsP s
def RegionIs (l : List Rc) (t : Int) : Prop :=
  (checkErr l ≠ 0 ∧ t = checkErr l) ∨ (checkErr l = 0 ∧ ((shape_CheckRegion.ord l = false ∧ t = 8) ∨ (shape_CheckRegion.ord l = true ∧ ((IsForm l ∧ t = 0) ∨ (¬ IsForm l ∧ t = 3)))))
theorem RegionIs.zero {l : List Rc} {t : Int} (h : RegionIs l t) (h0 : t = 0) : l.length ≤ 2000 ∧ (∀ r ∈ l, Good1 r) ∧ IsForm l := by
  rcases h with ⟨h1, h2⟩ | ⟨h1, ⟨_, h2⟩ | ⟨_, ⟨h2, _⟩ | ⟨_, h2⟩⟩⟩
  · exact absurd (h2.symm.trans h0) h1
  · rw [h2] at h0; simp at h0
  · exact ⟨(checkErr_good.1 h1).1, (checkErr_good.1 h1).2, h2⟩
  · rw [h2] at h0; simp at h0
theorem checkRegion_spec (l : List Rc) : Tot (fun k => shape_CheckRegion.f k l) (RegionIs l) := by
  unfold shape_CheckRegion.f
  refine Tot.bind (checkRects_spec l) fun t ht => Tot.ite (fun h0 => ?_) fun h0 => Tot.pure _ (.inl ⟨by rwa [← ht], ht⟩)
  rw [h0] at ht
  obtain ⟨hl, hg⟩ := checkErr_good.1 ht.symm
  refine Tot.ite (fun ho => ?_) fun ho => Tot.pure _ (.inr ⟨ht.symm, .inl ⟨by simpa using ho, rfl⟩⟩)
  refine Tot.bind (setOf_tot l (fun r hr => (hg r hr).good) (by omega)) fun s hs => ?_
  obtain ⟨hsh, hsl, hsb⟩ := hs
  have hlen : (rectsP s).length ≤ 8000000 := by have h1 := rectsP_len l.length s hsb; have h2 : s.length * l.length ≤ 4000 * 2000 := Nat.mul_le_mul (by omega) hl; omega
  refine Tot.bind (rects_tot s (fun b hb => (hsh.can.ok b hb).even) (by omega) (fun b hb => by have := hsb b hb; omega) (by omega)) fun q hq => ?_
  subst hq
  refine Tot.bind (equalR_tot (rectsP s) l (by omega)) fun b hb => Tot.pure _ (.inr ⟨ht.symm, .inr ⟨ho, ?_⟩⟩)
  cases b with
  | true => exact .inl ⟨⟨s, hsh, (hb.1 rfl).symm⟩, rfl⟩
  | false =>
    refine .inr ⟨fun ⟨s', h1, h2⟩ => ?_, rfl⟩
    rw [Shape.inj h1 hsh] at h2
    have := hb.2 h2.symm
    simp at this
theorem rectsB_sorted (y0 y1 : Int) : ∀ (n : Nat) (xs : List Int), xs.length = n → Inc xs → (rectsB y0 y1 xs).Pairwise fun a b => a.f1 = b.f1 ∧ a.f0 < b.f0 := by
  intro n
  induction n using Nat.strongRecOn with
  | _ n ih =>
    intro xs hn hi
    match xs, hn, hi with
    | [], _, _ => exact List.Pairwise.nil
    | [a], _, _ => exact List.Pairwise.nil
    | a :: b :: r, hn, hi =>
      rw [rectsB]
      refine List.pairwise_cons.2 ⟨fun q hq => ?_, ih r.length (by simp only [List.length_cons] at hn; omega) r rfl (inc_tail (inc_tail hi))⟩
      obtain ⟨h1, h2⟩ := rectsB_mem y0 y1 r.length r rfl q hq
      have := inc_head hi q.f0 (List.mem_cons_of_mem _ h2)
      exact ⟨h1.symm, this⟩
where
  rectsB_mem (y0 y1 : Int) : ∀ (n : Nat) (xs : List Int), xs.length = n → ∀ q ∈ rectsB y0 y1 xs, q.f1 = y0 ∧ q.f0 ∈ xs := by
    intro n
    induction n using Nat.strongRecOn with
    | _ n ih =>
      intro xs hn q hq
      match xs, hn, hq with
      | [], _, hq => simp [rectsB] at hq
      | [a], _, hq => simp [rectsB] at hq
      | a :: b :: r, hn, hq =>
        rw [rectsB] at hq
        rcases List.mem_cons.1 hq with rfl | hq
        · exact ⟨rfl, List.mem_cons_self⟩
        · obtain ⟨h1, h2⟩ := ih r.length (by simp only [List.length_cons] at hn; omega) r rfl q hq
          exact ⟨h1, List.mem_cons_of_mem _ (List.mem_cons_of_mem _ h2)⟩
theorem rectsP_low : ∀ {s : List Bd}, Can s → ∀ q ∈ rectsP s, ∃ b ∈ s, q.f1 = b.f0
  | [], _, q, hq => by simp [rectsP] at hq
  | b :: s, h, q, hq => by
    have e : rectsP (b :: s) = rectsB b.f0 b.f1 b.f2 ++ rectsP s := by simp [rectsP]
    rw [e] at hq
    rcases List.mem_append.1 hq with hq | hq
    · exact ⟨b, List.mem_cons_self, (rectsB_sorted.rectsB_mem _ _ _ _ rfl q hq).1⟩
    · obtain ⟨c, hc, he⟩ := rectsP_low h.tail q hq
      exact ⟨c, List.mem_cons_of_mem _ hc, he⟩
theorem rectsP_sorted : ∀ {s : List Bd}, Can s → (rectsP s).Pairwise fun a b => a.f1 < b.f1 ∨ (a.f1 = b.f1 ∧ a.f0 < b.f0)
  | [], _ => by simp [rectsP]
  | b :: s, h => by
    have e : rectsP (b :: s) = rectsB b.f0 b.f1 b.f2 ++ rectsP s := by simp [rectsP]
    have hb := h.ok b List.mem_cons_self
    rw [e]
    refine List.pairwise_append.2 ⟨(rectsB_sorted _ _ _ _ rfl hb.inc).imp fun h => .inr h, rectsP_sorted h.tail, fun p hp q hq => .inl ?_⟩
    have h1 := (rectsB_sorted.rectsB_mem _ _ _ _ rfl p hp).1
    obtain ⟨c, hc, h2⟩ := rectsP_low h.tail q hq
    have := h.above c hc
    have := hb.lt
    omega
theorem ord_rectsP {s : List Bd} (h : Can s) : shape_CheckRegion.ord (rectsP s) = true := by
  unfold shape_CheckRegion.ord
  rw [List.all_eq_true]
  intro i hi
  have hi := List.mem_range.1 hi
  rw [rdT44 (by omega), rdT44 (by omega)]
  have := List.pairwise_iff_getElem.1 (rectsP_sorted h) i (i + 1) (by omega) (by omega) (by omega)
  unfold shape_CheckRegion.bad
  simp only [Bool.not_eq_true', Bool.or_eq_false_iff, Bool.and_eq_false_iff, decide_eq_false_iff_not]
  omega
def kp (a b : Bool) : Bool := a && !b
theorem less1 (a b : Bool) : shape_Set_Less_1.f a b = some (kp a b) := by cases a <;> rfl
theorem mn_min (a b : Int) : mn a b = min a b := by unfold mn; split <;> omega
theorem mx_max (a b : Int) : mx a b = max a b := by unfold mx; split <;> omega
theorem line_j3 (k : Nat) (a b out : List Int) (p q is : Bool) (x : Int) (ho : out.length < 17592186044416) :
    shape_line_with_shape_Set_Less_1.j3 (k + 4) a b out p q is x =
      shape_line_with_shape_Set_Less_1.l0 k (if a.head? = some x then a.tail else a) (if b.head? = some x then b.tail else b)
        (if kp (if a.head? = some x then !p else p) (if b.head? = some x then !q else q) != is then out ++ [x] else out)
        (if a.head? = some x then !p else p) (if b.head? = some x then !q else q) (kp (if a.head? = some x then !p else p) (if b.head? = some x then !q else q)) := by
  have fin : ∀ (a b : List Int) (p q : Bool), (if (kp p q != is) = true then (if out.length < 17592186044416 then (shape_line_with_shape_Set_Less_1.l0 k a b (out ++ [x]) p q (kp p q)) else (none)) else (shape_line_with_shape_Set_Less_1.l0 k a b out p q is)) = shape_line_with_shape_Set_Less_1.l0 k a b (if kp p q != is then out ++ [x] else out) p q (kp p q) := by
    intro a b p q
    by_cases h : (kp p q != is) = true
    · rw [if_pos h, if_pos h, if_pos ho]
    · rw [if_neg h, if_neg h]
      have : kp p q = is := by simpa using h
      rw [this]
  have stepB : ∀ (a : List Int) (p : Bool), shape_line_with_shape_Set_Less_1.j5 (k + 2) a b out p q is x = shape_line_with_shape_Set_Less_1.l0 k a (if b.head? = some x then b.tail else b) (if kp p (if b.head? = some x then !q else q) != is then out ++ [x] else out) p (if b.head? = some x then !q else q) (kp p (if b.head? = some x then !q else q)) := by
    intro a p
    cases b with
    | nil =>
      simp only [shape_line_with_shape_Set_Less_1.j5]
      rw [if_neg (by simp)]
      simp only [shape_line_with_shape_Set_Less_1.j6, less1, Option.bind_some, Bool.false_eq_true, if_false, List.head?_nil, reduceCtorEq]
      exact fin _ _ _ _
    | cons v r =>
      have e0 : rd (v :: r) 0 = v := rfl
      simp only [shape_line_with_shape_Set_Less_1.j5]
      rw [if_pos (by simp <;> omega), if_pos (by simp <;> omega), e0]
      by_cases hv : v = x
      · subst hv
        simp only [shape_line_with_shape_Set_Less_1.j6, less1, Option.bind_some, beq_self_eq_true, if_true, List.head?_cons, List.tail_cons]
        rw [if_pos (by simp <;> omega)]
        exact fin _ _ _ _
      · have hb : (v == x) = false := by simpa using hv
        have hs : ¬ (some v = some x) := fun h => hv (Option.some.inj h)
        simp only [hb, shape_line_with_shape_Set_Less_1.j6, less1, Option.bind_some, Bool.false_eq_true, if_false, List.head?_cons, hs]
        exact fin _ _ _ _
  cases a with
  | nil =>
    rw [shape_line_with_shape_Set_Less_1.j3, if_neg (by simp), shape_line_with_shape_Set_Less_1.j4, if_neg (by simp), stepB]
    rfl
  | cons u l =>
    have e0 : rd (u :: l) 0 = u := rfl
    rw [shape_line_with_shape_Set_Less_1.j3, if_pos (by simp <;> omega), if_pos (by simp <;> omega), e0, shape_line_with_shape_Set_Less_1.j4]
    by_cases hu : u = x
    · subst hu
      rw [if_pos (by simp), if_pos (by simp <;> omega), stepB]
      simp
    · have hs : ¬ ((u :: l).head? = some x) := fun h => hu (Option.some.inj h)
      rw [if_neg (by simpa using hu), stepB]
      simp only [if_neg hs]
theorem line_ev : ∀ (n : Nat) (a b out : List Int) (p q is : Bool), a.length + b.length ≤ n → out.length + n ≤ 17000000000000 →
    ∃ K, ∀ k, K ≤ k → shape_line_with_shape_Set_Less_1.l0 k a b out p q is = some (out ++ mline kp n a b p q is) := by
  intro n
  induction n with
  | zero =>
    intro a b out p q is hn ho
    obtain rfl : a = [] := List.length_eq_zero_iff.1 (by omega)
    obtain rfl : b = [] := List.length_eq_zero_iff.1 (by omega)
    refine ⟨2, fun k hk => ?_⟩
    obtain ⟨k, rfl⟩ : ∃ m, k = m + 2 := ⟨k - 2, by omega⟩
    rw [shape_line_with_shape_Set_Less_1.l0, if_neg (by simp), shape_line_with_shape_Set_Less_1.j1, if_neg (by simp)]
    simp [mline]
  | succ n ih =>
    intro a b out p q is hn ho
    have hlen : ∀ (c : Bool) (x : Int), (if c then out ++ [x] else out).length + n ≤ 17000000000000 := fun c x => by cases c <;> simp <;> omega
    have hcat : ∀ (c : Bool) (x : Int) (m : List Int), (if c then out ++ [x] else out) ++ m = out ++ ((if c then [x] else []) ++ m) := fun c x m => by cases c <;> simp
    cases a with
    | nil =>
      cases b with
      | nil =>
        refine ⟨2, fun k hk => ?_⟩
        obtain ⟨k, rfl⟩ : ∃ m, k = m + 2 := ⟨k - 2, by omega⟩
        rw [shape_line_with_shape_Set_Less_1.l0, if_neg (by simp), shape_line_with_shape_Set_Less_1.j1, if_neg (by simp)]
        simp [mline]
      | cons v r =>
        obtain ⟨K, hK⟩ := ih [] r (if kp p (!q) != is then out ++ [v] else out) p (!q) (kp p (!q)) (by simp at hn ⊢ <;> omega) (hlen _ _)
        refine ⟨K + 7, fun k hk => ?_⟩
        obtain ⟨k, rfl⟩ : ∃ m, k = m + 7 := ⟨k - 7, by omega⟩
        rw [shape_line_with_shape_Set_Less_1.l0, if_neg (by simp), shape_line_with_shape_Set_Less_1.j1, if_pos (by simp <;> omega), if_neg (by simp <;> omega), if_neg (by simp), shape_line_with_shape_Set_Less_1.j2, if_neg (by simp), if_pos (by simp <;> omega), show rd (v :: r) 0 = v from rfl, line_j3 _ _ _ _ _ _ _ _ (by omega)]
        have h1 : ¬ (([] : List Int).head? = some v) := by simp
        have h2 : (v :: r).head? = some v := rfl
        simp only [if_neg h1, if_pos h2, List.tail_cons]
        rw [hK k (by omega), mline, hcat]
    | cons u l =>
      cases b with
      | nil =>
        obtain ⟨K, hK⟩ := ih l [] (if kp (!p) q != is then out ++ [u] else out) (!p) q (kp (!p) q) (by simp at hn ⊢ <;> omega) (hlen _ _)
        refine ⟨K + 7, fun k hk => ?_⟩
        obtain ⟨k, rfl⟩ : ∃ m, k = m + 7 := ⟨k - 7, by omega⟩
        rw [shape_line_with_shape_Set_Less_1.l0, if_pos (by simp <;> omega), shape_line_with_shape_Set_Less_1.j1, if_pos rfl, if_pos (by simp), shape_line_with_shape_Set_Less_1.j2, if_pos rfl, if_pos (by simp <;> omega), show rd (u :: l) 0 = u from rfl, line_j3 _ _ _ _ _ _ _ _ (by omega)]
        have h1 : ¬ (([] : List Int).head? = some u) := by simp
        have h2 : (u :: l).head? = some u := rfl
        simp only [if_neg h1, if_pos h2, List.tail_cons]
        rw [hK k (by omega), mline, hcat]
      | cons v r =>
        have start : ∀ k, shape_line_with_shape_Set_Less_1.l0 (k + 7) (u :: l) (v :: r) out p q is = shape_line_with_shape_Set_Less_1.j3 (k + 4) (u :: l) (v :: r) out p q is (if u ≤ v then u else v) := by
          intro k
          rw [shape_line_with_shape_Set_Less_1.l0, if_pos (by simp <;> omega), shape_line_with_shape_Set_Less_1.j1, if_pos rfl, if_neg (by simp <;> omega), if_pos (by simp <;> omega), if_pos (by simp <;> omega), if_pos (by simp <;> omega), shape_line_with_shape_Set_Less_1.j2, show rd (u :: l) 0 = u from rfl, show rd (v :: r) 0 = v from rfl]
          by_cases h : u ≤ v
          · rw [if_pos (decide_eq_true h), if_pos (by simp <;> omega), if_pos h]
          · rw [if_neg (by simpa using h), if_pos (by simp <;> omega), if_neg h]
        by_cases h1 : u < v
        · obtain ⟨K, hK⟩ := ih l (v :: r) (if kp (!p) q != is then out ++ [u] else out) (!p) q (kp (!p) q) (by simp at hn ⊢ <;> omega) (hlen _ _)
          refine ⟨K + 7, fun k hk => ?_⟩
          obtain ⟨k, rfl⟩ : ∃ m, k = m + 7 := ⟨k - 7, by omega⟩
          rw [start, if_pos (by omega), line_j3 _ _ _ _ _ _ _ _ (by omega)]
          have h2 : (u :: l).head? = some u := rfl
          have h3 : ¬ ((v :: r).head? = some u) := fun h => by have := Option.some.inj h; omega
          simp only [if_neg h3, if_pos h2, List.tail_cons]
          rw [hK k (by omega), mline, if_pos h1, hcat]
        · by_cases h2 : v < u
          · obtain ⟨K, hK⟩ := ih (u :: l) r (if kp p (!q) != is then out ++ [v] else out) p (!q) (kp p (!q)) (by simp at hn ⊢ <;> omega) (hlen _ _)
            refine ⟨K + 7, fun k hk => ?_⟩
            obtain ⟨k, rfl⟩ : ∃ m, k = m + 7 := ⟨k - 7, by omega⟩
            rw [start, if_neg (by omega), line_j3 _ _ _ _ _ _ _ _ (by omega)]
            have h4 : (v :: r).head? = some v := rfl
            have h3 : ¬ ((u :: l).head? = some v) := fun h => by have := Option.some.inj h; omega
            simp only [if_neg h3, if_pos h4, List.tail_cons]
            rw [hK k (by omega), mline, if_neg h1, if_pos h2, hcat]
          · obtain rfl : u = v := by omega
            obtain ⟨K, hK⟩ := ih l r (if kp (!p) (!q) != is then out ++ [u] else out) (!p) (!q) (kp (!p) (!q)) (by simp at hn ⊢ <;> omega) (hlen _ _)
            refine ⟨K + 7, fun k hk => ?_⟩
            obtain ⟨k, rfl⟩ : ∃ m, k = m + 7 := ⟨k - 7, by omega⟩
            rw [start, if_pos (by omega), line_j3 _ _ _ _ _ _ _ _ (by omega)]
            have h4 : ∀ r : List Int, (u :: r).head? = some u := fun _ => rfl
            simp only [if_pos (h4 _), List.tail_cons]
            rw [hK k (by omega), mline, if_neg h1, if_neg h2, hcat]
theorem at_some (a : List Bd) (y e : Int) : shape_Set_at.f a y e = some (atP a y e) := by
  unfold shape_Set_at.f
  cases a with
  | nil => rw [if_pos (by simp)]; rfl
  | cons b r =>
    have e0 : atP (b :: r) y e = if y < b.f0 then ([], min e b.f0) else (b.f2, min e b.f1) := rfl
    rw [if_neg (by simp <;> omega), if_pos (by simp <;> omega), show rd_T118 (b :: r) 0 = b from rfl, e0, mn_min, mn_min]
    split <;> rfl
theorem merge_l0 : ∀ (n : Nat) (a b : List Bd) (y e : Int) (out r : List Bd), mergeL kp n a b y e out = some r → (∀ c ∈ a, c.f2.length ≤ 1900000000) → (∀ c ∈ b, c.f2.length ≤ 1900000000) → (∀ c ∈ out, c.f2.length ≤ 3800000000) → out.length + n ≤ 4000000000 →
    ∃ K, ∀ k, K ≤ k → shape_Merge_with_shape_Set_Less_1.l0 k a b y e out = some r := by
  intro n
  induction n with
  | zero => intro a b y e out r h; simp [mergeL] at h
  | succ n ih =>
    intro a b y e out r h ha hb ho hn
    rw [mergeL] at h
    by_cases hlt : y < e
    · rw [if_pos hlt] at h
      have la := at_len (y := y) (e := e) ha
      have lb := at_len (y := y) (e := e) hb
      have hml := mline_len kp ((atP (dropW y a) y e).1.length + (atP (dropW y b) y e).1.length) (atP (dropW y a) y e).1 (atP (dropW y b) y e).1 false false false
      obtain ⟨K1, hK1⟩ := line_ev ((atP (dropW y a) y e).1.length + (atP (dropW y b) y e).1.length) (atP (dropW y a) y e).1 (atP (dropW y b) y e).1 [] false false false (Nat.le_refl _) (by simp <;> omega)
      obtain ⟨xs, hxs⟩ : ∃ xs, mline kp ((atP (dropW y a) y e).1.length + (atP (dropW y b) y e).1.length) (atP (dropW y a) y e).1 (atP (dropW y b) y e).1 false false false = xs := ⟨_, rfl⟩
      rw [hxs] at h hml hK1
      obtain ⟨K2, hK2⟩ := push_ev out y (min (atP (dropW y a) y e).2 (atP (dropW y b) y e).2) xs (by omega) (by omega) (fun c hc => by have := ho c hc; omega)
      obtain ⟨K3, hK3⟩ := ih _ _ _ _ _ _ h (fun c hc => ha c (dropW_mem hc)) (fun c hc => hb c (dropW_mem hc)) (pushP_xs ho (by show xs.length ≤ _; omega)) (by have := pushP_len out ⟨y, min (atP (dropW y a) y e).2 (atP (dropW y b) y e).2, xs⟩; omega)
      refine ⟨max K1 (max K2 K3) + 1, fun k hk => ?_⟩
      obtain ⟨k, rfl⟩ : ∃ m, k = m + 1 := ⟨k - 1, by omega⟩
      rw [shape_Merge_with_shape_Set_Less_1.l0, if_pos hlt]
      have d : ∀ a : List Bd, shape_Merge_with_shape_Set_Less_1.drop y a = dropW y a := fun _ => rfl
      simp only [d, at_some, Option.bind_some]
      have e1 := hK1 k (by omega)
      rw [List.nil_append] at e1
      have e1' : shape_line_with_shape_Set_Less_1.f k (atP (dropW y a) y e).1 (atP (dropW y b) y e).1 = some xs := e1
      have e2 := hK2 k (by omega)
      simp only at e2
      rw [e1', Option.bind_some, mn_min, e2, Option.bind_some]
      exact hK3 k (by omega)
    · rw [if_neg hlt] at h
      obtain rfl := Option.some.inj h
      refine ⟨1, fun k hk => ?_⟩
      obtain ⟨k, rfl⟩ : ∃ m, k = m + 1 := ⟨k - 1, by omega⟩
      rw [shape_Merge_with_shape_Set_Less_1.l0, if_neg hlt]
def Box (B : Int) (c : Int → Int → Bool) : Prop := ∀ y x, c y x = true → -B ≤ x ∧ x < B ∧ -B ≤ y ∧ y < B
theorem Box.mono {B B' : Int} {c : Int → Int → Bool} (h : Box B c) (hb : B ≤ B') : Box B' c := fun y x hc => by
  have := h y x hc
  omega
theorem Shape.high {s : List Bd} {c : Int → Int → Bool} (h : Shape s c) {B : Int} (hc : Box B c) : ∀ b ∈ s, -B ≤ b.f0 ∧ b.f1 ≤ B := by
  intro b hb
  have hr : ∃ r ∈ rectsP s, r.f1 = b.f0 ∧ r.f3 = b.f1 := by
    have ho := h.can.ok b hb
    have h2 := ho.two
    match hx : b.f2, h2 with
    | a :: d :: q, _ => exact ⟨⟨a, b.f0, d, b.f1⟩, List.mem_flatMap.2 ⟨b, hb, by rw [hx, rectsB]; exact List.mem_cons_self⟩, rfl, rfl⟩
    | [], h2 => simp at h2
    | [a], h2 => simp at h2
  obtain ⟨r, hr, e1, e2⟩ := hr
  have := h.within hc r hr
  omega
theorem top_eq {s : List Bd} (h : 0 < s.length) : ∃ p l, s = p ++ [l] ∧ shape_Merge_with_shape_Set_Less_1.top s = l.f1 := by
  rcases List.eq_nil_or_concat s with rfl | ⟨p, l, rfl⟩
  · simp at h
  · rw [List.concat_eq_append]
    refine ⟨p, l, rfl, ?_⟩
    unfold shape_Merge_with_shape_Set_Less_1.top
    rw [List.length_append, List.length_singleton, Nat.add_sub_cancel, rdT118 (by simp)]
    simp
theorem less_tot {a b : List Bd} {ca cb : Int → Int → Bool} (ha : Shape a ca) (hb : Shape b cb) {A X : Nat} (hA : ∀ c ∈ a, c.f2.length ≤ A) (hX : ∀ c ∈ b, c.f2.length ≤ X) (hA2 : A ≤ 1900000000) (hX2 : X ≤ 1900000000) (ba : Box 4000000 ca) (bb : Box 4000000 cb) :
    Tot (fun k => shape_Set_Less.f k a b) fun r => Shape r (fun y x => kp (ca y x) (cb y x)) ∧ r.length ≤ 2 * a.length + 2 * b.length + 1 ∧ sumXs r ≤ sumXs b + (2 * a.length + 1) * X + (2 * a.length + 2 * b.length + 1) * A ∧ ∀ c ∈ r, c.f2.length ≤ A + X := by
  unfold shape_Set_Less.f
  refine Tot.bind (Q := fun r => Shape r (fun y x => kp (ca y x) (cb y x)) ∧ r.length ≤ 2 * a.length + 2 * b.length + 1 ∧ sumXs r ≤ sumXs b + (2 * a.length + 1) * X + (2 * a.length + 2 * b.length + 1) * A ∧ ∀ c ∈ r, c.f2.length ≤ A + X) ?_ fun r hr => Tot.pure _ hr
  unfold shape_Merge_with_shape_Set_Less_1.f
  by_cases h0 : a.length + b.length = 0
  · obtain rfl := List.length_eq_zero_iff.1 (show a.length = 0 by omega)
    obtain rfl := List.length_eq_zero_iff.1 (show b.length = 0 by omega)
    refine (Tot.pure ([] : List Bd) ?_).of fun k => if_pos h0
    refine ⟨⟨Can.nil, fun y x => ?_⟩, by simp, by simp [sumXs], fun c hc => by simp at hc⟩
    rw [← ha.cov, ← hb.cov]
    rfl
  · refine Tot.of ?_ fun k => if_neg h0
    obtain ⟨lo, hlo⟩ : ∃ lo, shape_Merge_with_shape_Set_Less_1.lo a b = lo := ⟨_, rfl⟩
    obtain ⟨hi, hhi⟩ : ∃ hi, shape_Merge_with_shape_Set_Less_1.hi a b = hi := ⟨_, rfl⟩
    rw [hlo, hhi]
    have low : ∀ {s : List Bd} {c : Int → Int → Bool}, Shape s c → 0 < s.length → ∀ z, z < (rd_T118 s 0).f0 → rowAt s z = [] := fun {s c} h hp z hz => by
      match s, h, hp, hz with
      | b :: r, h, _, hz => exact h.can.low hz
    have high : ∀ {s : List Bd} {c : Int → Int → Bool}, Shape s c → 0 < s.length → ∀ z, shape_Merge_with_shape_Set_Less_1.top s ≤ z → rowAt s z = [] := fun {s c} h hp z hz => by
      obtain ⟨p, l, e, ht⟩ := top_eq hp
      exact h.can.high e (by omega)
    have box : ∀ {s : List Bd} {c : Int → Int → Bool}, Shape s c → Box 4000000 c → 0 < s.length → -4000000 ≤ (rd_T118 s 0).f0 ∧ (rd_T118 s 0).f0 ≤ shape_Merge_with_shape_Set_Less_1.top s ∧ shape_Merge_with_shape_Set_Less_1.top s ≤ 4000000 := fun {s c} h hc hp => by
      obtain ⟨p, l, e, ht⟩ := top_eq hp
      have h1 : l ∈ s := by rw [e]; simp
      have h2 := h.high hc l h1
      have h3 := (h.can.ok l h1).lt
      match s, h, hp, e, h1 with
      | b :: r, h, _, e, h1 =>
        rw [show rd_T118 (b :: r) 0 = b from rfl]
        have h4 := h.high hc b List.mem_cons_self
        have h5 := (h.can.ok b List.mem_cons_self).lt
        refine ⟨h4.1, ?_, by omega⟩
        rcases List.mem_cons.1 h1 with rfl | h1
        · omega
        · have := h.can.above l h1; omega
    have key : lo ≤ hi ∧ -4000000 ≤ lo ∧ hi ≤ 4000000 ∧ (∀ z, z < lo → rowAt a z = [] ∧ rowAt b z = []) ∧ (∀ z, hi ≤ z → rowAt a z = [] ∧ rowAt b z = []) := by
      unfold shape_Merge_with_shape_Set_Less_1.lo at hlo
      unfold shape_Merge_with_shape_Set_Less_1.hi at hhi
      by_cases h1 : a.length = 0
      · rw [if_pos h1] at hlo hhi
        obtain rfl := List.length_eq_zero_iff.1 h1
        have q := box hb bb (by omega)
        exact ⟨by omega, by omega, by omega, fun z hz => ⟨rfl, low hb (by omega) z (by omega)⟩, fun z hz => ⟨rfl, high hb (by omega) z (by omega)⟩⟩
      · rw [if_neg h1] at hlo hhi
        have p := box ha ba (by omega)
        by_cases h2 : b.length = 0
        · rw [if_pos h2] at hlo hhi
          obtain rfl := List.length_eq_zero_iff.1 h2
          exact ⟨by omega, by omega, by omega, fun z hz => ⟨low ha (by omega) z (by omega), rfl⟩, fun z hz => ⟨high ha (by omega) z (by omega), rfl⟩⟩
        · rw [if_neg h2, mn_min] at hlo
          rw [if_neg h2, mx_max] at hhi
          have q := box hb bb (by omega)
          exact ⟨by omega, by omega, by omega, fun z hz => ⟨low ha (by omega) z (by omega), low hb (by omega) z (by omega)⟩, fun z hz => ⟨high ha (by omega) z (by omega), high hb (by omega) z (by omega)⟩⟩
    obtain ⟨k1, k2, k3, k4, k5⟩ := key
    obtain ⟨r, h1, h2⟩ := merge_shape kp rfl ha hb lo hi k1 k4 k5 ((hi - lo).toNat + 1) (by omega)
    obtain ⟨K, hK⟩ := merge_l0 _ _ _ _ _ _ _ h1 (fun c hc => Nat.le_trans (hA c hc) hA2) (fun c hc => Nat.le_trans (hX c hc) hX2) (fun c hc => by simp at hc) (by simp <;> omega)
    obtain ⟨s1, s2, s3⟩ := merge_size kp hi A X _ _ _ _ _ _ h1 hA hX
    have ea := endsOver_le a lo
    have eb := endsOver_le b lo
    have es := sumOver_le b lo
    refine ⟨K, r, hK, h2, by simp at s1; omega, ?_, s3 fun c hc => by simp at hc⟩
    have m1 := Nat.mul_le_mul_right X (show endsOver a lo + 1 ≤ 2 * a.length + 1 by omega)
    have m2 := Nat.mul_le_mul_right A (show endsOver a lo + endsOver b lo + 1 ≤ 2 * a.length + 2 * b.length + 1 by omega)
    simp only [sumXs] at s2
    omega
end Go.Proofs.YthkeonbmgcphkaaGreatDoorPlain
