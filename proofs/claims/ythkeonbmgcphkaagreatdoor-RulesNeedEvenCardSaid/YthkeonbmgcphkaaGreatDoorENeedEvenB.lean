-- Written by this session's own programs (wip/tools).
import Derived.Test.YthkeonbmgcphkaaGreatDoorESetsB
import Derived.Lib.SplitLaws
import Derived.Test.YthkeonbmgcphkaaGreatDoorEPBx12
namespace Go.Proofs.YthkeonbmgcphkaaGreatDoorPlain
open Go.RowKit Go.Proofs.YthkeonbmgcphkaaGreatDoor.PB Go.Proofs.YthkeonbmgcphkaaGreatDoorW.PrintWords
set_option linter.unusedVariables false
set_option linter.unusedSimpArgs false
def Tot {α : Type} (f : Nat → Option α) (Q : α → Prop) : Prop := ∃ K r, (∀ k, K ≤ k → f k = some r) ∧ Q r
theorem Tot.pure {α : Type} {Q : α → Prop} (r : α) (h : Q r) : Tot (fun _ => some r) Q := ⟨0, r, fun _ _ => rfl, h⟩
theorem Tot.bind {α β : Type} {f : Nat → Option α} {g : α → Nat → Option β} {Q : α → Prop} {R : β → Prop} (h : Tot f Q) (hg : ∀ r, Q r → Tot (g r) R) : Tot (fun k => (f k).bind fun r => g r k) R := by
  obtain ⟨K, r, hk, hq⟩ := h
  obtain ⟨K', r', hk', hr⟩ := hg r hq
  refine ⟨max K K', r', fun k h => ?_, hr⟩
  show (f k).bind _ = _
  rw [hk k (by omega)]
  exact hk' k (by omega)
theorem Tot.imp {α : Type} {f : Nat → Option α} {Q R : α → Prop} (h : Tot f Q) (hq : ∀ r, Q r → R r) : Tot f R := by
  obtain ⟨K, r, h1, h2⟩ := h
  exact ⟨K, r, h1, hq r h2⟩
theorem Tot.of {α : Type} {f g : Nat → Option α} {Q : α → Prop} (h : Tot g Q) (e : ∀ k, f k = g k) : Tot f Q := by
  obtain ⟨K, r, h1, h2⟩ := h
  exact ⟨K, r, fun k hk => (e k).trans (h1 k hk), h2⟩
theorem Tot.succ {α : Type} {f g : Nat → Option α} {Q : α → Prop} (h : Tot g Q) (e : ∀ k, f (k + 1) = g k) : Tot f Q := by
  obtain ⟨K, r, h1, h2⟩ := h
  refine ⟨K + 1, r, fun k hk => ?_, h2⟩
  obtain ⟨k, rfl⟩ : ∃ m, k = m + 1 := ⟨k - 1, by omega⟩
  exact (e k).trans (h1 k (by omega))
theorem Tot.ite {α : Type} {c : Prop} [Decidable c] {f g : Nat → Option α} {Q : α → Prop} (h1 : c → Tot f Q) (h2 : ¬ c → Tot g Q) : Tot (fun k => if c then f k else g k) Q := by
  by_cases h : c
  · exact (h1 h).of fun k => if_pos h
  · exact (h2 h).of fun k => if_neg h
theorem up_tot {α σ : Type} {F : Nat → σ → Nat → Option α} {n : Nat} {Q : σ → Nat → α → Prop} (step : ∀ s j, j < n → (∀ s', Tot (fun k => F k s' (j + 1)) (Q s' (j + 1))) → Tot (fun k => F (k + 1) s j) (Q s j)) (last : ∀ s, Tot (fun k => F (k + 1) s n) (Q s n)) :
    ∀ d s j, j + d = n → Tot (fun k => F k s j) (Q s j) := by
  intro d
  induction d with
  | zero =>
    intro s j hj
    obtain rfl : j = n := by omega
    exact (last s).succ fun k => rfl
  | succ d ih =>
    intro s j hj
    exact (step s j (by omega) fun s' => ih s' (j + 1) (by omega)).succ fun k => rfl
theorem w1 {j n : Nat} (h : j < n) (hn : n ≤ 9223372036854775807) : wrap64 ((j : Int) + 1) = ((j + 1 : Nat) : Int) := by rw [w64 (by omega) (by omega)]; omega
theorem isWord_tot (a : ByteArray) (ha : a.size ≤ 9223372036854775807) : Tot (fun k => netlist_IsWord.f k a) fun _ => True := by
  refine up_tot (α := Bool) (σ := Unit) (F := fun k _ j => netlist_IsWord.l0 k a (a.size : Int) (j : Int)) (n := a.size) (Q := fun _ _ _ => True) (fun _ j hj ih => ?_) (fun _ => ?_) a.size () 0 (by omega)
  · simp only [netlist_IsWord.l0, strings_IndexByte.f, Option.bind_some, w1 hj ha]
    repeat' first
      | (exfalso; omega)
      | (refine Tot.ite (fun _ => ?_) (fun _ => ?_))
      | (exact ih ())
      | (exact Tot.pure _ trivial)
  · simp only [netlist_IsWord.l0]
    repeat' first
      | (exfalso; omega)
      | (refine Tot.ite (fun _ => ?_) (fun _ => ?_))
      | (exact Tot.pure _ trivial)
theorem splitB_size (sep : ByteArray) (save : Nat) : ∀ (k : Nat) (s x : ByteArray), x ∈ Lib.splitB sep save k s → x.size ≤ s.size
  | 0, s, x, h => by
    rw [Lib.splitB_zero, List.mem_singleton] at h
    rw [h]
    exact Nat.le_refl _
  | k + 1, s, x, h => by
    unfold Lib.splitB at h
    split at h
    · rw [List.mem_singleton] at h
      rw [h]
      exact Nat.le_refl _
    · rcases List.mem_cons.1 h with rfl | h
      · rw [ByteArray.size_extract]; omega
      · have := splitB_size sep save k _ x h
        rw [ByteArray.size_extract] at this
        omega
theorem isPath_tot (a : ByteArray) : Tot (fun k => netlist_IsPath.f k a) fun _ => True := by
  unfold netlist_IsPath.f
  refine Tot.ite (fun h => ?_) (fun _ => Tot.pure _ trivial)
  have h1 : strings_Split.f a ⟨#[47]⟩ = some (Lib.splitB ⟨#[47]⟩ 0 (Lib.countB a ⟨#[47]⟩) a) := by
    unfold strings_Split.f
    rw [if_pos (by omega), if_pos (by decide)]
  simp only [h1, Option.bind_some]
  have hlen : (Lib.splitB ⟨#[47]⟩ 0 (Lib.countB a ⟨#[47]⟩) a).length ≤ 300 := by
    have h2 := Lib.splitB_length_le ⟨#[47]⟩ 0 (Lib.countB a ⟨#[47]⟩) a
    have h3 := Lib.countB_le ⟨#[47]⟩ (by decide) a.size a (Nat.le_refl _)
    omega
  have hsz : ∀ x ∈ Lib.splitB ⟨#[47]⟩ 0 (Lib.countB a ⟨#[47]⟩) a, x.size ≤ 9223372036854775807 := fun x hx => by have := splitB_size _ _ _ _ x hx; omega
  generalize Lib.splitB ⟨#[47]⟩ 0 (Lib.countB a ⟨#[47]⟩) a = l at hlen hsz ⊢
  refine Tot.bind (Q := fun _ => True) ?_ fun _ _ => Tot.pure _ trivial
  unfold slices_ContainsFunc_string_string_with_netlist_IsPath_1.f
  refine Tot.bind (Q := fun _ => True) ?_ fun _ _ => Tot.pure _ trivial
  refine up_tot (α := Int) (σ := Unit) (F := fun k _ j => slices_IndexFunc_string_string_with_netlist_IsPath_1.l0 k l (l.length : Int) (j : Int)) (n := l.length) (Q := fun _ _ _ => True) (fun _ j hj ih => ?_) (fun _ => ?_) l.length () 0 (by omega)
  · simp only [slices_IndexFunc_string_string_with_netlist_IsPath_1.l0, w1 hj (by omega : l.length ≤ 9223372036854775807)]
    repeat' first
      | (exfalso; omega)
      | (refine Tot.ite (fun _ => ?_) (fun _ => ?_))
      | (refine Tot.bind (Q := fun _ => True) ?_ fun t _ => ?_)
      | (exact ih ())
      | (exact Tot.pure _ trivial)
      | (unfold netlist_IsPath_1.f)
      | (exact isWord_tot _ (hsz _ (by unfold rdOf; rw [Int.toNat_natCast, List.getD_eq_getElem?_getD, List.getElem?_eq_getElem hj]; exact List.getElem_mem hj)))
  · simp only [slices_IndexFunc_string_string_with_netlist_IsPath_1.l0]
    repeat' first
      | (exfalso; omega)
      | (refine Tot.ite (fun _ => ?_) (fun _ => ?_))
      | (exact Tot.pure _ trivial)
theorem isNet_tot (a : ByteArray) : Tot (fun k => rules_isNet.f k a) fun _ => True := by
  unfold rules_isNet.f
  exact Tot.ite (fun _ => Tot.pure _ trivial) fun _ => Tot.bind (isPath_tot a) fun _ _ => Tot.pure _ trivial
theorem isRule_some (n : Int) : rules_isRule.f n = some (decide (0 ≤ n) && decide (n ≤ 100000)) := by
  unfold rules_isRule.f rules_within.f
  by_cases h0 : 0 ≤ n
  · rw [if_pos h0]; simp [h0]
  · rw [if_neg h0]; simp [h0]
theorem within_some (a b c : Int) : rules_within.f a b c = some (decide (b ≤ a) && decide (a ≤ c)) := by
  unfold rules_within.f
  by_cases h0 : b ≤ a
  · rw [if_pos h0]; simp [h0]
  · rw [if_neg h0]; simp [h0]
theorem ints_tot (l : List Int) (hl : l.length ≤ 1000) : Tot (fun k => slices_ContainsFunc_int_int_with_rules_CheckRules_1.f k l) fun _ => True := by
  unfold slices_ContainsFunc_int_int_with_rules_CheckRules_1.f
  refine Tot.bind (Q := fun _ => True) ?_ fun _ _ => Tot.pure _ trivial
  refine up_tot (α := Int) (σ := Unit) (F := fun k _ j => slices_IndexFunc_int_int_with_rules_CheckRules_1.l0 k l (l.length : Int) (j : Int)) (n := l.length) (Q := fun _ _ _ => True) (fun _ j hj ih => ?_) (fun _ => ?_) l.length () 0 (by omega)
  · simp only [slices_IndexFunc_int_int_with_rules_CheckRules_1.l0, rules_CheckRules_1.f, isRule_some, Option.bind_some, w1 hj (by omega : l.length ≤ 9223372036854775807)]
    repeat' first
      | (exfalso; omega)
      | (refine Tot.ite (fun _ => ?_) (fun _ => ?_))
      | (exact ih ())
      | (exact Tot.pure _ trivial)
  · simp only [slices_IndexFunc_int_int_with_rules_CheckRules_1.l0]
    repeat' first
      | (exfalso; omega)
      | (refine Tot.ite (fun _ => ?_) (fun _ => ?_))
      | (exact Tot.pure _ trivial)
theorem nets_tot (seen : ByteArray → Bool) : ∀ (l : List ByteArray) (p : Option ByteArray), Tot (fun k => rules_checkClasses.nets k seen l p) fun _ => True
  | [], _ => Tot.pure _ trivial
  | n :: t, p => by
    simp only [rules_checkClasses.nets]
    refine Tot.bind (isPath_tot n) fun b _ => Tot.ite (fun _ => Tot.ite (fun _ => Tot.pure _ trivial) fun _ => Tot.ite (fun _ => Tot.pure _ trivial) fun _ => nets_tot seen t _) fun _ => Tot.pure _ trivial
theorem classesL_tot : ∀ (l : List S66) (p : Option ByteArray) (seen : ByteArray → Bool), (∀ c ∈ l, c.f0.size ≤ 9223372036854775807) → Tot (fun k => rules_checkClasses.l k l p seen) fun t => t = 0 → ∀ c ∈ l, c.f1.length ≤ 1000
  | [], _, _, _ => Tot.pure _ fun _ c hc => by cases hc
  | c :: t, p, seen, hs => by
    simp only [rules_checkClasses.l]
    refine Tot.bind (isWord_tot c.f0 (hs c (List.mem_cons_self ..))) fun b _ => Tot.ite (fun _ => Tot.ite (fun _ => Tot.pure _ fun h => by simp at h) fun hlen => Tot.bind (nets_tot seen c.f1 none) fun t1 _ => Tot.ite (fun _ => Tot.ite (fun _ => Tot.ite (fun _ => Tot.ite (fun _ => Tot.pure _ fun h => by simp at h) fun _ => ?_) fun _ => Tot.pure _ fun h => by simp at h) fun _ => Tot.pure _ fun h => by simp at h) fun h1 => Tot.pure _ fun h => absurd h h1) fun _ => Tot.pure _ fun h => by simp at h
    refine (classesL_tot t _ _ fun x hx => hs x (List.mem_cons_of_mem _ hx)).imp fun r hr h x hx => ?_
    rcases List.mem_cons.1 hx with rfl | hx
    · omega
    · exact hr h x hx
theorem classes_tot (l : List S66) (hs : ∀ c ∈ l, c.f0.size ≤ 9223372036854775807) : Tot (fun k => rules_checkClasses.f k l) fun t => t = 0 → l.length ≤ 50 ∧ ∀ c ∈ l, c.f1.length ≤ 1000 := by
  unfold rules_checkClasses.f
  exact Tot.ite (fun _ => Tot.pure _ fun h => by simp at h) fun h => (classesL_tot l none _ hs).imp fun r hr e => ⟨by omega, hr e⟩
theorem isAt_some (n : Int) : shape_IsAt.f n = some (decide (-1000000 ≤ n) && decide (n ≤ 1000000)) := by
  unfold shape_IsAt.f shape_within.f
  by_cases h0 : n ≥ -1000000
  · rw [if_pos h0]; simp [h0]
  · rw [if_neg h0]; simp [h0]
theorem isRect_some (a b c d : Int) : shape_isRect.f a b c d = some ((decide (-1000000 ≤ a) && decide (a ≤ 1000000)) && ((decide (-1000000 ≤ b) && decide (b ≤ 1000000)) && ((decide (-1000000 ≤ c) && decide (c ≤ 1000000)) && (decide (-1000000 ≤ d) && decide (d ≤ 1000000))))) := by
  unfold shape_isRect.f
  simp only [isAt_some, Option.bind_some]
  cases (decide (-1000000 ≤ a) && decide (a ≤ 1000000)) <;> cases (decide (-1000000 ≤ b) && decide (b ≤ 1000000)) <;> cases (decide (-1000000 ≤ c) && decide (c ≤ 1000000)) <;> simp
theorem isPoint_some (a b : Int) : shape_IsPoint.f a b = some ((decide (-1000000 ≤ a) && decide (a ≤ 1000000)) && (decide (-1000000 ≤ b) && decide (b ≤ 1000000))) := by
  unfold shape_IsPoint.f
  simp only [isAt_some, Option.bind_some]
  cases (decide (-1000000 ≤ a) && decide (a ≤ 1000000)) <;> simp
theorem checkRects_tot (l : List S44) : Tot (fun k => shape_CheckRects.f k l) fun t => t = 0 → l.length ≤ 2000 ∧ ∀ r ∈ l, GoodR r := by
  unfold shape_CheckRects.f
  refine Tot.ite (fun _ => Tot.pure _ fun h => by simp at h) fun hl => ?_
  have key := up_tot (α := Int) (σ := Unit) (F := fun k _ j => shape_CheckRects.l0 k l (l.length : Int) (j : Int)) (n := l.length) (Q := fun _ j t => t = 0 → ∀ r ∈ l.drop j, GoodR r) (fun _ j hj ih => ?_) (fun _ => ?_) l.length () 0 (by omega)
  · exact key.imp fun t ht h0 => ⟨by omega, fun r hr => ht h0 r (by simpa using hr)⟩
  · simp only [shape_CheckRects.l0, isRect_some, Option.bind_some, w1 hj (by omega : l.length ≤ 9223372036854775807), rdT44 hj]
    refine Tot.ite (fun _ => ?_) (fun _ => by exfalso; omega)
    refine Tot.ite (fun _ => ?_) (fun _ => by exfalso; omega)
    refine Tot.ite (fun _ => ?_) (fun _ => by exfalso; omega)
    refine Tot.ite (fun h => ?_) (fun _ => Tot.pure _ fun h => by simp at h)
    refine Tot.ite (fun _ => Tot.pure _ fun h => by simp at h) (fun hx => ?_)
    refine Tot.ite (fun _ => Tot.pure _ fun h => by simp at h) (fun hy => ?_)
    refine (ih ()).imp fun t ht h0 r hr => ?_
    rw [List.drop_eq_getElem_cons hj] at hr
    rcases List.mem_cons.1 hr with rfl | hr
    · simp only [Bool.and_eq_true, decide_eq_true_eq] at h
      exact ⟨by omega, by omega, by omega, by omega, by omega, by omega⟩
    · exact ht h0 r hr
  · simp only [shape_CheckRects.l0]
    refine Tot.ite (fun _ => by exfalso; omega) (fun _ => Tot.pure _ fun _ r hr => by rw [List.drop_length] at hr; cases hr)
theorem setL_same : ∀ k l ys kk next now out, shape_SetOf.l0 k l ys kk next now out = setL shape_stretches.f shape_Set_push.f k l ys kk next now out
  | 0, _, _, _, _, _, _ => rfl
  | k + 1, l, ys, kk, next, now, out => by
    simp only [shape_SetOf.l0, setL, setL_same k]
    rfl
theorem setOf_tot (l : List S44) (hg : ∀ r ∈ l, GoodR r) (hl : l.length ≤ 1000000) : Tot (fun k => shape_SetOf.f k l) fun s => Shape s (covR l) ∧ s.length ≤ 2 * l.length ∧ ∀ b ∈ s, b.f2.length ≤ 4000000 := by
  unfold shape_SetOf.f
  obtain ⟨l', h1, h2, h3⟩ := sortY_some l (fun r hr => by have h := hg r hr; have := h.b1; have := h.b3; have := h.y; omega) hl
  have hlen := h2.length_eq
  obtain ⟨hi, hm⟩ := heightsP_spec l'
  obtain ⟨K, s, hk, hs, hsl, hsb⟩ := setL_shape helps l' (fun r hr => hg r (h2.mem_iff.1 hr)) (by omega) h3 (heightsP l') hi hm (by have := heightsP_len l'; omega)
  refine ⟨K, s, fun k hkk => ?_, ?_, by have := heightsP_len l'; omega, hsb⟩
  · dsimp only
    rw [if_pos hl, h1]
    simp only [Option.bind_some, setL_same]
    exact hk k hkk
  · have : covR l' = covR l := by
      funext y x
      unfold covR
      rw [Bool.eq_iff_iff, List.any_eq_true, List.any_eq_true]
      constructor
      · rintro ⟨r, hr, h⟩; exact ⟨r, h2.mem_iff.1 hr, h⟩
      · rintro ⟨r, hr, h⟩; exact ⟨r, h2.mem_iff.2 hr, h⟩
    rw [← this]
    exact hs
theorem rects_l1 (s : List S118) (m j : Int) (y0 y1 : Int) (xs : List Int) (hx : xs.length ≤ 4000000) : ∀ (d k i : Nat) (out : List S44), i + 2 * d = xs.length → out.length + d ≤ 4000000000000 →
    shape_Set_Rects.l1 (k + d + 1) out (i : Int) s m j y0 y1 xs = shape_Set_Rects.l0 k (out ++ rectsB y0 y1 (xs.drop i)) s m (wrap64 (j + 1)) := by
  intro d
  induction d with
  | zero =>
    intro k i out hi ho
    rw [shape_Set_Rects.l1, if_neg (by omega), List.drop_of_length_le (by omega)]
    simp [rectsB]
  | succ d ih =>
    intro k i out hi ho
    have e1 : wrap64 ((i : Int) + 1) = ((i + 1 : Nat) : Int) := by rw [w64 (by omega) (by omega)]; omega
    have e2 : wrap64 ((i : Int) + 2) = ((i + 2 : Nat) : Int) := by rw [w64 (by omega) (by omega)]; omega
    rw [show k + (d + 1) + 1 = (k + d + 1) + 1 by omega, shape_Set_Rects.l1, if_pos (by omega), if_pos (by omega), e1, if_pos (by omega), if_pos (by omega), if_pos (by omega), e2, ih k (i + 2) _ (by omega) (by rw [List.length_append]; simp; omega), rd_get xs i (by omega), rd_get xs (i + 1) (by omega)]
    rw [List.drop_eq_getElem_cons (show i < xs.length by omega), List.drop_eq_getElem_cons (show i + 1 < xs.length by omega)]
    simp [rectsB]
theorem rectsP_len : ∀ (s : List S118), (∀ b ∈ s, b.f2.length ≤ 4000000) → (rectsP s).length ≤ s.length * 2000000
  | [], _ => Nat.le_refl _
  | b :: s, h => by
    have h1 := rectsP_len s fun c hc => h c (List.mem_cons_of_mem _ hc)
    have h2 := h b (List.mem_cons_self ..)
    have e : rectsP (b :: s) = rectsB b.f0 b.f1 b.f2 ++ rectsP s := by simp [rectsP]
    rw [e, List.length_append, rectsB_length _ _ _ _ rfl, List.length_cons]
    omega
theorem rects_tot (s : List S118) (hc : ∀ b ∈ s, b.f2.length % 2 = 0) (hs : s.length ≤ 1000000) (hb : ∀ b ∈ s, b.f2.length ≤ 4000000) : Tot (fun k => shape_Set_Rects.f k s) fun r => r = rectsP s := by
  unfold shape_Set_Rects.f
  have key : ∀ (d j : Nat) (out : List S44), j + d = s.length → out.length + d * 2000000 ≤ 4000000000000 → Tot (fun k => shape_Set_Rects.l0 k out s (s.length : Int) (j : Int)) fun r => r = out ++ rectsP (s.drop j) := by
    intro d
    induction d with
    | zero =>
      intro j out hj ho
      refine Tot.succ (Tot.pure (out ++ rectsP (s.drop j)) rfl) fun k => ?_
      rw [shape_Set_Rects.l0, if_neg (by omega), List.drop_of_length_le (by omega)]
      simp [rectsP]
    | succ d ih =>
      intro j out hj ho
      have hjs : j < s.length := by omega
      have hm := List.getElem_mem hjs
      have he := hc _ hm
      have hl := hb _ hm
      obtain ⟨K, r, hk, hr⟩ := ih (j + 1) (out ++ rectsB s[j].f0 s[j].f1 s[j].f2) (by omega) (by
        rw [List.length_append, rectsB_length _ _ _ _ rfl]; omega)
      refine ⟨K + s[j].f2.length / 2 + 2, r, fun k hkk => ?_, ?_⟩
      · obtain ⟨k, rfl⟩ : ∃ m, k = (m + s[j].f2.length / 2 + 1) + 1 := ⟨k - s[j].f2.length / 2 - 2, by omega⟩
        dsimp only
        rw [shape_Set_Rects.l0, if_pos (by omega), if_pos (by omega), if_pos (by omega), rdT118 hjs]
        have h1 := rects_l1 s (s.length : Int) (j : Int) s[j].f0 s[j].f1 s[j].f2 hl (s[j].f2.length / 2) k 0 out (by omega) (by omega)
        rw [show ((0 : Nat) : Int) = 0 from rfl, List.drop_zero] at h1
        rw [h1, w1 hjs (by omega)]
        exact hk k (by omega)
      · rw [hr, List.drop_eq_getElem_cons hjs]
        simp only [rectsP, List.flatMap_cons, List.append_assoc]
  have := key s.length 0 [] (by omega) (by simp; omega)
  simpa using this
theorem equalR_tot (a b : List S44) (ha : a.length ≤ 9223372036854775807) : Tot (fun k => api_Rect_68.f k a b) fun r => r = true ↔ a = b := by
  unfold api_Rect_68.f
  refine Tot.ite (fun h => ?_) fun h => Tot.pure _ ?_
  · have hl : a.length = b.length := by omega
    have key := up_tot (α := Bool) (σ := Unit) (F := fun k _ j => api_Rect_68.l0 k a b (a.length : Int) (j : Int)) (n := a.length) (Q := fun _ j r => r = true ↔ a.drop j = b.drop j) (fun _ j hj ih => ?_) (fun _ => ?_) a.length () 0 (by omega)
    · simpa using key
    · have hj2 : j < b.length := by omega
      simp only [api_Rect_68.l0, w1 hj ha, rdT44 hj, rdT44 hj2]
      refine Tot.ite (fun _ => ?_) (fun _ => by exfalso; omega)
      refine Tot.ite (fun _ => ?_) (fun _ => by exfalso; omega)
      refine Tot.ite (fun _ => ?_) (fun _ => by exfalso; omega)
      refine Tot.ite (fun _ => ?_) (fun _ => by exfalso; omega)
      have hd : (a.drop j = b.drop j) ↔ (a[j] = b[j] ∧ a.drop (j + 1) = b.drop (j + 1)) := by rw [List.drop_eq_getElem_cons hj, List.drop_eq_getElem_cons hj2, List.cons.injEq]
      refine Tot.ite (fun hne => Tot.pure _ ?_) (fun heq => ?_)
      · refine ⟨fun h => by simp at h, fun e => ?_⟩
        have := (hd.1 e).1
        rw [this] at hne
        simp at hne
      · refine (ih ()).imp fun r hr => ?_
        have he : a[j] = b[j] := by
          simp only [Bool.or_eq_true, Bool.not_eq_true', beq_eq_false_iff_ne, ne_eq, not_or, Classical.not_not] at heq
          cases hA : a[j] with | mk p q r s => cases hB : b[j] with | mk p' q' r' s' => rw [hA, hB] at heq; simp only at heq; simp [heq]
        exact hr.trans ⟨fun h => hd.2 ⟨he, h⟩, fun h => (hd.1 h).2⟩
    · simp only [api_Rect_68.l0]
      refine Tot.ite (fun _ => by exfalso; omega) (fun _ => Tot.pure _ ?_)
      rw [List.drop_length, List.drop_of_length_le (by omega)]
      simp
  · refine ⟨fun h => by simp at h, fun e => absurd (by rw [e]) h⟩
theorem checkRegion_tot (l : List S44) : Tot (fun k => shape_CheckRegion.f k l) fun t => t = 0 → l.length ≤ 2000 ∧ (∀ r ∈ l, GoodR r) ∧ ∃ s, Shape s (covR l) ∧ l = rectsP s := by
  unfold shape_CheckRegion.f
  refine Tot.bind (checkRects_tot l) fun t ht => Tot.ite (fun h0 => ?_) fun h0 => Tot.pure _ fun h => absurd h h0
  obtain ⟨hl, hg⟩ := ht h0
  refine Tot.ite (fun _ => ?_) fun _ => Tot.pure _ fun h => by simp at h
  refine Tot.bind (setOf_tot l hg (by omega)) fun s hs => ?_
  obtain ⟨hsh, hsl, hsb⟩ := hs
  refine Tot.bind (rects_tot s (fun b hb => (hsh.can.ok b hb).even) (by omega) hsb) fun q hq => ?_
  subst hq
  refine Tot.bind (equalR_tot (rectsP s) l (by have := rectsP_len s hsb; omega)) fun b hb => Tot.pure _ ?_
  intro h
  refine ⟨hl, hg, s, hsh, ?_⟩
  cases b with
  | true => exact (hb.1 rfl).symm
  | false => simp at h
theorem rdT68 {l : List S68} {i : Nat} (h : i < l.length) : rd_T68 l (i : Int) = l[i] := by
  unfold rd_T68
  rw [List.getD_eq_getElem?_getD, Int.toNat_natCast, List.getElem?_eq_getElem h, Option.getD_some]
theorem rdT66 {l : List S66} {i : Nat} (h : i < l.length) : rd_T66 l (i : Int) = l[i] := by
  unfold rd_T66
  rw [List.getD_eq_getElem?_getD, Int.toNat_natCast, List.getElem?_eq_getElem h, Option.getD_some]
structure Fit (l5 : List S66) (l6 : List S68) : Prop where
  many : l5.length ≤ 50
  nets : ∀ c ∈ l5, c.f1.length ≤ 1000
  areas : l6.length ≤ 50
  rects : ∀ a ∈ l6, a.f1.length ≤ 2000
  good : ∀ a ∈ l6, ∀ r ∈ a.f1, GoodR r
  shape : ∀ a ∈ l6, ∃ s, Shape s (covR a.f1) ∧ a.f1 = rectsP s
theorem checkRules_tot (a0 a1 a2 a3 a4 : Int) (l5 : List S66) (l6 : List S68) (hs : ∀ c ∈ l5, c.f0.size ≤ 9223372036854775807) : Tot (fun k => rules_CheckRules.f k a0 a1 a2 a3 a4 l5 l6) fun t => t = 0 → Fit l5 l6 := by
  unfold rules_CheckRules.f
  refine Tot.bind (ints_tot _ (by simp)) fun b _ => Tot.ite (fun _ => Tot.pure _ fun h => by simp at h) fun _ => ?_
  refine Tot.bind (classes_tot l5 hs) fun t ht => Tot.ite (fun h0 => ?_) fun h0 => Tot.pure _ fun h => absurd h h0
  refine Tot.ite (fun _ => Tot.pure _ fun h => by simp at h) fun hl => ?_
  have key := up_tot (α := Int) (σ := Int) (F := fun k s j => rules_CheckRules.l0 k s l6 (l6.length : Int) (j : Int)) (n := l6.length) (Q := fun _ j t => t = 0 → ∀ a ∈ l6.drop j, a.f1.length ≤ 2000 ∧ (∀ r ∈ a.f1, GoodR r) ∧ ∃ s, Shape s (covR a.f1) ∧ a.f1 = rectsP s) (fun s j hj ih => ?_) (fun s => ?_) l6.length 0 0 (by omega)
  · refine key.imp fun r hr e => ?_
    have hr := hr e
    rw [List.drop_zero] at hr
    exact ⟨(ht h0).1, (ht h0).2, by omega, fun a ha => (hr a ha).1, fun a ha => (hr a ha).2.1, fun a ha => (hr a ha).2.2⟩
  · simp only [rules_CheckRules.l0, within_some, isRule_some, Option.bind_some, w1 hj (by omega : l6.length ≤ 9223372036854775807), rdT68 hj]
    refine Tot.ite (fun _ => ?_) (fun _ => by exfalso; omega)
    refine Tot.ite (fun _ => ?_) (fun _ => by exfalso; omega)
    refine Tot.ite (fun _ => ?_) (fun _ => by exfalso; omega)
    refine Tot.ite (fun _ => ?_) (fun _ => Tot.pure _ fun h => by simp at h)
    refine Tot.bind (checkRegion_tot l6[j].f1) fun t ht => Tot.ite (fun h0 => ?_) fun h0 => Tot.pure _ fun h => absurd h h0
    refine Tot.ite (fun _ => ?_) (fun _ => Tot.pure _ fun h => by simp at h)
    refine (ih _).imp fun r hr e a ha => ?_
    rw [List.drop_eq_getElem_cons hj] at ha
    rcases List.mem_cons.1 ha with rfl | ha
    · exact ht h0
    · exact hr e a ha
  · simp only [rules_CheckRules.l0]
    refine Tot.ite (fun _ => by exfalso; omega) (fun _ => Tot.ite (fun _ => Tot.pure _ fun h => by simp at h) (fun _ => Tot.pure _ fun _ a ha => by rw [List.drop_length] at ha; cases ha))
theorem less_some (a b : ByteArray) : cmp_Less_string.f a b = some (Op.bytesLess a.toList b.toList) := by
  unfold cmp_Less_string.f cmp_isNaN_string.f
  simp
theorem mid_eq (i j : Nat) (h : i + j ≤ 4000000000000000000) : wrap64 (IntKind.u64.wrap (wrap64 ((i : Int) + (j : Int))) / 2) = (((i + j) / 2 : Nat) : Int) := by
  rw [w64 (x := (i : Int) + (j : Int)) (by omega) (by omega), IntKind.wrap_u64, w64 (by omega) (by omega)]
  omega
theorem search_tot (l : List ByteArray) (a : ByteArray) (hl : l.length ≤ 1000000) : Tot (fun k => slices_BinarySearch_string_string.f k l a) fun _ => True := by
  have key : ∀ (d i j : Nat), i + d = j → j ≤ l.length → Tot (fun k => slices_BinarySearch_string_string.l0 k l a (l.length : Int) (i : Int) (j : Int)) fun _ => True := by
    intro d
    induction d using Nat.strongRecOn with
    | _ d ih =>
      intro i j hij hj
      refine Tot.succ (g := fun k => slices_BinarySearch_string_string.l0 (k + 1) l a (l.length : Int) (i : Int) (j : Int)) ?_ fun k => rfl
      simp only [slices_BinarySearch_string_string.l0, mid_eq i j (by omega), less_some, slices_isNaN_string.f, Option.bind_some]
      refine Tot.ite (fun h => ?_) (fun h => ?_)
      · refine Tot.ite (fun _ => ?_) (fun _ => by exfalso; omega)
        refine Tot.ite (fun _ => ?_) (fun _ => by exfalso; omega)
        refine Tot.ite (fun _ => ?_) (fun _ => ?_)
        · rw [w64 (x := (((i + j) / 2 : Nat) : Int) + 1) (by omega) (by omega), show (((i + j) / 2 : Nat) : Int) + 1 = (((i + j) / 2 + 1 : Nat) : Int) by omega]
          exact ih (j - ((i + j) / 2 + 1)) (by omega) _ _ (by omega) hj
        · exact ih ((i + j) / 2 - i) (by omega) _ _ (by omega) (by omega)
      · repeat' first
          | (exfalso; omega)
          | (refine Tot.ite (fun _ => ?_) (fun _ => ?_))
          | (exact Tot.pure _ trivial)
  exact key l.length 0 l.length (by omega) (Nat.le_refl _)
theorem classOf_tot (a0 a1 a2 a3 a4 : Int) (l5 : List S66) (l6 : List S68) (hf : Fit l5 l6) (a : ByteArray) : Tot (fun k => rules_classOf.f k a0 a1 a2 a3 a4 l5 l6 a) fun _ => True := by
  unfold rules_classOf.f
  have hm := hf.many
  refine up_tot (α := ByteArray × List ByteArray × Int × Int) (σ := Unit) (F := fun k _ j => rules_classOf.l0 k a l5 (l5.length : Int) (j : Int)) (n := l5.length) (Q := fun _ _ _ => True) (fun _ j hj ih => ?_) (fun _ => ?_) l5.length () 0 (by omega)
  · simp only [rules_classOf.l0, w1 hj (by omega : l5.length ≤ 9223372036854775807), rdT66 hj]
    repeat' first
      | (exfalso; omega)
      | (refine Tot.bind (search_tot _ _ (by have := hf.nets _ (List.getElem_mem hj); omega)) fun b _ => ?_)
      | (refine Tot.ite (fun _ => ?_) (fun _ => ?_))
      | (exact ih ())
      | (exact Tot.pure _ trivial)
  · simp only [rules_classOf.l0]
    repeat' first
      | (exfalso; omega)
      | (refine Tot.ite (fun _ => ?_) (fun _ => ?_))
      | (exact Tot.pure _ trivial)
theorem clearance_tot (a0 a1 a2 a3 a4 : Int) (l5 : List S66) (l6 : List S68) (hf : Fit l5 l6) (a : ByteArray) : Tot (fun k => rules_clearance.f k a0 a1 a2 a3 a4 l5 l6 a) fun _ => True := by
  unfold rules_clearance.f
  exact Tot.bind (classOf_tot a0 a1 a2 a3 a4 l5 l6 hf a) fun b _ => Tot.ite (fun _ => Tot.pure _ trivial) fun _ => Tot.pure _ trivial
def mostP (layer px py : Int) : List S68 → Int → Int
  | [], m => m
  | a :: t, m => if (a.f0 < 0 ∨ a.f0 = layer) ∧ a.f1.any (shape_HasSquare.in_ px py) = true then mostP layer px py t (mx m a.f2) else mostP layer px py t m
theorem needs_tot (a0 a1 a2 a3 a4 : Int) (l5 : List S66) (l6 : List S68) (hf : Fit l5 l6) (a b : ByteArray) (layer px py : Int) (cA cB : Int)
    (hA : Tot (fun k => rules_clearance.f k a0 a1 a2 a3 a4 l5 l6 a) fun c => c = cA) (hB : Tot (fun k => rules_clearance.f k a0 a1 a2 a3 a4 l5 l6 b) fun c => c = cB) :
    Tot (fun k => rules_needs.f k a0 a1 a2 a3 a4 l5 l6 a b layer px py) fun r => r = if mostP layer px py l6 (-1) ≥ 0 then mostP layer px py l6 (-1) else mx cA cB := by
  unfold rules_needs.f
  have hm := hf.areas
  have key := up_tot (α := Int) (σ := Int) (F := fun k s j => rules_needs.l0 k a b layer s l6 (l6.length : Int) (j : Int) a0 a1 a2 a3 a4 l5 l6 px py) (n := l6.length) (Q := fun s j r => r = if mostP layer px py (l6.drop j) s ≥ 0 then mostP layer px py (l6.drop j) s else mx cA cB) (fun s j hj ih => ?_) (fun s => ?_) l6.length (-1) 0 (by omega)
  · simpa using key
  · have hsq : shape_HasSquare.f l6[j].f1 px py = some (l6[j].f1.any (shape_HasSquare.in_ px py)) := by
      unfold shape_HasSquare.f
      rw [if_pos (by have := hf.rects _ (List.getElem_mem hj); omega)]
    have hon : rules_isOn.f l6[j].f0 l6[j].f1 l6[j].f2 layer = some (decide (l6[j].f0 < 0 ∨ l6[j].f0 = layer)) := by
      unfold rules_isOn.f
      by_cases h : l6[j].f0 < 0
      · rw [if_pos h]; simp [h]
      · rw [if_neg h]
        congr 1
        rw [Bool.eq_iff_iff]
        simp [h]
    simp only [rules_needs.l0, w1 hj (by omega : l6.length ≤ 9223372036854775807), rdT68 hj, hon, hsq, Option.bind_some]
    refine Tot.ite (fun _ => ?_) (fun _ => by exfalso; omega)
    refine Tot.ite (fun _ => ?_) (fun _ => by exfalso; omega)
    refine Tot.ite (fun _ => ?_) (fun _ => by exfalso; omega)
    rw [List.drop_eq_getElem_cons hj]
    refine Tot.ite (fun h1 => ?_) (fun h1 => ?_)
    · have h1 := of_decide_eq_true h1
      refine Tot.ite (fun h2 => ?_) (fun h2 => ?_)
      · rw [show mostP layer px py (l6[j] :: l6.drop (j + 1)) s = mostP layer px py (l6.drop (j + 1)) (mx s l6[j].f2) from if_pos ⟨h1, h2⟩]
        exact ih _
      · rw [show mostP layer px py (l6[j] :: l6.drop (j + 1)) s = mostP layer px py (l6.drop (j + 1)) s from if_neg fun h => h2 h.2]
        exact ih _
    · rw [show mostP layer px py (l6[j] :: l6.drop (j + 1)) s = mostP layer px py (l6.drop (j + 1)) s from if_neg fun h => h1 (decide_eq_true h.1)]
      exact ih _
  · simp only [rules_needs.l0]
    refine Tot.ite (fun _ => by exfalso; omega) (fun _ => ?_)
    rw [List.drop_length, mostP]
    refine Tot.ite (fun h => Tot.pure _ (by rw [if_pos h])) (fun h => ?_)
    rw [if_neg h]
    refine Tot.bind hA fun x hx => Tot.bind hB fun y hy => Tot.pure _ ?_
    rw [hx, hy]
def needP (t : Int) (nA nB : Bool) (layer px py : Int) (l6 : List S68) (cA cB : Int) : Int × Int :=
  if t = 0 then (if nA = true ∧ nB = true then (if (decide (0 ≤ layer) && decide (layer ≤ 15)) = true then (if ((decide (-1000000 ≤ px) && decide (px ≤ 1000000)) && (decide (-1000000 ≤ py) && decide (py ≤ 1000000))) = true then ((if mostP layer px py l6 (-1) ≥ 0 then mostP layer px py l6 (-1) else mx cA cB), 0) else (0, 1)) else (0, 1)) else (0, 5)) else (0, t)
theorem mx_comm (a b : Int) : mx a b = mx b a := by unfold mx; split <;> split <;> omega
theorem needP_comm (t : Int) (nA nB : Bool) (layer px py : Int) (l6 : List S68) (cA cB : Int) : needP t nA nB layer px py l6 cA cB = needP t nB nA layer px py l6 cB cA := by
  unfold needP
  rw [mx_comm cA cB]
  simp only [and_comm (a := nA = true) (b := nB = true)]
theorem needP_none (t : Int) (nA nB : Bool) (layer px py : Int) (l6 : List S68) (cA cB : Int) (h : (needP t nA nB layer px py l6 cA cB).2 ≠ 0) : (needP t nA nB layer px py l6 cA cB).1 = 0 := by
  unfold needP at h ⊢
  split
  · split
    · split
      · split
        · simp_all
        · rfl
      · rfl
    · rfl
  · rfl
theorem Needs_tot (a0 a1 a2 a3 a4 : Int) (l5 : List S66) (l6 : List S68) (a b : ByteArray) (layer px py : Int) (t : Int) (nA nB : Bool) (cA cB : Int) (hf : t = 0 → Fit l5 l6)
    (hT : Tot (fun k => rules_CheckRules.f k a0 a1 a2 a3 a4 l5 l6) fun r => r = t) (hNA : Tot (fun k => rules_isNet.f k a) fun r => r = nA) (hNB : Tot (fun k => rules_isNet.f k b) fun r => r = nB)
    (hA : t = 0 → Tot (fun k => rules_clearance.f k a0 a1 a2 a3 a4 l5 l6 a) fun c => c = cA) (hB : t = 0 → Tot (fun k => rules_clearance.f k a0 a1 a2 a3 a4 l5 l6 b) fun c => c = cB) :
    Tot (fun k => rules_Needs.f k a0 a1 a2 a3 a4 l5 l6 a b layer px py) fun p => p = needP t nA nB layer px py l6 cA cB := by
  unfold rules_Needs.f
  refine Tot.bind hT fun r hr => ?_
  subst hr
  have hj : ∀ bad : Bool, r = 0 → bad = (!(nA && nB)) → Tot (fun k => rules_Needs.j0 k a b layer bad a0 a1 a2 a3 a4 l5 l6 px py) fun p => p = needP r nA nB layer px py l6 cA cB := by
    intro bad h0 hb
    refine Tot.succ (g := fun k => rules_Needs.j0 (k + 1) a b layer bad a0 a1 a2 a3 a4 l5 l6 px py) ?_ fun k => rfl
    simp only [rules_Needs.j0, within_some, isPoint_some, Option.bind_some]
    unfold needP
    rw [if_pos h0]
    refine Tot.ite (fun h => ?_) (fun h => ?_)
    · rw [if_neg (by rw [hb] at h; cases nA <;> cases nB <;> simp_all)]
      exact Tot.pure _ rfl
    · rw [if_pos (by rw [hb] at h; cases nA <;> cases nB <;> simp_all)]
      refine Tot.ite (fun h1 => ?_) (fun h1 => ?_)
      · rw [if_pos h1]
        refine Tot.ite (fun h2 => ?_) (fun h2 => ?_)
        · rw [if_pos h2]
          refine Tot.bind (needs_tot a0 a1 a2 a3 a4 l5 l6 (hf h0) a b layer px py cA cB (hA h0) (hB h0)) fun x hx => Tot.pure _ ?_
          rw [hx]
        · rw [if_neg h2]
          exact Tot.pure _ rfl
      · rw [if_neg h1]
        exact Tot.pure _ rfl
  refine Tot.ite (fun h0 => ?_) (fun h0 => Tot.pure _ ?_)
  · refine Tot.bind hNA fun x hx => ?_
    subst hx
    refine Tot.ite (fun h => ?_) (fun h => ?_)
    · refine Tot.bind hNB fun y hy => ?_
      subst hy
      exact hj _ h0 (by rw [h]; rfl)
    · exact hj _ h0 (by cases x <;> simp_all)
  · unfold needP
    rw [if_neg h0]
theorem awake_tot : Tot (fun k => etchhouselaw6_awake.f k) fun r => r = true := by
  refine ⟨20, true, fun k hk => ?_, rfl⟩
  obtain ⟨m, rfl⟩ : ∃ m, k = m + 20 := ⟨k - 20, by omega⟩
  have h1 : rules_CheckRules.f (m + 20) 0 5 0 0 0 [] [] = some 0 := by
    unfold rules_CheckRules.f slices_ContainsFunc_int_int_with_rules_CheckRules_1.f slices_IndexFunc_int_int_with_rules_CheckRules_1.f
    simp [slices_IndexFunc_int_int_with_rules_CheckRules_1.l0, rules_CheckRules_1.f, isRule_some, rd, wrap64, rules_checkClasses.f, rules_checkClasses.l, rules_CheckRules.l0]
  have h2 : rules_Text.f (m + 20) 0 5 0 0 0 [] [] = some (⟨#[114, 117, 108, 101, 115, 32, 48, 32, 53, 32, 48, 32, 48, 32, 48, 10]⟩, 0) := by
    unfold rules_Text.f
    rw [h1]
    simp only [Option.bind_some, if_true]
    have d0 : rules_Text.num 0 = ⟨#[48]⟩ := by
      unfold rules_Text.num Lib.itoa
      rw [if_neg (by decide), Lib.decDigits_one (by decide)]
      rfl
    have d5 : rules_Text.num 5 = ⟨#[53]⟩ := by
      unfold rules_Text.num Lib.itoa
      rw [if_neg (by decide), Lib.decDigits_one (by decide)]
      rfl
    have hl : rules_Text.lineB (rules_Text.w1 0 5 0 0 0) = [114, 117, 108, 101, 115, 32, 48, 32, 53, 32, 48, 32, 48, 32, 48, 10] := by
      unfold rules_Text.w1
      rw [d0, d5]
      rfl
    rw [if_pos (by decide), hl]
    rfl
  show etchhouselaw6_awake.f (m + 20) = _
  unfold etchhouselaw6_awake.f
  rw [h2]
  simp only [Option.bind_some, if_true]
  rw [show ByteArray.toList ⟨#[114, 117, 108, 101, 115, 32, 48, 32, 53, 32, 48, 32, 48, 32, 48, 10]⟩ = [114, 117, 108, 101, 115, 32, 48, 32, 53, 32, 48, 32, 48, 32, 48, 10] from (Go.ByteArray.toList_eq _).trans rfl]
  rfl
theorem needEven (a0 a1 a2 a3 a4 : Int) (l5 : List S66) (l6 : List S68) (a b : ByteArray) (layer px py : Int) (hs : ∀ c ∈ l5, c.f0.size ≤ 9223372036854775807) : ∃ k, etchhouselaw6_RulesNeedEven.f k a0 a1 a2 a3 a4 l5 l6 a b layer px py = some true := by
  obtain ⟨K1, t, hT, hf⟩ := checkRules_tot a0 a1 a2 a3 a4 l5 l6 hs
  obtain ⟨K2, nA, hNA, _⟩ := isNet_tot a
  obtain ⟨K3, nB, hNB, _⟩ := isNet_tot b
  obtain ⟨cA, hA⟩ : ∃ cA, t = 0 → Tot (fun k => rules_clearance.f k a0 a1 a2 a3 a4 l5 l6 a) fun c => c = cA := by
    by_cases h : t = 0
    · obtain ⟨K, c, hc, _⟩ := clearance_tot a0 a1 a2 a3 a4 l5 l6 (hf h) a
      exact ⟨c, fun _ => ⟨K, c, hc, rfl⟩⟩
    · exact ⟨0, fun e => absurd e h⟩
  obtain ⟨cB, hB⟩ : ∃ cB, t = 0 → Tot (fun k => rules_clearance.f k a0 a1 a2 a3 a4 l5 l6 b) fun c => c = cB := by
    by_cases h : t = 0
    · obtain ⟨K, c, hc, _⟩ := clearance_tot a0 a1 a2 a3 a4 l5 l6 (hf h) b
      exact ⟨c, fun _ => ⟨K, c, hc, rfl⟩⟩
    · exact ⟨0, fun e => absurd e h⟩
  have h1 := Needs_tot a0 a1 a2 a3 a4 l5 l6 a b layer px py t nA nB cA cB hf ⟨K1, t, hT, rfl⟩ ⟨K2, nA, hNA, rfl⟩ ⟨K3, nB, hNB, rfl⟩ hA hB
  have h2 := Needs_tot a0 a1 a2 a3 a4 l5 l6 b a layer px py t nB nA cB cA hf ⟨K1, t, hT, rfl⟩ ⟨K3, nB, hNB, rfl⟩ ⟨K2, nA, hNA, rfl⟩ hB hA
  have key : Tot (fun k => etchhouselaw6_RulesNeedEven.f k a0 a1 a2 a3 a4 l5 l6 a b layer px py) fun r => r = true := by
    unfold etchhouselaw6_RulesNeedEven.f
    refine Tot.bind h1 fun x hx => Tot.bind h2 fun y hy => ?_
    have hxy : x = y := by rw [hx, hy, needP_comm]
    subst hxy
    refine Tot.ite (fun _ => ?_) fun h => absurd rfl h
    refine Tot.ite (fun _ => ?_) fun h => absurd rfl h
    refine Tot.ite (fun _ => ?_) fun h => ?_
    · exact Tot.bind awake_tot fun r hr => Tot.pure _ hr
    · refine Tot.ite (fun _ => Tot.bind awake_tot fun r hr => Tot.pure _ hr) fun h' => ?_
      exact absurd (by rw [hx] at h ⊢; exact needP_none _ _ _ _ _ _ _ _ _ h) h'
  obtain ⟨K, r, hk, hr⟩ := key
  exact ⟨K, by rw [← hr]; exact hk K (Nat.le_refl _)⟩
end Go.Proofs.YthkeonbmgcphkaaGreatDoorPlain
