import Derived.Test.YthkeonbmgcphkaaGreatDoorHg26
namespace Go.Proofs.YthkeonbmgcphkaaGreatDoorPlain
open Go.RowKit Go.Proofs.YthkeonbmgcphkaaGreatDoor.PM Go.Proofs.YthkeonbmgcphkaaGreatDoorW.PrintWords
set_option linter.unusedVariables false
set_option linter.unusedSimpArgs false
def toB (b : Rb) : Bd := ⟨b.f0, b.f1, dV b.f2⟩
theorem sameSpans_tot (a b : List Sp) (ha : a.length ≤ 1000000000) : Tot (fun k => bV.f k a b) fun r => r = true ↔ a = b := by
  unfold bV.f
  refine Tot.ite (fun h => ?_) fun h => Tot.pure _ ⟨fun h => by simp at h, fun e => absurd (by rw [e]) h⟩
  have hl : a.length = b.length := by omega
  have key := gV (α := Bool) (σ := Unit) (F := fun k _ j => bV.l0 k a b (j : Int)) (n := a.length) (Q := fun _ j r => r = true ↔ a.drop j = b.drop j) (fun _ j hj ih => ?_) (fun _ => ?_) a.length () 0 (by omega)
  · simpa using key
  · have hj2 : j < b.length := by omega
    simp only [bV.l0, w1 hj (by omega : a.length ≤ 9223372036854775807), rdSp hj, rdSp hj2]
    refine Tot.ite (fun _ => ?_) (fun _ => by exfalso; omega)
    refine Tot.ite (fun _ => ?_) (fun _ => by exfalso; omega)
    refine Tot.ite (fun _ => ?_) (fun _ => by exfalso; omega)
    have hd : (a.drop j = b.drop j) ↔ (a[j] = b[j] ∧ a.drop (j + 1) = b.drop (j + 1)) := by rw [List.drop_eq_getElem_cons hj, List.drop_eq_getElem_cons hj2, List.cons.injEq]
    refine Tot.ite (fun hne => Tot.pure _ ?_) (fun heq => ?_)
    · refine ⟨fun h => by simp at h, fun e => ?_⟩
      have := (hd.1 e).1
      rw [this] at hne
      simp at hne
    · refine (ih ()).imp fun r hr => ?_
      have he : a[j] = b[j] := by
        simp only [Bool.or_eq_true, Bool.not_eq_true', beq_eq_false_iff_ne, ne_eq, not_or, Classical.not_not] at heq
        cases hA : a[j] with | mk p q => cases hB : b[j] with | mk p' q' => rw [hA, hB] at heq; simp only at heq; simp [heq]
      exact hr.trans ⟨fun h => hd.2 ⟨he, h⟩, fun h => (hd.1 h).2⟩
  · simp only [bV.l0]
    refine Tot.ite (fun _ => by exfalso; omega) (fun _ => Tot.pure _ ?_)
    rw [List.drop_length, List.drop_of_length_le (by omega)]
    simp
theorem stacked_tot (s : List Rb) (y0 y1 : Int) (xs : List Sp) (hy : y0 < y1) (hl : s.length ≤ 1000000000) (hx : ∀ b ∈ s, b.f2.length ≤ 1000000000) : Tot (fun k => dW.f k s y0 y1 xs) fun r => r.map toB = iK (s.map toB) ⟨y0, y1, dV xs⟩ ∧ r.length ≤ s.length + 1 ∧ ∀ b ∈ r, b ∈ s ∨ b.f2 = xs ∨ ∃ c ∈ s, b.f2 = c.f2 := by
  unfold dW.f
  refine Tot.ite (fun h0 => Tot.pure _ ⟨?_, by omega, fun b hb => .inl hb⟩) (fun h0 => ?_)
  · obtain rfl := List.length_eq_zero_iff.1 (show xs.length = 0 by omega)
    unfold iK
    rw [if_pos (.inl rfl)]
  · have hne : ¬ (dV xs = [] ∨ y1 ≤ y0) := by
      rintro (h | h)
      · have := jO xs
        rw [h] at this
        simp at this
        omega
      · omega
    have happ : ∀ (hn : ∀ l, s.getLast? = some l → ¬ (l.f1 = y0 ∧ l.f2 = xs)), Tot (fun _ => if s.length < 3518437208883 then some (s ++ [(⟨y0, y1, xs⟩ : Rb)]) else none) fun r => r.map toB = iK (s.map toB) ⟨y0, y1, dV xs⟩ ∧ r.length ≤ s.length + 1 ∧ ∀ b ∈ r, b ∈ s ∨ b.f2 = xs ∨ ∃ c ∈ s, b.f2 = c.f2 := by
      intro hn
      refine Tot.ite (fun _ => Tot.pure _ ⟨?_, by simp, fun b hb => ?_⟩) (fun h => by exfalso; omega)
      · unfold iK
        rw [if_neg hne, List.getLast?_map]
        cases hs : s.getLast? with
        | none =>
          obtain rfl := List.getLast?_eq_none_iff.1 hs
          rfl
        | some l =>
          simp only [Option.map_some]
          rw [if_neg]
          · simp [toB]
          · rintro ⟨h1, h2⟩
            exact hn l hs ⟨h1, flatS_inj h2⟩
      · rcases List.mem_append.1 hb with hb | hb
        · exact .inl hb
        · rw [List.mem_singleton.1 hb]; exact .inr (.inl rfl)
    rcases List.eq_nil_or_concat s with rfl | ⟨s', l, rfl⟩
    · refine Tot.ite (fun h => by simp at h) (fun _ => happ fun l hl => by simp at hl)
    · rw [List.concat_eq_append] at *
      have hlen : (s' ++ [l]).length = s'.length + 1 := by simp
      have e1 : wrap64 (((s' ++ [l]).length : Int) - 1) = (s'.length : Int) := by rw [hlen, w64 (by omega) (by omega)]; omega
      have e2 : bJ (s' ++ [l]) (s'.length : Int) = l := by rw [rdRb (by omega)]; simp
      have e3 : (s' ++ [l]).getLast? = some l := List.getLast?_concat ..
      rw [e1, e2]
      refine Tot.ite (fun _ => ?_) (fun h => by exfalso; omega)
      refine Tot.ite (fun _ => ?_) (fun h => by exfalso; omega)
      refine Tot.ite (fun _ => ?_) (fun h => by exfalso; omega)
      refine Tot.ite (fun hm => ?_) (fun hm => happ fun u hu => by rw [e3] at hu; obtain rfl := Option.some.inj hu; exact fun h => hm h.1)
      refine Tot.bind (sameSpans_tot l.f2 xs (hx l (by simp))) fun b hb => ?_
      refine Tot.ite (fun ht => Tot.pure _ ?_) (fun hf => happ fun u hu => by rw [e3] at hu; obtain rfl := Option.some.inj hu; exact fun h => hf (hb.2 h.2))
      have hq := hb.1 ht
      have e4 : (s' ++ [l]).set ((s'.length : Int)).toNat (⟨l.f0, y1, l.f2⟩ : Rb) = s' ++ [(⟨l.f0, y1, l.f2⟩ : Rb)] := by
        rw [Int.toNat_natCast, List.set_append_right _ _ (Nat.le_refl _)]
        simp
      rw [e4]
      refine ⟨?_, by simp, fun b hb => ?_⟩
      · unfold iK
        rw [if_neg hne, List.map_append, List.map_append, List.map_singleton, List.map_singleton, List.getLast?_concat]
        simp only
        rw [if_pos ⟨hm, by rw [← hq]; rfl⟩, List.dropLast_concat]
        rfl
      · rcases List.mem_append.1 hb with hb | hb
        · exact .inl (by simp [hb])
        · rw [List.mem_singleton.1 hb]; exact .inr (.inr ⟨l, by simp, rfl⟩)
theorem kW (y0 y1 : Int) : ∀ (l : List Sp), gU y0 y1 (dV l) = l.map fun s => (⟨s.f0, y0, s.f1, y1⟩ : Rc)
  | [] => rfl
  | s :: l => by rw [eU, gU, kW y0 y1 l]; rfl
theorem told_ref_tot (s : List Rb) (hl : s.length ≤ 1000000) (hx : ∀ b ∈ s, b.f2.length ≤ 1000000) : Tot (fun k => bI.f k s) fun r => r = dZ (s.map toB) := by
  unfold bI.f
  have inner : ∀ (j : Nat) (hj : j < s.length) (d i : Nat) (out : List Rc), i + d = s[j].f2.length → out.length + d ≤ 4000000000000 → Tot (fun k => bI.l0 k s (out ++ (s[j].f2.drop i).map fun t => (⟨t.f0, s[j].f0, t.f1, s[j].f1⟩ : Rc)) ((j + 1 : Nat) : Int)) (fun r => r = dZ (s.map toB)) → Tot (fun k => bI.l1 k s out (j : Int) (i : Int)) fun r => r = dZ (s.map toB) := by
    intro j hj d
    induction d with
    | zero =>
      intro i out hi ho h
      have hxj := hx _ (List.getElem_mem hj)
      rw [List.drop_of_length_le (by omega)] at h
      simp only [List.map_nil, List.append_nil] at h
      refine Tot.succ h fun k => ?_
      rw [bI.l1, if_pos (by omega), if_pos (by omega), rdRb hj, if_neg (by omega), w1 hj (by omega)]
    | succ d ih =>
      intro i out hi ho h
      have hxj := hx _ (List.getElem_mem hj)
      have his : i < s[j].f2.length := by omega
      refine Tot.succ (ih (i + 1) (out ++ [(⟨s[j].f2[i].f0, s[j].f0, s[j].f2[i].f1, s[j].f1⟩ : Rc)]) (by omega) (by simp <;> omega) ?_) fun k => ?_
      · have e : out ++ (s[j].f2.drop i).map (fun t => (⟨t.f0, s[j].f0, t.f1, s[j].f1⟩ : Rc)) = (out ++ [(⟨s[j].f2[i].f0, s[j].f0, s[j].f2[i].f1, s[j].f1⟩ : Rc)]) ++ (s[j].f2.drop (i + 1)).map (fun t => (⟨t.f0, s[j].f0, t.f1, s[j].f1⟩ : Rc)) := by
          rw [List.drop_eq_getElem_cons his, List.map_cons, List.append_assoc]
          rfl
        rw [e] at h
        exact h
      · rw [bI.l1, if_pos (by omega), if_pos (by omega), rdRb hj, if_pos (by omega), if_pos (by omega), if_pos (by omega), rdSp his, w1 his (by omega)]
  have key : ∀ (d j : Nat), j + d = s.length → Tot (fun k => bI.l0 k s (dZ ((s.take j).map toB)) (j : Int)) fun r => r = dZ (s.map toB) := by
    intro d
    induction d with
    | zero =>
      intro j hj
      refine Tot.succ (Tot.pure (dZ ((s.take j).map toB)) ?_) fun k => by rw [bI.l0, if_neg (by omega)]
      rw [List.take_of_length_le (by omega)]
    | succ d ih =>
      intro j hj
      have hjs : j < s.length := by omega
      refine Tot.succ ?_ fun k => by rw [bI.l0, if_pos (by omega)]
      have hxj := hx _ (List.getElem_mem hjs)
      have hlen : (dZ ((s.take j).map toB)).length ≤ 1000000 * 1000000 := by
        refine Nat.le_trans (jB 1000000 _ fun b hb => ?_) (Nat.mul_le_mul_right _ (by simp <;> omega))
        obtain ⟨c, hc, rfl⟩ := List.mem_map.1 hb
        have := hx c (List.mem_of_mem_take hc)
        show (dV c.f2).length ≤ _
        rw [jO]
        omega
      refine inner j hjs s[j].f2.length 0 _ (by omega) (by omega) ?_
      rw [List.drop_zero]
      have e : dZ ((s.take j).map toB) ++ s[j].f2.map (fun t => (⟨t.f0, s[j].f0, t.f1, s[j].f1⟩ : Rc)) = dZ ((s.take (j + 1)).map toB) := by
        rw [List.take_add_one, List.getElem?_eq_getElem hjs, List.map_append]
        unfold dZ
        rw [List.flatMap_append]
        simp [toB, kW]
      rw [e]
      exact ih (j + 1) (by omega)
  have := key s.length 0 (by omega)
  simpa [dZ] using this
theorem canonical_tot (l : List Rc) (hl : l.length ≤ 2000) (hg : ∀ r ∈ l, r.f0 < r.f2 ∧ r.f1 < r.f3) : Tot (fun k => bQ.f k l) fun r => (∃ s, Shape s (covR l) ∧ r = dZ s) ∧ r.length ≤ 40000000 := by
  unfold bQ.f
  refine Tot.bind (heights_tot l (by omega)) fun ys hys => ?_
  obtain ⟨hi, hm, hlen⟩ := hys
  have hout : ∀ z, (∀ y ∈ ys, z < y) ∨ (∀ y ∈ ys, y ≤ z) → ∀ x, covR l z x = false := fun z hz x => by
    unfold covR
    rw [List.any_eq_false]
    intro r hr hx
    unfold inR at hx
    simp only [Bool.and_eq_true, decide_eq_true_eq] at hx
    rcases hz with hz | hz
    · have := hz r.f1 ((hm _).2 ⟨r, hr, .inl rfl⟩); omega
    · have := hz r.f3 ((hm _).2 ⟨r, hr, .inr rfl⟩); omega
  have key : ∀ (d i : Nat) (out : List Rb), (hk : i < ys.length) → i + 1 + d = ys.length → jF (covAt l) (out.map toB) ys[i] → out.length ≤ i → (∀ b ∈ out, b.f2.length ≤ l.length) →
      Tot (fun k => bQ.l0 k l ys (i + 1) out) fun o => Shape (o.map toB) (covR l) ∧ o.length ≤ ys.length ∧ ∀ b ∈ o, b.f2.length ≤ l.length := by
    intro d
    induction d with
    | zero =>
      intro i out hk hd hsw ho hx
      refine Tot.succ (Tot.pure out ⟨⟨hsw.can, fun y x => ?_⟩, by omega, hx⟩) fun k => by rw [bQ.l0, if_neg (by omega)]
      refine hsw.done (fun z hz x => ?_) y x
      rw [hout z (.inr fun v hv => ?_) x]
      · rfl
      · obtain ⟨j, hj, rfl⟩ := List.getElem_of_mem hv
        by_cases c : j = i
        · subst c; omega
        · have := List.pairwise_iff_getElem.1 hi j i hj hk (by omega); omega
    | succ d ih =>
      intro i out hk hd hsw ho hx
      have hlt : i + 1 < ys.length := by omega
      have hstep : ys[i] < ys[i + 1] := List.pairwise_iff_getElem.1 hi i (i + 1) hk hlt (by omega)
      have hgap : ∀ z, z ∈ ys → ys[i] < z → ys[i + 1] ≤ z := fun z hz hlt2 => by
        obtain ⟨j, hj, rfl⟩ := List.getElem_of_mem hz
        by_cases c1 : j ≤ i
        · by_cases c2 : j = i
          · subst c2; omega
          · have := List.pairwise_iff_getElem.1 hi j i hj hk (by omega); omega
        · by_cases c2 : j = i + 1
          · subst c2; exact Int.le_refl _
          · have := List.pairwise_iff_getElem.1 hi (i + 1) j hlt hj (by omega); omega
      refine Tot.succ ?_ fun k => by rw [bQ.l0, if_pos hlt, show i + 1 - 1 = i by omega, iJ ys i hk, iJ ys (i + 1) hlt]
      refine Tot.bind (row_tot l ys[i] (by omega) (fun r hr => (hg r hr).1)) fun t ht => ?_
      obtain ⟨t1, t2, t3⟩ := ht
      refine Tot.bind (stacked_tot out ys[i] ys[i + 1] t hstep (by omega) (fun b hb => by have := hx b hb; omega)) fun o hot => ?_
      obtain ⟨o1, o2, o3⟩ := hot
      refine ih (i + 1) o hlt (by omega) ?_ (by omega) (fun b hb => ?_)
      · rw [o1]
        refine hsw.step (by omega) (fun z hz1 hz2 x => ?_) t1 (by rw [jO]; omega)
        rw [tog_flat t1]
        show t.any (inS x) = _
        rw [t2]
        unfold covR
        rw [Bool.eq_iff_iff, List.any_eq_true, List.any_eq_true]
        have same : ∀ r ∈ l, inR r ys[i] x = inR r z x := fun r hr => by
          have h1 := hgap r.f1 ((hm _).2 ⟨r, hr, .inl rfl⟩)
          have h3 := hgap r.f3 ((hm _).2 ⟨r, hr, .inr rfl⟩)
          unfold inR
          rw [Bool.eq_iff_iff]
          simp only [Bool.and_eq_true, decide_eq_true_eq]
          omega
        constructor
        · rintro ⟨r, hr, h⟩; exact ⟨r, hr, by rw [← same r hr]; exact h⟩
        · rintro ⟨r, hr, h⟩; exact ⟨r, hr, by rw [same r hr]; exact h⟩
      · rcases o3 b hb with h | h | ⟨c, hc, h⟩
        · exact hx b h
        · rw [h]; omega
        · rw [h]; exact hx c hc
  have main : Tot (fun k => bQ.l0 k l ys 1 []) fun o => Shape (o.map toB) (covR l) ∧ o.length ≤ ys.length ∧ ∀ b ∈ o, b.f2.length ≤ l.length := by
    by_cases h0 : 0 < ys.length
    · refine key (ys.length - 1) 0 [] h0 (by omega) (jF.start fun z hz x => ?_) (by simp) (fun b hb => by simp at hb)
      rw [hout z (.inl fun v hv => ?_) x]
      · rfl
      · obtain ⟨j, hj, rfl⟩ := List.getElem_of_mem hv
        by_cases c : j = 0
        · subst c; omega
        · have := List.pairwise_iff_getElem.1 hi 0 j h0 hj (by omega); omega
    · refine Tot.succ (Tot.pure [] ⟨⟨Can.nil, fun y x => ?_⟩, by simp, fun b hb => by simp at hb⟩) fun k => by rw [bQ.l0, if_neg (by omega)]
      have hy : ys = [] := List.length_eq_zero_iff.1 (by omega)
      rw [hout y (.inl fun v hv => by rw [hy] at hv; cases hv) x]
      rfl
  refine Tot.bind main fun o ho => ?_
  obtain ⟨s1, s2, s3⟩ := ho
  refine (told_ref_tot o (by omega) (fun b hb => by have := s3 b hb; omega)).imp fun r hr => ⟨⟨_, s1, hr⟩, ?_⟩
  rw [hr]
  have h1 := jB 2000 (o.map toB) fun b hb => by
    obtain ⟨c, hc, rfl⟩ := List.mem_map.1 hb
    have := s3 c hc
    show (dV c.f2).length ≤ _
    rw [jO]; omega
  have h2 : (o.map toB).length * 2000 ≤ 4000 * 2000 := Nat.mul_le_mul_right _ (by simp <;> omega)
  omega
theorem refAt_some (n : Int) : dF.f n = some (decide (-1000000 ≤ n) && decide (n ≤ 1000000)) := by
  unfold dF.f eG.f
  by_cases h : -1000000 ≤ n
  · rw [if_pos h]; simp [h]
  · rw [if_neg h]; simp [h]
theorem refRects_spec (l : List Rc) : Tot (fun k => bD.f k l) fun t => t = gJ l := by
  unfold bD.f gJ
  by_cases hl : l.length > 2000
  · rw [if_pos hl]
    exact Tot.ite (fun _ => Tot.pure _ rfl) (fun h => by exfalso; omega)
  · rw [if_neg hl]
    refine Tot.of ?_ fun k => if_neg (by omega)
    have key : ∀ (d j : Nat), j + d = l.length → Tot (fun k => bD.l0 k l (j : Int)) fun t => t = gI (l.drop j) := by
      intro d
      induction d with
      | zero =>
        intro j hj
        refine Tot.succ (Tot.pure (0 : Int) ?_) fun k => by rw [bD.l0, if_neg (by omega)]
        rw [List.drop_of_length_le (by omega)]
        rfl
      | succ d ih =>
        intro j hj
        have hjs : j < l.length := by omega
        rw [List.drop_eq_getElem_cons hjs, gI]
        refine Tot.succ ?_ fun k => by rw [bD.l0, if_pos (by omega), if_pos (by omega)]
        simp only [refAt_some, Option.bind_some, jS hjs]
        have bad : ok1 l[j] ≠ true → Tot (fun k => bD.j1 k l (j : Int) true l[j].f0 l[j].f1 l[j].f2 l[j].f3) fun t => t = if ok1 l[j] = true then (if l[j].f2 ≤ l[j].f0 then 13 else if l[j].f3 ≤ l[j].f1 then 13 else gI (l.drop (j + 1))) else 1 := fun h =>
          Tot.succ (Tot.pure (1 : Int) (by rw [if_neg h])) fun k => by rw [bD.j1, if_pos rfl]
        refine Tot.ite (fun h0 => ?_) (fun h0 => bad fun h => h0 ?_)
        · refine Tot.ite (fun h1 => ?_) (fun h1 => bad fun h => h1 ?_)
          · refine Tot.ite (fun h2 => ?_) (fun h2 => bad fun h => h2 ?_)
            · by_cases h3 : (decide (-1000000 ≤ l[j].f3) && decide (l[j].f3 ≤ 1000000)) = true
              · have hok : ok1 l[j] = true := by unfold ok1; rw [h0, h1, h2, h3]; rfl
                rw [h3, if_pos hok]
                refine Tot.succ ?_ fun k => by rw [Bool.not_true, bD.j1, if_neg (by simp)]
                refine Tot.ite (fun hx => Tot.pure _ (by rw [if_pos hx])) (fun hx => ?_)
                rw [if_neg hx]
                refine Tot.ite (fun hy => Tot.pure _ (by rw [if_pos hy])) (fun hy => ?_)
                rw [if_neg hy, w1 hjs (by omega)]
                exact ih (j + 1) (by omega)
              · rw [Bool.eq_false_iff.2 h3]
                exact bad fun h => h3 (by unfold ok1 at h; simp only [Bool.and_eq_true, decide_eq_true_eq] at h ⊢; omega)
            · unfold ok1 at h; simp only [Bool.and_eq_true, decide_eq_true_eq] at h ⊢; omega
          · unfold ok1 at h; simp only [Bool.and_eq_true, decide_eq_true_eq] at h ⊢; omega
        · unfold ok1 at h; simp only [Bool.and_eq_true, decide_eq_true_eq] at h ⊢; omega
    exact (key l.length 0 (by omega)).imp fun t ht => by rw [ht, List.drop_zero]
theorem sameRects_tot (a b : List Rc) (ha : a.length ≤ 1000000000) : Tot (fun k => dA.f k a b) fun r => r = true ↔ a = b := by
  unfold dA.f
  refine Tot.ite (fun h => ?_) fun h => Tot.pure _ ⟨fun h => by simp at h, fun e => absurd (by rw [e]) h⟩
  have hl : a.length = b.length := by omega
  have key := gV (α := Bool) (σ := Unit) (F := fun k _ j => dA.l0 k a b (j : Int)) (n := a.length) (Q := fun _ j r => r = true ↔ a.drop j = b.drop j) (fun _ j hj ih => ?_) (fun _ => ?_) a.length () 0 (by omega)
  · simpa using key
  · have hj2 : j < b.length := by omega
    simp only [dA.l0, w1 hj (by omega : a.length ≤ 9223372036854775807), jS hj, jS hj2]
    refine Tot.ite (fun _ => ?_) (fun _ => by exfalso; omega)
    refine Tot.ite (fun _ => ?_) (fun _ => by exfalso; omega)
    refine Tot.ite (fun _ => ?_) (fun _ => by exfalso; omega)
    have hd : (a.drop j = b.drop j) ↔ (a[j] = b[j] ∧ a.drop (j + 1) = b.drop (j + 1)) := by rw [List.drop_eq_getElem_cons hj, List.drop_eq_getElem_cons hj2, List.cons.injEq]
    refine Tot.ite (fun hne => Tot.pure _ ?_) (fun heq => ?_)
    · refine ⟨fun h => by simp at h, fun e => ?_⟩
      have := (hd.1 e).1
      rw [this] at hne
      simp at hne
    · refine (ih ()).imp fun r hr => ?_
      have he : a[j] = b[j] := by
        simp only [Bool.or_eq_true, Bool.not_eq_true', beq_eq_false_iff_ne, ne_eq, not_or, Classical.not_not] at heq
        cases hA : a[j] with | mk p q r s => cases hB : b[j] with | mk p' q' r' s' => rw [hA, hB] at heq; simp only at heq; simp [heq]
      exact hr.trans ⟨fun h => hd.2 ⟨he, h⟩, fun h => (hd.1 h).2⟩
  · simp only [dA.l0]
    refine Tot.ite (fun _ => by exfalso; omega) (fun _ => Tot.pure _ ?_)
    rw [List.drop_length, List.drop_of_length_le (by omega)]
    simp
theorem before_some (a b : Rc) : dU.f a.f0 a.f1 a.f2 a.f3 b.f0 b.f1 b.f2 b.f3 = some (!bH.bad a b) := by
  unfold dU.f bH.bad
  by_cases h : a.f1 < b.f1
  · rw [if_pos h, decide_eq_false (show ¬ b.f1 < a.f1 by omega), decide_eq_false (show ¬ b.f1 = a.f1 by omega)]; rfl
  · rw [if_neg h]
    by_cases h2 : a.f1 = b.f1
    · rw [if_pos h2, decide_eq_false (show ¬ b.f1 < a.f1 by omega), decide_eq_true h2.symm]
      congr 1
      rw [Bool.eq_iff_iff]
      simp
    · rw [if_neg h2, decide_eq_true (show b.f1 < a.f1 by omega)]; rfl
theorem ord_range {l : List Rc} : bH.ord l = true ↔ ∀ i, i + 1 < l.length → bH.bad (aI l (i : Int)) (aI l ((i + 1 : Nat) : Int)) = false := by
  unfold bH.ord
  rw [List.all_eq_true]
  constructor
  · intro h i hi
    have := h i (List.mem_range.2 (by omega))
    simpa using this
  · intro h i hi
    have := h i (by have := List.mem_range.1 hi; omega)
    simpa using this
theorem refRegion_spec (l : List Rc) : Tot (fun k => bC.f k l) (gB l) := by
  unfold bC.f
  refine Tot.bind (refRects_spec l) fun t ht => Tot.ite (fun h0 => ?_) fun h0 => Tot.pure _ (.inl ⟨by rwa [← ht], ht⟩)
  rw [h0] at ht
  obtain ⟨hl, hg⟩ := gY.1 ht.symm
  have key : ∀ (d j : Nat), j + 1 + d = l.length ∨ (d = 0 ∧ l.length ≤ j + 1) → (∀ i, i < j → i + 1 < l.length → bH.bad (aI l (i : Int)) (aI l ((i + 1 : Nat) : Int)) = false) → Tot (fun k => bC.l0 k l ((j + 1 : Nat) : Int)) (gB l) := by
    intro d
    induction d with
    | zero =>
      intro j hj ho
      refine Tot.succ ?_ fun k => by rw [bC.l0, if_neg (by omega)]
      have hord : bH.ord l = true := ord_range.2 fun i hi => ho i (by omega) hi
      refine Tot.bind (canonical_tot l hl (fun r hr => ⟨(hg r hr).x, (hg r hr).y⟩)) fun c hc => ?_
      obtain ⟨⟨s, hs, hcs⟩, _⟩ := hc
      refine Tot.bind (sameRects_tot l c (by omega)) fun b hb => ?_
      refine Tot.ite (fun h => Tot.pure _ (.inr ⟨ht.symm, .inr ⟨hord, .inl ⟨⟨s, hs, by rw [← hcs]; exact hb.1 h⟩, rfl⟩⟩⟩)) (fun h => Tot.pure _ (.inr ⟨ht.symm, .inr ⟨hord, .inr ⟨fun ⟨s', h1, h2⟩ => h (hb.2 ?_), rfl⟩⟩⟩))
      rw [hcs, ← Shape.inj h1 hs]
      exact h2
    | succ d ih =>
      intro j hj ho
      have hjs : j + 1 < l.length := by omega
      have e1 : wrap64 (((j + 1 : Nat) : Int) - 1) = (j : Int) := by rw [w64 (by omega) (by omega)]; omega
      have hb := before_some (aI l (j : Int)) (aI l ((j + 1 : Nat) : Int))
      refine Tot.succ ?_ fun k => by rw [bC.l0, if_pos (by omega), e1, if_pos (by omega), if_pos (by omega), if_pos (by omega), hb]
      simp only [Option.bind_some]
      refine Tot.ite (fun h => ?_) (fun h => Tot.pure _ (.inr ⟨ht.symm, .inl ⟨?_, rfl⟩⟩))
      · rw [w1 hjs (by omega)]
        refine ih (j + 1) (by omega) (fun i hi hil => ?_)
        by_cases c : i = j
        · subst c; simpa using h
        · exact ho i (by omega) hil
      · rw [Bool.eq_false_iff]
        intro ho2
        exact h (by rw [ord_range.1 ho2 j hjs]; rfl)
  exact key (l.length - 1) 0 (by omega) (fun i hi => by omega)
theorem gB.unique {l : List Rc} {t u : Int} (h : gB l t) (h' : gB l u) : t = u := by
  rcases h with ⟨a, b⟩ | ⟨a, ⟨b, c⟩ | ⟨b, ⟨c, d⟩ | ⟨c, d⟩⟩⟩ <;> rcases h' with ⟨a', b'⟩ | ⟨a', ⟨b', c'⟩ | ⟨b', ⟨c', d'⟩ | ⟨c', d'⟩⟩⟩
  all_goals first
    | exact b.trans b'.symm
    | exact absurd a' a
    | exact absurd a a'
    | exact c.trans c'.symm
    | (rw [b] at b'; simp at b'; done)
    | exact d.trans d'.symm
    | exact absurd c c'
    | exact absurd c' c
end Go.Proofs.YthkeonbmgcphkaaGreatDoorPlain
