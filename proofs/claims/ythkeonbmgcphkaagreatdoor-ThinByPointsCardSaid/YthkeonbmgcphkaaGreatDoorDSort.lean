-- Written by this session's own programs (wip/tools).
import Derived.Test.YthkeonbmgcphkaaGreatDoorProg
import Derived.Test.YthkeonbmgcphkaaGreatDoorDShelf
import Derived.Test.YthkeonbmgcphkaaGreatDoorDGlob
import Derived.Test.YthkeonbmgcphkaaGreatDoorDWWords
import Derived.Test.YthkeonbmgcphkaaGreatDoorDWKept
import Derived.Test.YthkeonbmgcphkaaGreatDoorDWMore
import Derived.Shelf.SlSortCmp.WholeK
import Derived.Tactics
namespace Go.Proofs.YthkeonbmgcphkaaGreatDoorSort
open Go.RowKit Go.Sort Go.Shelf Go.Proofs.YthkeonbmgcphkaaGreatDoorW.PrintWords
set_option linter.unusedVariables false
set_option linter.unusedSimpArgs false
variable {α : Type} [Inhabited α]
theorem flat_get (enc : α → List Value) (k : Nat) (hk : ∀ x, (enc x).length = k) : ∀ (l : List α) (t : Nat), t < l.length * k → (l.flatMap enc)[t]? = some ((enc (l[t / k]!))[t % k]!)
  | [], t, h => by simp at h
  | x :: r, t, h => by
    have k0 : 0 < k := by rcases Nat.eq_zero_or_pos k with h0 | h0
                          · subst h0; simp at h
                          · exact h0
    rw [List.flatMap_cons]
    by_cases h1 : t < k
    · rw [List.getElem?_append_left (by rw [hk]; exact h1), Nat.div_eq_of_lt h1, Nat.mod_eq_of_lt h1]
      simp only [List.getElem!_cons_zero]
      rw [getElem!_pos _ t (by rw [hk]; exact h1), List.getElem?_eq_getElem]
    · obtain ⟨u, rfl⟩ : ∃ u, t = u + k := ⟨t - k, by omega⟩
      rw [List.getElem?_append_right (by rw [hk]; omega), hk, Nat.add_sub_cancel, Nat.add_div_right _ k0, Nat.add_mod_right]
      rw [flat_get enc k hk r u (by rw [List.length_cons, Nat.add_mul] at h; omega)]
      simp
omit [Inhabited α] in
theorem flat_length (enc : α → List Value) (k : Nat) (hk : ∀ x, (enc x).length = k) : ∀ (l : List α), (l.flatMap enc).length = l.length * k
  | [] => by simp
  | x :: r => by rw [List.flatMap_cons, List.length_append, hk, flat_length enc k hk r, List.length_cons, Nat.add_mul]; omega
theorem flatK_toList (enc : α → List Value) (k : Nat) (hk : ∀ x, (enc x).length = k) (d : Array α) : (flatK enc k d).toList = d.toList.flatMap enc := by
  apply List.ext_getElem?
  intro t
  have hl : (d.toList.flatMap enc).length = d.size * k := flat_length enc k hk d.toList
  by_cases ht : t < d.size * k
  · rw [flat_get enc k hk d.toList t (by simpa using ht)]
    have := get_flatK enc k d t ht
    rw [Array.getElem?_toList, Array.getElem?_eq_getElem (by simpa using ht)]
    rw [getElem!_pos _ t (by simpa using ht)] at this
    rw [this]
    have hq : d.toList[t / k]! = d[t / k]! := by
      rw [List.getElem!_eq_getElem?_getD, Array.getElem?_toList, Array.getElem!_eq_getD, Array.getD_eq_getD_getElem?]
    rw [hq]
  · rw [List.getElem?_eq_none (by simpa using ht), List.getElem?_eq_none (by omega)]
theorem holdsK_of_own {enc : α → List Value} {k : Nat} (hk : ∀ x, (enc x).length = k) {w : World} {base e g n cap : Nat} {xs : List α} (h : w.ownsRow base e k (.slice (some ⟨g, 0, none⟩) n cap) n (xs.flatMap enc)) (hn : xs.length = n) : HoldsK enc k w g 0 xs.toArray := by
  obtain ⟨hl, h⟩ := h
  rcases h with ⟨h, _⟩ | ⟨g', cap', cur, hv, _, hb, hc, hm, hs, ht⟩
  · cases h
  · injection hv with h1 _ h3
    injection h1 with h1
    injection h1 with h1
    subst h1; subst h3
    intro j hj
    rw [size_flatK] at hj
    have hj' : j < n * k := by rw [← hn]; simpa using hj
    have e1 : (flatK enc k xs.toArray)[j]! = (enc (xs[j / k]!))[j % k]! := by rw [get_flatK _ _ _ _ hj]; simp
    have e2 := flat_get enc k hk xs j (by rw [hn]; exact hj')
    rw [← ht, List.getElem?_take_of_lt hj', Array.getElem?_toList] at e2
    refine ⟨?_, ?_⟩
    · show w.cell? ⟨g, 0 + j, none⟩ = some ((flatK enc k xs.toArray)[j]!)
      rw [e1, Nat.zero_add]
      simp only [World.cell?, hb, e2, Option.isSome_none, Bool.false_eq_true, if_false]
    · show w.frozen? ⟨g, 0 + j, none⟩ = false
      simp only [World.frozen?, hb, Nat.not_lt_zero, decide_false, Bool.and_false]
theorem heap_sortWorldK {enc : α → List Value} {k : Nat} {w : World} {g m : Nat} {d : Array α} {os : Array Obj} (i : Nat) (hi : i < w.heap.size) (hne : i ≠ g) : (sortWorldK enc k w g 0 m d os).heap[i]? = w.heap[i]? := by
  unfold sortWorldK
  rw [heap_grow_old _ _ (by show i < (w.heap.modify g _).size; rw [Array.size_modify]; exact hi)]
  show (w.heap.modify g _)[i]? = _
  rw [Array.getElem?_modify, if_neg (Ne.symm hne)]
theorem size_sortWorldK {enc : α → List Value} {k : Nat} {w : World} {g m : Nat} {d : Array α} {os : Array Obj} : w.heap.size ≤ (sortWorldK enc k w g 0 m d os).heap.size := by
  show w.heap.size ≤ ((w.heap.modify g _) ++ os).size
  rw [Array.size_append, Array.size_modify]; omega
theorem below_sortWorldK {enc : α → List Value} {k : Nat} {w0 w : World} {g m B : Nat} {d : Array α} {os : Array Obj} (h : Below B w0 w) (hB : B ≤ w.heap.size) (hg : B ≤ g) : Below B w0 (sortWorldK enc k w g 0 m d os) :=
  h.trans ⟨rfl, rfl, rfl, size_sortWorldK, fun i hi => heap_sortWorldK i (by omega) (by omega)⟩
theorem kept_sortWorldK {enc : α → List Value} {k : Nat} {w : World} {g m : Nat} {d : Array α} {os : Array Obj} {S : Nat → Prop} (hg : S g) : Kept w (sortWorldK enc k w g 0 m d os) S :=
  ⟨size_sortWorldK, fun i hi hn => heap_sortWorldK i hi (fun e => hn (e ▸ hg))⟩
theorem own_sortWorldK {enc : α → List Value} {k : Nat} (hk : ∀ x, (enc x).length = k) {w : World} {base e g n cap m : Nat} {cs : List Value} {d : Array α} {os : Array Obj} (h : w.ownsRow base e k (.slice (some ⟨g, 0, none⟩) n cap) n cs) (hd : d.size = n) :
    (sortWorldK enc k w g 0 m d os).ownsRow base e k (.slice (some ⟨g, 0, none⟩) n cap) n (d.toList.flatMap enc) := by
  have hl : (d.toList.flatMap enc).length = d.size * k := flat_length enc k hk d.toList
  obtain ⟨_, h⟩ := h
  rcases h with ⟨h, _⟩ | ⟨g', cap', cur, hv, hbase, hb, hc, hm, hs, ht⟩
  · cases h
  · injection hv with h1 _ h3
    injection h1 with h1
    injection h1 with h1
    subst h1; subst h3
    have hlt : g < w.heap.size := by
      rcases Nat.lt_or_ge g w.heap.size with h | h
      · exact h
      · rw [Array.getElem?_eq_none h] at hb; cases hb
    have hnk : n * k ≤ cap * k := Nat.mul_le_mul_right _ hc
    refine ⟨by rw [hl, hd], .inr ⟨g, cap, putCells id 0 (flatK enc k d) cur, rfl, hbase, ?_, hc, hm, ?_, ?_⟩⟩
    · unfold sortWorldK
      rw [heap_grow_old _ _ (by show g < (w.heap.modify g _).size; rw [Array.size_modify]; exact hlt)]
      show (w.heap.modify g (onCells (putCells id 0 (flatK enc k d))))[g]? = _
      rw [Array.getElem?_modify, if_pos rfl, hb]
      rfl
    · simp [putCells, hs]
    · apply List.ext_getElem?
      intro t
      by_cases ht' : t < n * k
      · rw [List.getElem?_take_of_lt ht', Array.getElem?_toList]
        have e2 := congrArg (fun l => l[t]?) (flatK_toList enc k hk d)
        simp only [Array.getElem?_toList] at e2
        rw [← e2]
        have hts : t < cur.size := by rw [hs]; omega
        have htf : t < (flatK enc k d).size := by rw [size_flatK, hd]; exact ht'
        simp only [putCells, Array.getElem?_mapIdx, Array.getElem?_eq_getElem hts, Option.map_some]
        rw [if_pos ⟨Nat.zero_le _, by rw [Nat.zero_add]; exact htf⟩, Nat.sub_zero, getElem!_pos _ t htf, Array.getElem?_eq_getElem htf]
        rfl
      · rw [List.getElem?_eq_none (by rw [List.length_take]; omega), List.getElem?_eq_none (by rw [hl, hd]; omega)]
omit [Inhabited α] in
theorem heap_setCells_same {g : Nat} {e : TypeId} {fr : Nat × Nat} : ∀ (vs : List Value) (o : Nat) (w : World) (cur : Array Value), w.heap[g]? = some (.cells cur e fr) → (w.setCells g o vs).heap[g]? = some (.cells (setMany cur o vs) e fr)
  | [], _, _, _, h => h
  | v :: r, o, w, cur, h => by
    refine heap_setCells_same r (o + 1) (w.setCell ⟨g, o, none⟩ v) (cur.setIfInBounds o v) ?_
    rw [setCell_eq]
    show (w.heap.modify g (onCells (·.setIfInBounds o v)))[g]? = _
    rw [Array.getElem?_modify, if_pos rfl, h]
    rfl
theorem own_setElem {enc : α → List Value} {k : Nat} (hk : ∀ x, (enc x).length = k) {w : World} {base e g n cap : Nat} {xs : List α} (h : w.ownsRow base e k (.slice (some ⟨g, 0, none⟩) n cap) n (xs.flatMap enc)) (hn : xs.length = n) (i : Nat) (hi : i < n) (x : α) :
    (w.setCells g (i * k) (enc x)).ownsRow base e k (.slice (some ⟨g, 0, none⟩) n cap) n ((xs.set i x).flatMap enc) := by
  obtain ⟨_, h⟩ := h
  rcases h with ⟨h, _⟩ | ⟨g', cap', cur, hv, hbase, hb, hc, hm, hs, ht⟩
  · cases h
  · injection hv with h1 _ h3
    injection h1 with h1
    injection h1 with h1
    subst h1; subst h3
    have hnk : n * k ≤ cap * k := Nat.mul_le_mul_right _ hc
    have hl : ((xs.set i x).flatMap enc).length = n * k := by rw [flat_length enc k hk, List.length_set, hn]
    refine ⟨hl, .inr ⟨g, cap, setMany cur (i * k) (enc x), rfl, hbase, heap_setCells_same _ _ _ _ hb, hc, hm, by rw [size_setMany, hs], ?_⟩⟩
    apply List.ext_getElem?
    intro t
    by_cases ht' : t < n * k
    · have k0 : 0 < k := by
        rcases Nat.eq_zero_or_pos k with h0 | h0
        · subst h0; simp at ht'
        · exact h0
      have hts : t < cur.size := by rw [hs]; omega
      have hq : t / k < n := (Nat.div_lt_iff_lt_mul k0).2 ht'
      rw [List.getElem?_take_of_lt ht', Array.getElem?_toList, flat_get enc k hk _ t (by rw [List.length_set, hn]; exact ht')]
      rw [Array.getElem?_eq_getElem (by rw [size_setMany]; exact hts), ← getElem!_pos _ t (by rw [size_setMany]; exact hts), get_setMany _ _ _ t hts, hk]
      by_cases hi' : t / k = i
      · rw [if_pos ((blk_iff k i t k0).2 hi')]
        subst hi'
        rw [getElem!_pos (xs.set (t / k) x) (t / k) (by rw [List.length_set, hn]; exact hq), List.getElem_set_self, show t - t / k * k = t % k by rw [Nat.mod_eq_sub_div_mul]]
      · rw [if_neg (fun h => hi' ((blk_iff k i t k0).1 h))]
        have e1 : (cur.toList.take (n * k))[t]? = (xs.flatMap enc)[t]? := by rw [ht]
        rw [List.getElem?_take_of_lt ht', Array.getElem?_toList, flat_get enc k hk _ t (by rw [hn]; exact ht'), Array.getElem?_eq_getElem hts, ← getElem!_pos cur t hts] at e1
        rw [e1, getElem!_pos (xs.set i x) (t / k) (by rw [List.length_set, hn]; exact hq), List.getElem_set_ne (Ne.symm hi'), getElem!_pos xs (t / k) (by rw [hn]; exact hq)]
    · rw [List.getElem?_eq_none (by rw [List.length_take]; omega), List.getElem?_eq_none (by omega)]
theorem own_struck {enc : α → List Value} {k : Nat} (hk : ∀ x, (enc x).length = k) {w : World} {base e g n cap : Nat} {xs : List α} (h : w.ownsRow base e k (.slice (some ⟨g, 0, none⟩) n cap) n (xs.flatMap enc)) (hn : xs.length = n) (i : Nat) (hi : i ≤ n) (vs : List Value) :
    (w.setCells g (i * k) vs).ownsRow base e k (.slice (some ⟨g, 0, none⟩) i cap) i ((xs.take i).flatMap enc) := by
  obtain ⟨_, h⟩ := h
  rcases h with ⟨h, _⟩ | ⟨g', cap', cur, hv, hbase, hb, hc, hm, hs, ht⟩
  · cases h
  · injection hv with h1 _ h3
    injection h1 with h1
    injection h1 with h1
    subst h1; subst h3
    have hnk : n * k ≤ cap * k := Nat.mul_le_mul_right _ hc
    have hik : i * k ≤ n * k := Nat.mul_le_mul_right _ hi
    have hl : ((xs.take i).flatMap enc).length = i * k := by rw [flat_length enc k hk, List.length_take, hn, Nat.min_eq_left hi]
    refine ⟨hl, .inr ⟨g, cap, setMany cur (i * k) vs, rfl, hbase, heap_setCells_same _ _ _ _ hb, by omega, hm, by rw [size_setMany, hs], ?_⟩⟩
    apply List.ext_getElem?
    intro t
    by_cases ht' : t < i * k
    · have k0 : 0 < k := by
        rcases Nat.eq_zero_or_pos k with h0 | h0
        · subst h0; simp at ht'
        · exact h0
      have hts : t < cur.size := by rw [hs]; omega
      have hq : t / k < i := (Nat.div_lt_iff_lt_mul k0).2 ht'
      rw [List.getElem?_take_of_lt ht', Array.getElem?_toList, flat_get enc k hk _ t (by rw [List.length_take, hn, Nat.min_eq_left hi]; exact ht')]
      rw [Array.getElem?_eq_getElem (by rw [size_setMany]; exact hts), ← getElem!_pos _ t (by rw [size_setMany]; exact hts), get_setMany _ _ _ t hts, if_neg (by omega)]
      have e1 : (cur.toList.take (n * k))[t]? = (xs.flatMap enc)[t]? := by rw [ht]
      rw [List.getElem?_take_of_lt (by omega), Array.getElem?_toList, flat_get enc k hk _ t (by rw [hn]; omega), Array.getElem?_eq_getElem hts, ← getElem!_pos cur t hts] at e1
      rw [e1, getElem!_pos (xs.take i) (t / k) (by rw [List.length_take, hn, Nat.min_eq_left hi]; exact hq), List.getElem_take, getElem!_pos xs (t / k) (by omega)]
    · rw [List.getElem?_eq_none (by rw [List.length_take]; omega), List.getElem?_eq_none (by omega)]
theorem run_clear_rows {P : Program} (w : World) (t e ty : TypeId) (z : Value) (ht : P.underlying t = some (.slice e)) (hv : ∀ w, (zeroValue e).run P w = .ok z w) (b o n c : Nat) (zs : List Value) (hz : (Builtin.zeroCells z.cells n).toList = zs) (h1 : ∀ v ∈ zs, v.oneCell' = true) (hn : 0 < n)
    (hc : ∀ j, j < zs.length → (w.cell? ⟨b, o + j, none⟩).isSome = true) (hf : ∀ j, j < zs.length → w.frozen? ⟨b, o + j, none⟩ = false) :
    (Builtin.clear_ #[t] ty #[.slice (some ⟨b, o, none⟩) n c]).run P w = .ok (.tuple #[]) (w.setCells b o zs) := by
  have hst := run_storeCells_cells (P := P) b o zs 0 w (by simpa using hc) (by simpa using hf) h1
  simp only [Nat.add_zero] at hst
  obtain ⟨m, rfl⟩ : ∃ m, n = m + 1 := ⟨n - 1, by omega⟩
  simp [Builtin.clear_, run_underlying ht, hv, hz, hst]
theorem holds_of_own {enc : α → Value} {w : World} {base e g n cap : Nat} {xs : List α} (h : w.ownsRow base e 1 (.slice (some ⟨g, 0, none⟩) n cap) n (xs.map enc)) (hn : xs.length = n) : Holds enc w g 0 xs.toArray := by
  obtain ⟨hl, h⟩ := h
  rcases h with ⟨h, _⟩ | ⟨g', cap', cur, hv, _, hb, hc, hm, hs, ht⟩
  · cases h
  · injection hv with h1 _ h3
    injection h1 with h1
    injection h1 with h1
    subst h1; subst h3
    intro j hj
    have hj' : j < xs.length := by simpa using hj
    have e2 : (cur.toList.take (n * 1))[j]? = (xs.map enc)[j]? := by rw [ht]
    rw [List.getElem?_take_of_lt (by omega), Array.getElem?_toList, List.getElem?_map, List.getElem?_eq_getElem hj'] at e2
    refine ⟨?_, ?_⟩
    · show w.cell? ⟨g, 0 + j, none⟩ = some (enc (xs.toArray[j]!))
      rw [Nat.zero_add, show xs.toArray[j]! = xs[j] by simp [hj']]
      simp only [World.cell?, hb, e2, Option.isSome_none, Bool.false_eq_true, if_false, Option.map_some]
    · show w.frozen? ⟨g, 0 + j, none⟩ = false
      simp only [World.frozen?, hb, Nat.not_lt_zero, decide_false, Bool.and_false]
omit [Inhabited α] in
theorem heap_mapped {w : World} {g m : Nat} {f : Array Value → Array Value} {os : Array Obj} (i : Nat) (hi : i < w.heap.size) (hne : i ≠ g) : (grow (mapBlock (Sort.ahead w m) g f) os).heap[i]? = w.heap[i]? := by
  rw [heap_grow_old _ _ (by show i < (w.heap.modify g _).size; rw [Array.size_modify]; exact hi)]
  show (w.heap.modify g _)[i]? = _
  rw [Array.getElem?_modify, if_neg (Ne.symm hne)]
theorem size_mapped {w : World} {g m : Nat} {f : Array Value → Array Value} {os : Array Obj} : w.heap.size ≤ (grow (mapBlock (Sort.ahead w m) g f) os).heap.size := by
  show w.heap.size ≤ ((w.heap.modify g _) ++ os).size
  rw [Array.size_append, Array.size_modify]; omega
theorem below_mapped {w0 w : World} {g m B : Nat} {f : Array Value → Array Value} {os : Array Obj} (h : Below B w0 w) (hB : B ≤ w.heap.size) (hg : B ≤ g) : Below B w0 (grow (mapBlock (Sort.ahead w m) g f) os) :=
  h.trans ⟨rfl, rfl, rfl, size_mapped, fun i hi => heap_mapped i (by omega) (by omega)⟩
theorem kept_mapped {w : World} {g m : Nat} {f : Array Value → Array Value} {os : Array Obj} {S : Nat → Prop} (hg : S g) : Kept w (grow (mapBlock (Sort.ahead w m) g f) os) S :=
  ⟨size_mapped, fun i hi hn => heap_mapped i hi (fun e => hn (e ▸ hg))⟩
theorem own_putRow {enc : α → Value} {w : World} {base e g n n1 cap m : Nat} {cs : List Value} {d : Array α} {os : Array Obj} (h : w.ownsRow base e 1 (.slice (some ⟨g, 0, none⟩) n cap) n cs) (hd : n1 ≤ d.size) (hd2 : n1 ≤ n) :
    (grow (putRow enc (Sort.ahead w m) g 0 d) os).ownsRow base e 1 (.slice (some ⟨g, 0, none⟩) n1 cap) n1 ((d.toList.take n1).map enc) := by
  obtain ⟨_, h⟩ := h
  rcases h with ⟨h, _⟩ | ⟨g', cap', cur, hv, hbase, hb, hc, hm, hs, ht⟩
  · cases h
  · injection hv with h1 _ h3
    injection h1 with h1
    injection h1 with h1
    subst h1; subst h3
    have hlt : g < w.heap.size := by
      rcases Nat.lt_or_ge g w.heap.size with h | h
      · exact h
      · rw [Array.getElem?_eq_none h] at hb; cases hb
    have hl : ((d.toList.take n1).map enc).length = n1 * 1 := by rw [List.length_map, List.length_take, Array.length_toList]; omega
    refine ⟨hl, .inr ⟨g, cap, putCells enc 0 d cur, rfl, hbase, ?_, by omega, hm, ?_, ?_⟩⟩
    · rw [heap_grow_old _ _ (by show g < (w.heap.modify g _).size; rw [Array.size_modify]; exact hlt)]
      show (w.heap.modify g (onCells (putCells enc 0 d)))[g]? = _
      rw [Array.getElem?_modify, if_pos rfl, hb]
      rfl
    · simp [putCells, hs]
    · apply List.ext_getElem?
      intro t
      by_cases ht' : t < n1 * 1
      · have hts : t < cur.size := by rw [hs]; omega
        rw [List.getElem?_take_of_lt ht', Array.getElem?_toList, List.getElem?_map, List.getElem?_take_of_lt (by omega), Array.getElem?_toList]
        simp only [putCells, Array.getElem?_mapIdx, Array.getElem?_eq_getElem hts, Option.map_some]
        rw [if_pos ⟨Nat.zero_le _, by omega⟩, Nat.sub_zero, getElem!_pos d t (by omega), Array.getElem?_eq_getElem (by omega)]
        rfl
      · rw [List.getElem?_eq_none (by rw [List.length_take]; omega), List.getElem?_eq_none (by omega)]
end Go.Proofs.YthkeonbmgcphkaaGreatDoorSort
