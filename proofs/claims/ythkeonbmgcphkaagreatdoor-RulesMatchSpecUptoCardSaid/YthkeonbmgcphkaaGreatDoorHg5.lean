import Derived.Test.YthkeonbmgcphkaaGreatDoorProg
import Derived.Test.YthkeonbmgcphkaaGreatDoorHg4
import Derived.Test.YthkeonbmgcphkaaGreatDoorHg0
import Derived.Test.YthkeonbmgcphkaaGreatDoorHg2
import Derived.Shelf.SlSortCmp.WholeK
import Derived.Tactics
import Derived.Test.YthkeonbmgcphkaaGreatDoorHg3
namespace Go.Proofs.YthkeonbmgcphkaaGreatDoorSort
open Go.RowKit Go.Sort Go.Shelf Go.Proofs.YthkeonbmgcphkaaGreatDoorW.PrintWords
set_option linter.unusedVariables false
set_option linter.unusedSimpArgs false
variable {α : Type} [Inhabited α]
theorem flat_get (enc : α → List Value) (k : Nat) (hk : ∀ x, (enc x).length = k) : ∀ (l : List α) (t : Nat), t < l.length * k → (l.flatMap enc)[t]? = some ((enc (l[t / k]!))[t % k]!)
  | [], t, h => by simp at h
  | x :: r, t, h => by
    have k0 : 0 < k := by rcases Nat.eq_zero_or_pos k with h0 | h0
                          · subst h0; simp at h
                          · exact h0
    rw [List.flatMap_cons]
    by_cases h1 : t < k
    · rw [List.getElem?_append_left (by rw [hk]; exact h1), Nat.div_eq_of_lt h1, Nat.mod_eq_of_lt h1]
      simp only [List.getElem!_cons_zero]
      rw [getElem!_pos _ t (by rw [hk]; exact h1), List.getElem?_eq_getElem]
    · obtain ⟨u, rfl⟩ : ∃ u, t = u + k := ⟨t - k, by omega⟩
      rw [List.getElem?_append_right (by rw [hk]; omega), hk, Nat.add_sub_cancel, Nat.add_div_right _ k0, Nat.add_mod_right]
      rw [flat_get enc k hk r u (by rw [List.length_cons, Nat.add_mul] at h; omega)]
      simp
omit [Inhabited α] in
theorem flat_length (enc : α → List Value) (k : Nat) (hk : ∀ x, (enc x).length = k) : ∀ (l : List α), (l.flatMap enc).length = l.length * k
  | [] => by simp
  | x :: r => by rw [List.flatMap_cons, List.length_append, hk, flat_length enc k hk r, List.length_cons, Nat.add_mul]; omega
theorem flatK_toList (enc : α → List Value) (k : Nat) (hk : ∀ x, (enc x).length = k) (d : Array α) : (flatK enc k d).toList = d.toList.flatMap enc := by
  apply List.ext_getElem?
  intro t
  have hl : (d.toList.flatMap enc).length = d.size * k := flat_length enc k hk d.toList
  by_cases ht : t < d.size * k
  · rw [flat_get enc k hk d.toList t (by simpa using ht)]
    have := get_flatK enc k d t ht
    rw [Array.getElem?_toList, Array.getElem?_eq_getElem (by simpa using ht)]
    rw [getElem!_pos _ t (by simpa using ht)] at this
    rw [this]
    have hq : d.toList[t / k]! = d[t / k]! := by
      rw [List.getElem!_eq_getElem?_getD, Array.getElem?_toList, Array.getElem!_eq_getD, Array.getD_eq_getD_getElem?]
    rw [hq]
  · rw [List.getElem?_eq_none (by simpa using ht), List.getElem?_eq_none (by omega)]
theorem gX {enc : α → List Value} {k : Nat} (hk : ∀ x, (enc x).length = k) {w : World} {base e g n cap : Nat} {xs : List α} (h : w.ownsRow base e k (.slice (some ⟨g, 0, none⟩) n cap) n (xs.flatMap enc)) (hn : xs.length = n) : HoldsK enc k w g 0 xs.toArray := by
  obtain ⟨hl, h⟩ := h
  rcases h with ⟨h, _⟩ | ⟨g', cap', cur, hv, _, hb, hc, hm, hs, ht⟩
  · cases h
  · injection hv with h1 _ h3
    injection h1 with h1
    injection h1 with h1
    subst h1; subst h3
    intro j hj
    rw [size_flatK] at hj
    have hj' : j < n * k := by rw [← hn]; simpa using hj
    have e1 : (flatK enc k xs.toArray)[j]! = (enc (xs[j / k]!))[j % k]! := by rw [get_flatK _ _ _ _ hj]; simp
    have e2 := flat_get enc k hk xs j (by rw [hn]; exact hj')
    rw [← ht, List.getElem?_take_of_lt hj', Array.getElem?_toList] at e2
    refine ⟨?_, ?_⟩
    · show w.cell? ⟨g, 0 + j, none⟩ = some ((flatK enc k xs.toArray)[j]!)
      rw [e1, Nat.zero_add]
      simp only [World.cell?, hb, e2, Option.isSome_none, Bool.false_eq_true, if_false]
    · show w.frozen? ⟨g, 0 + j, none⟩ = false
      simp only [World.frozen?, hb, Nat.not_lt_zero, decide_false, Bool.and_false]
theorem jG {enc : α → List Value} {k : Nat} {w : World} {g m : Nat} {d : Array α} {os : Array Obj} (i : Nat) (hi : i < w.heap.size) (hne : i ≠ g) : (sortWorldK enc k w g 0 m d os).heap[i]? = w.heap[i]? := by
  unfold sortWorldK
  rw [heap_grow_old _ _ (by show i < (w.heap.modify g _).size; rw [Array.size_modify]; exact hi)]
  show (w.heap.modify g _)[i]? = _
  rw [Array.getElem?_modify, if_neg (Ne.symm hne)]
theorem jE {enc : α → List Value} {k : Nat} {w : World} {g m : Nat} {d : Array α} {os : Array Obj} : w.heap.size ≤ (sortWorldK enc k w g 0 m d os).heap.size := by
  show w.heap.size ≤ ((w.heap.modify g _) ++ os).size
  rw [Array.size_append, Array.size_modify]; omega
theorem iU {enc : α → List Value} {k : Nat} {w0 w : World} {g m B : Nat} {d : Array α} {os : Array Obj} (h : Below B w0 w) (hB : B ≤ w.heap.size) (hg : B ≤ g) : Below B w0 (sortWorldK enc k w g 0 m d os) :=
  h.trans ⟨rfl, rfl, rfl, jE, fun i hi => jG i (by omega) (by omega)⟩
theorem jD {enc : α → List Value} {k : Nat} {w : World} {g m : Nat} {d : Array α} {os : Array Obj} {S : Nat → Prop} (hg : S g) : Kept w (sortWorldK enc k w g 0 m d os) S :=
  ⟨jE, fun i hi hn => jG i hi (fun e => hn (e ▸ hg))⟩
theorem jK {enc : α → List Value} {k : Nat} (hk : ∀ x, (enc x).length = k) {w : World} {base e g n cap m : Nat} {cs : List Value} {d : Array α} {os : Array Obj} (h : w.ownsRow base e k (.slice (some ⟨g, 0, none⟩) n cap) n cs) (hd : d.size = n) :
    (sortWorldK enc k w g 0 m d os).ownsRow base e k (.slice (some ⟨g, 0, none⟩) n cap) n (d.toList.flatMap enc) := by
  have hl : (d.toList.flatMap enc).length = d.size * k := flat_length enc k hk d.toList
  obtain ⟨_, h⟩ := h
  rcases h with ⟨h, _⟩ | ⟨g', cap', cur, hv, hbase, hb, hc, hm, hs, ht⟩
  · cases h
  · injection hv with h1 _ h3
    injection h1 with h1
    injection h1 with h1
    subst h1; subst h3
    have hlt : g < w.heap.size := by
      rcases Nat.lt_or_ge g w.heap.size with h | h
      · exact h
      · rw [Array.getElem?_eq_none h] at hb; cases hb
    have hnk : n * k ≤ cap * k := Nat.mul_le_mul_right _ hc
    refine ⟨by rw [hl, hd], .inr ⟨g, cap, putCells id 0 (flatK enc k d) cur, rfl, hbase, ?_, hc, hm, ?_, ?_⟩⟩
    · unfold sortWorldK
      rw [heap_grow_old _ _ (by show g < (w.heap.modify g _).size; rw [Array.size_modify]; exact hlt)]
      show (w.heap.modify g (onCells (putCells id 0 (flatK enc k d))))[g]? = _
      rw [Array.getElem?_modify, if_pos rfl, hb]
      rfl
    · simp [putCells, hs]
    · apply List.ext_getElem?
      intro t
      by_cases ht' : t < n * k
      · rw [List.getElem?_take_of_lt ht', Array.getElem?_toList]
        have e2 := congrArg (fun l => l[t]?) (flatK_toList enc k hk d)
        simp only [Array.getElem?_toList] at e2
        rw [← e2]
        have hts : t < cur.size := by rw [hs]; omega
        have htf : t < (flatK enc k d).size := by rw [size_flatK, hd]; exact ht'
        simp only [putCells, Array.getElem?_mapIdx, Array.getElem?_eq_getElem hts, Option.map_some]
        rw [if_pos ⟨Nat.zero_le _, by rw [Nat.zero_add]; exact htf⟩, Nat.sub_zero, getElem!_pos _ t htf, Array.getElem?_eq_getElem htf]
        rfl
      · rw [List.getElem?_eq_none (by rw [List.length_take]; omega), List.getElem?_eq_none (by rw [hl, hd]; omega)]
omit [Inhabited α] in
theorem fZ {g : Nat} {e : TypeId} {fr : Nat × Nat} : ∀ (vs : List Value) (o : Nat) (w : World) (cur : Array Value), w.heap[g]? = some (.cells cur e fr) → (w.setCells g o vs).heap[g]? = some (.cells (setMany cur o vs) e fr)
  | [], _, _, _, h => h
  | v :: r, o, w, cur, h => by
    refine fZ r (o + 1) (w.setCell ⟨g, o, none⟩ v) (cur.setIfInBounds o v) ?_
    rw [setCell_eq]
    show (w.heap.modify g (onCells (·.setIfInBounds o v)))[g]? = _
    rw [Array.getElem?_modify, if_pos rfl, h]
    rfl
theorem own_setElem {enc : α → List Value} {k : Nat} (hk : ∀ x, (enc x).length = k) {w : World} {base e g n cap : Nat} {xs : List α} (h : w.ownsRow base e k (.slice (some ⟨g, 0, none⟩) n cap) n (xs.flatMap enc)) (hn : xs.length = n) (i : Nat) (hi : i < n) (x : α) :
    (w.setCells g (i * k) (enc x)).ownsRow base e k (.slice (some ⟨g, 0, none⟩) n cap) n ((xs.set i x).flatMap enc) := by
  obtain ⟨_, h⟩ := h
  rcases h with ⟨h, _⟩ | ⟨g', cap', cur, hv, hbase, hb, hc, hm, hs, ht⟩
  · cases h
  · injection hv with h1 _ h3
    injection h1 with h1
    injection h1 with h1
    subst h1; subst h3
    have hnk : n * k ≤ cap * k := Nat.mul_le_mul_right _ hc
    have hl : ((xs.set i x).flatMap enc).length = n * k := by rw [flat_length enc k hk, List.length_set, hn]
    refine ⟨hl, .inr ⟨g, cap, setMany cur (i * k) (enc x), rfl, hbase, fZ _ _ _ _ hb, hc, hm, by rw [size_setMany, hs], ?_⟩⟩
    apply List.ext_getElem?
    intro t
    by_cases ht' : t < n * k
    · have k0 : 0 < k := by
        rcases Nat.eq_zero_or_pos k with h0 | h0
        · subst h0; simp at ht'
        · exact h0
      have hts : t < cur.size := by rw [hs]; omega
      have hq : t / k < n := (Nat.div_lt_iff_lt_mul k0).2 ht'
      rw [List.getElem?_take_of_lt ht', Array.getElem?_toList, flat_get enc k hk _ t (by rw [List.length_set, hn]; exact ht')]
      rw [Array.getElem?_eq_getElem (by rw [size_setMany]; exact hts), ← getElem!_pos _ t (by rw [size_setMany]; exact hts), get_setMany _ _ _ t hts, hk]
      by_cases hi' : t / k = i
      · rw [if_pos ((blk_iff k i t k0).2 hi')]
        subst hi'
        rw [getElem!_pos (xs.set (t / k) x) (t / k) (by rw [List.length_set, hn]; exact hq), List.getElem_set_self, show t - t / k * k = t % k by rw [Nat.mod_eq_sub_div_mul]]
      · rw [if_neg (fun h => hi' ((blk_iff k i t k0).1 h))]
        have e1 : (cur.toList.take (n * k))[t]? = (xs.flatMap enc)[t]? := by rw [ht]
        rw [List.getElem?_take_of_lt ht', Array.getElem?_toList, flat_get enc k hk _ t (by rw [hn]; exact ht'), Array.getElem?_eq_getElem hts, ← getElem!_pos cur t hts] at e1
        rw [e1, getElem!_pos (xs.set i x) (t / k) (by rw [List.length_set, hn]; exact hq), List.getElem_set_ne (Ne.symm hi'), getElem!_pos xs (t / k) (by rw [hn]; exact hq)]
    · rw [List.getElem?_eq_none (by rw [List.length_take]; omega), List.getElem?_eq_none (by omega)]
theorem own_struck {enc : α → List Value} {k : Nat} (hk : ∀ x, (enc x).length = k) {w : World} {base e g n cap : Nat} {xs : List α} (h : w.ownsRow base e k (.slice (some ⟨g, 0, none⟩) n cap) n (xs.flatMap enc)) (hn : xs.length = n) (i : Nat) (hi : i ≤ n) (vs : List Value) :
    (w.setCells g (i * k) vs).ownsRow base e k (.slice (some ⟨g, 0, none⟩) i cap) i ((xs.take i).flatMap enc) := by
  obtain ⟨_, h⟩ := h
  rcases h with ⟨h, _⟩ | ⟨g', cap', cur, hv, hbase, hb, hc, hm, hs, ht⟩
  · cases h
  · injection hv with h1 _ h3
    injection h1 with h1
    injection h1 with h1
    subst h1; subst h3
    have hnk : n * k ≤ cap * k := Nat.mul_le_mul_right _ hc
    have hik : i * k ≤ n * k := Nat.mul_le_mul_right _ hi
    have hl : ((xs.take i).flatMap enc).length = i * k := by rw [flat_length enc k hk, List.length_take, hn, Nat.min_eq_left hi]
    refine ⟨hl, .inr ⟨g, cap, setMany cur (i * k) vs, rfl, hbase, fZ _ _ _ _ hb, by omega, hm, by rw [size_setMany, hs], ?_⟩⟩
    apply List.ext_getElem?
    intro t
    by_cases ht' : t < i * k
    · have k0 : 0 < k := by
        rcases Nat.eq_zero_or_pos k with h0 | h0
        · subst h0; simp at ht'
        · exact h0
      have hts : t < cur.size := by rw [hs]; omega
      have hq : t / k < i := (Nat.div_lt_iff_lt_mul k0).2 ht'
      rw [List.getElem?_take_of_lt ht', Array.getElem?_toList, flat_get enc k hk _ t (by rw [List.length_take, hn, Nat.min_eq_left hi]; exact ht')]
      rw [Array.getElem?_eq_getElem (by rw [size_setMany]; exact hts), ← getElem!_pos _ t (by rw [size_setMany]; exact hts), get_setMany _ _ _ t hts, if_neg (by omega)]
      have e1 : (cur.toList.take (n * k))[t]? = (xs.flatMap enc)[t]? := by rw [ht]
      rw [List.getElem?_take_of_lt (by omega), Array.getElem?_toList, flat_get enc k hk _ t (by rw [hn]; omega), Array.getElem?_eq_getElem hts, ← getElem!_pos cur t hts] at e1
      rw [e1, getElem!_pos (xs.take i) (t / k) (by rw [List.length_take, hn, Nat.min_eq_left hi]; exact hq), List.getElem_take, getElem!_pos xs (t / k) (by omega)]
    · rw [List.getElem?_eq_none (by rw [List.length_take]; omega), List.getElem?_eq_none (by omega)]
theorem run_clear_rows {P : Program} (w : World) (t e ty : TypeId) (z : Value) (ht : P.underlying t = some (.slice e)) (hv : ∀ w, (zeroValue e).run P w = .ok z w) (b o n c : Nat) (zs : List Value) (hz : (Builtin.zeroCells z.cells n).toList = zs) (h1 : ∀ v ∈ zs, v.oneCell' = true) (hn : 0 < n)
    (hc : ∀ j, j < zs.length → (w.cell? ⟨b, o + j, none⟩).isSome = true) (hf : ∀ j, j < zs.length → w.frozen? ⟨b, o + j, none⟩ = false) :
    (Builtin.clear_ #[t] ty #[.slice (some ⟨b, o, none⟩) n c]).run P w = .ok (.tuple #[]) (w.setCells b o zs) := by
  have hst := run_storeCells_cells (P := P) b o zs 0 w (by simpa using hc) (by simpa using hf) h1
  simp only [Nat.add_zero] at hst
  obtain ⟨m, rfl⟩ : ∃ m, n = m + 1 := ⟨n - 1, by omega⟩
  simp [Builtin.clear_, run_underlying ht, hv, hz, hst]
theorem kC {enc : α → Value} {w : World} {base e g n cap : Nat} {xs : List α} (h : w.ownsRow base e 1 (.slice (some ⟨g, 0, none⟩) n cap) n (xs.map enc)) (hn : xs.length = n) : Holds enc w g 0 xs.toArray := by
  obtain ⟨hl, h⟩ := h
  rcases h with ⟨h, _⟩ | ⟨g', cap', cur, hv, _, hb, hc, hm, hs, ht⟩
  · cases h
  · injection hv with h1 _ h3
    injection h1 with h1
    injection h1 with h1
    subst h1; subst h3
    intro j hj
    have hj' : j < xs.length := by simpa using hj
    have e2 : (cur.toList.take (n * 1))[j]? = (xs.map enc)[j]? := by rw [ht]
    rw [List.getElem?_take_of_lt (by omega), Array.getElem?_toList, List.getElem?_map, List.getElem?_eq_getElem hj'] at e2
    refine ⟨?_, ?_⟩
    · show w.cell? ⟨g, 0 + j, none⟩ = some (enc (xs.toArray[j]!))
      rw [Nat.zero_add, show xs.toArray[j]! = xs[j] by simp [hj']]
      simp only [World.cell?, hb, e2, Option.isSome_none, Bool.false_eq_true, if_false, Option.map_some]
    · show w.frozen? ⟨g, 0 + j, none⟩ = false
      simp only [World.frozen?, hb, Nat.not_lt_zero, decide_false, Bool.and_false]
omit [Inhabited α] in
theorem kT {w : World} {g m : Nat} {f : Array Value → Array Value} {os : Array Obj} (i : Nat) (hi : i < w.heap.size) (hne : i ≠ g) : (grow (mapBlock (Sort.ahead w m) g f) os).heap[i]? = w.heap[i]? := by
  rw [heap_grow_old _ _ (by show i < (w.heap.modify g _).size; rw [Array.size_modify]; exact hi)]
  show (w.heap.modify g _)[i]? = _
  rw [Array.getElem?_modify, if_neg (Ne.symm hne)]
theorem kV {w : World} {g m : Nat} {f : Array Value → Array Value} {os : Array Obj} : w.heap.size ≤ (grow (mapBlock (Sort.ahead w m) g f) os).heap.size := by
  show w.heap.size ≤ ((w.heap.modify g _) ++ os).size
  rw [Array.size_append, Array.size_modify]; omega
theorem kH {w0 w : World} {g m B : Nat} {f : Array Value → Array Value} {os : Array Obj} (h : Below B w0 w) (hB : B ≤ w.heap.size) (hg : B ≤ g) : Below B w0 (grow (mapBlock (Sort.ahead w m) g f) os) :=
  h.trans ⟨rfl, rfl, rfl, kV, fun i hi => kT i (by omega) (by omega)⟩
theorem kS {w : World} {g m : Nat} {f : Array Value → Array Value} {os : Array Obj} {S : Nat → Prop} (hg : S g) : Kept w (grow (mapBlock (Sort.ahead w m) g f) os) S :=
  ⟨kV, fun i hi hn => kT i hi (fun e => hn (e ▸ hg))⟩
theorem own_putRow {enc : α → Value} {w : World} {base e g n n1 cap m : Nat} {cs : List Value} {d : Array α} {os : Array Obj} (h : w.ownsRow base e 1 (.slice (some ⟨g, 0, none⟩) n cap) n cs) (hd : n1 ≤ d.size) (hd2 : n1 ≤ n) :
    (grow (putRow enc (Sort.ahead w m) g 0 d) os).ownsRow base e 1 (.slice (some ⟨g, 0, none⟩) n1 cap) n1 ((d.toList.take n1).map enc) := by
  obtain ⟨_, h⟩ := h
  rcases h with ⟨h, _⟩ | ⟨g', cap', cur, hv, hbase, hb, hc, hm, hs, ht⟩
  · cases h
  · injection hv with h1 _ h3
    injection h1 with h1
    injection h1 with h1
    subst h1; subst h3
    have hlt : g < w.heap.size := by
      rcases Nat.lt_or_ge g w.heap.size with h | h
      · exact h
      · rw [Array.getElem?_eq_none h] at hb; cases hb
    have hl : ((d.toList.take n1).map enc).length = n1 * 1 := by rw [List.length_map, List.length_take, Array.length_toList]; omega
    refine ⟨hl, .inr ⟨g, cap, putCells enc 0 d cur, rfl, hbase, ?_, by omega, hm, ?_, ?_⟩⟩
    · rw [heap_grow_old _ _ (by show g < (w.heap.modify g _).size; rw [Array.size_modify]; exact hlt)]
      show (w.heap.modify g (onCells (putCells enc 0 d)))[g]? = _
      rw [Array.getElem?_modify, if_pos rfl, hb]
      rfl
    · simp [putCells, hs]
    · apply List.ext_getElem?
      intro t
      by_cases ht' : t < n1 * 1
      · have hts : t < cur.size := by rw [hs]; omega
        rw [List.getElem?_take_of_lt ht', Array.getElem?_toList, List.getElem?_map, List.getElem?_take_of_lt (by omega), Array.getElem?_toList]
        simp only [putCells, Array.getElem?_mapIdx, Array.getElem?_eq_getElem hts, Option.map_some]
        rw [if_pos ⟨Nat.zero_le _, by omega⟩, Nat.sub_zero, getElem!_pos d t (by omega), Array.getElem?_eq_getElem (by omega)]
        rfl
      · rw [List.getElem?_eq_none (by rw [List.length_take]; omega), List.getElem?_eq_none (by omega)]
end Go.Proofs.YthkeonbmgcphkaaGreatDoorSort
namespace Go.Proofs.YthkeonbmgcphkaaGreatDoorW.PrintMore
open Go.RowKit Go.Proofs.YthkeonbmgcphkaaGreatDoorW.PrintWords Go.Proofs.YthkeonbmgcphkaaGreatDoorW.PrintLast
set_option linter.unusedVariables false
theorem kL : ∀ (x y : List UInt8), Op.bytesLess x y = decide (x < y)
  | [], [] => by simp [Op.bytesLess]
  | [], b :: y => by simp [Op.bytesLess]
  | a :: x, [] => by simp [Op.bytesLess]
  | a :: x, b :: y => by
    have ih := kL x y
    simp only [Op.bytesLess, ih]
    rw [Bool.eq_iff_iff]
    simp [List.cons_lt_cons_iff]
theorem fV (a b : List UInt8) : (Op.bytesLess a b || a == b) = !(Op.bytesLess b a) := by
  rw [kL, kL, Bool.eq_iff_iff]
  simp only [Bool.or_eq_true, decide_eq_true_eq, beq_iff_eq, Bool.not_eq_true', decide_eq_false_iff_not, List.not_lt]
  rw [List.le_iff_lt_or_eq]
theorem ifn_ {α : Type} {c : Prop} {i : Decidable c} {a : Option α} {r : α} (h : (if c then a else none) = some r) : c ∧ a = some r := by
  by_cases hc : c
  · rw [if_pos hc] at h; exact ⟨hc, h⟩
  · rw [if_neg hc] at h; cases h
theorem ce_ {w W : World} {x : Addr} {v : Value} (b : Aside0 (Below w.heap.size w W)) (h : w.cell? x = some v) : W.cell? x = some v := (b.out.cell (World.block_lt_of_cell? w _ h)).trans h
theorem bl_ {p : Prop} (h : p := by repeat (first | (with_reducible first | exact HB.out | apply below_alloc | apply pw_below_drewN | apply below_drew1 | refine below_set ?_ (Aside0.out (by assumption))) | exact HB.out)) : p := h
theorem gs_ {w W : World} {g : Nat} (hg : g = W.heap.size) (h : Below w.heap.size w W := by repeat (first | (with_reducible first | exact HB.out | apply below_alloc | apply pw_below_drewN | apply below_drew1 | refine below_set ?_ (Aside0.out (by assumption))) | exact HB.out)) : w.heap.size ≤ g := hg ▸ below_size h
theorem gw_ {w W : World} (hG : Tryz.GW w) (h : Below w.heap.size w W := by repeat (first | (with_reducible first | exact HB.out | apply below_alloc | apply pw_below_drewN | apply below_drew1 | refine below_set ?_ (Aside0.out (by assumption))) | exact HB.out)) : Tryz.GW W := Tryz.dJ hG h
theorem bk_ {p q : Prop} (x : Aside0 p) (h : p → q := by intro h_; (with_reducible repeat (first | refine blk_drewN ?_ _ | refine blk_drew ?_ | refine blk_alloc ?_ _)); exact h_) : q := h x.out
theorem bb_ {w0 w w1 : World} {g : Nat} {o : Obj} (x : Aside0 (w0.heap[g]? = some o)) (hb : Below w.heap.size w w1) (h : w0.heap[g]? = some o → w.heap[g]? = some o := by intro h_; (with_reducible repeat (first | refine blk_drewN ?_ _ | refine blk_drew ?_ | refine blk_alloc ?_ _)); exact h_) : Aside0 (w1.heap[g]? = some o) := ⟨blk_below (h x.out) hb⟩
theorem nl_ {w0 W : World} {g g' : Nat} {o : Obj} (hg : g' = W.heap.size) (x : Aside0 (w0.heap[g]? = some o)) (h : w0.heap[g]? = some o → W.heap[g]? = some o := by intro h_; (with_reducible repeat (first | refine blk_drewN ?_ _ | refine blk_drew ?_ | refine blk_alloc ?_ _)); exact h_) : g ≠ g' := hg ▸ Nat.ne_of_lt (blk_lt (h x.out))
theorem ng_ {w0 W : World} {g g' : Nat} {o : Obj} (hg : g' = W.heap.size) (x : Aside0 (w0.heap[g]? = some o)) (h : w0.heap[g]? = some o → W.heap[g]? = some o := by intro h_; (with_reducible repeat (first | refine blk_drewN ?_ _ | refine blk_drew ?_ | refine blk_alloc ?_ _)); exact h_) : g' ≠ g := hg ▸ Nat.ne_of_gt (blk_lt (h x.out))
theorem dt_ {p : Prop} {i : Decidable p} (h : decide p = true := by first | (with_reducible assumption) | assumption) : p := of_decide_eq_true h
theorem fb_ {w : World} {a : Addr} {v : Value} {g : Nat} {p : Prop} (h : w.cell? a = some v) (hg : Aside0 (w.heap.size ≤ g)) (k : a.block ≠ g → p := by intro h_; first | exact h_ | (rw [add_block] at h_ ⊢; exact h_) | (rw [add_block]; exact h_) | (rw [add_block] at h_; exact h_) | (show (Addr.add _ _).block ≠ _; rw [add_block]; first | exact h_ | (rw [add_block] at h_; exact h_)) | (dsimp only; first | exact h_ | (rw [add_block] at h_; exact h_))) : p := k (Nat.ne_of_lt (Nat.lt_of_lt_of_le (World.block_lt_of_cell? w _ h) hg.out))
theorem cb_ {p q : Prop} (x : p) (h : p → q := by intro h_; repeat (first | exact h_ | (with_reducible refine Kd.C_alloc ?_ _) | (with_reducible refine Kd.C_drewN ?_ _) | (with_reducible refine Kd.C_drew ?_))) : q := h x
theorem rr_ {p q : Prop} (x : Aside0 p) (h : p → q := by intro h_; (with_reducible repeat (first | apply Kd.R_alloc | apply Kd.R_drewN | apply Kd.R_drew)); exact h_) : q := h x.out
theorem ss_ {p q : Prop} (x : Aside0 p) (h : p → q := by intro h_; (with_reducible repeat (first | apply Kd.S_alloc | apply Kd.S_drewN | apply Kd.S_drew)); exact h_) : q := h x.out
theorem bc2_ {w : World} {g t : Nat} {c0 c1 : Value} (h : Aside0 (w.heap[g]? = some (.cells #[c0, c1] t (0, 0)))) : w.cell? ⟨g, 0, none⟩ = some c0 ∧ w.cell? ⟨g, 1, none⟩ = some c1 ∧ w.frozen? ⟨g, 0, none⟩ = false ∧ w.frozen? ⟨g, 1, none⟩ = false := ⟨(blk_cell h.out 0).trans rfl, (blk_cell h.out 1).trans rfl, blk_frozen h.out 0, blk_frozen h.out 1⟩
theorem bc3_ {w : World} {g t : Nat} {c0 c1 c2 : Value} (h : Aside0 (w.heap[g]? = some (.cells #[c0, c1, c2] t (0, 0)))) : w.cell? ⟨g, 0, none⟩ = some c0 ∧ w.cell? ⟨g, 1, none⟩ = some c1 ∧ w.cell? ⟨g, 2, none⟩ = some c2 ∧ w.frozen? ⟨g, 0, none⟩ = false ∧ w.frozen? ⟨g, 1, none⟩ = false ∧ w.frozen? ⟨g, 2, none⟩ = false := ⟨(blk_cell h.out 0).trans rfl, (blk_cell h.out 1).trans rfl, (blk_cell h.out 2).trans rfl, blk_frozen h.out 0, blk_frozen h.out 1, blk_frozen h.out 2⟩
theorem bc4_ {w : World} {g t : Nat} {c0 c1 c2 c3 : Value} (h : Aside0 (w.heap[g]? = some (.cells #[c0, c1, c2, c3] t (0, 0)))) : w.cell? ⟨g, 0, none⟩ = some c0 ∧ w.cell? ⟨g, 1, none⟩ = some c1 ∧ w.cell? ⟨g, 2, none⟩ = some c2 ∧ w.cell? ⟨g, 3, none⟩ = some c3 ∧ w.frozen? ⟨g, 0, none⟩ = false ∧ w.frozen? ⟨g, 1, none⟩ = false ∧ w.frozen? ⟨g, 2, none⟩ = false ∧ w.frozen? ⟨g, 3, none⟩ = false := ⟨(blk_cell h.out 0).trans rfl, (blk_cell h.out 1).trans rfl, (blk_cell h.out 2).trans rfl, (blk_cell h.out 3).trans rfl, blk_frozen h.out 0, blk_frozen h.out 1, blk_frozen h.out 2, blk_frozen h.out 3⟩
theorem bc7_ {w : World} {g t : Nat} {c0 c1 c2 c3 c4 c5 c6 : Value} (h : Aside0 (w.heap[g]? = some (.cells #[c0, c1, c2, c3, c4, c5, c6] t (0, 0)))) : w.cell? ⟨g, 0, none⟩ = some c0 ∧ w.cell? ⟨g, 1, none⟩ = some c1 ∧ w.cell? ⟨g, 2, none⟩ = some c2 ∧ w.cell? ⟨g, 3, none⟩ = some c3 ∧ w.cell? ⟨g, 4, none⟩ = some c4 ∧ w.cell? ⟨g, 5, none⟩ = some c5 ∧ w.cell? ⟨g, 6, none⟩ = some c6 ∧ w.frozen? ⟨g, 0, none⟩ = false ∧ w.frozen? ⟨g, 1, none⟩ = false ∧ w.frozen? ⟨g, 2, none⟩ = false ∧ w.frozen? ⟨g, 3, none⟩ = false ∧ w.frozen? ⟨g, 4, none⟩ = false ∧ w.frozen? ⟨g, 5, none⟩ = false ∧ w.frozen? ⟨g, 6, none⟩ = false := ⟨(blk_cell h.out 0).trans rfl, (blk_cell h.out 1).trans rfl, (blk_cell h.out 2).trans rfl, (blk_cell h.out 3).trans rfl, (blk_cell h.out 4).trans rfl, (blk_cell h.out 5).trans rfl, (blk_cell h.out 6).trans rfl, blk_frozen h.out 0, blk_frozen h.out 1, blk_frozen h.out 2, blk_frozen h.out 3, blk_frozen h.out 4, blk_frozen h.out 5, blk_frozen h.out 6⟩
section
variable {P : Program} {ops : Array Oper} {rest : List Oper} {o oi : Oper} {a : Act} {Q : Exit → Act → World → Prop} {w : World}
theorem gl_ (N : Option Tmp) {f : FuncId} {fn : Func} {ops_ : Array Operand} {tys_ : Array TypeId} (hf : P.funcs[f]? = some fn) (args : Array Value)
    (h : Calls P f args w fun e w' => ∃ v, e = .returned v ∧ wpList P ops Q rest (a.put N v) w') (hd : oi.dst = N := by rfl) (hg : oi.guard = none := by rfl) (hname : (fn.name == "runtime.NumGoroutine") = false := by kernel_rfl) (hb : fn.body.isSome = true := by rfl)
    (hop : oi.op = .call { callee := .value (.func f), args := ops_, argTypes := tys_ } := by rfl) (hargs : ops_.map a.eval = args := by (try simp only [List.map_toArray, List.map_cons, List.map_nil]); first | done | rfl | (simp only [List.length_drop, List.length_take]; rfl)) : wpList P ops Q (oi :: rest) a w := goesL_ N hd hg hf hname hb args hop hargs h
theorem bx_ {N : Tmp} {cs : Array Value} {t : TypeId}
    (h : ∀ g, g = w.heap.size → ∀ w1, w1.heap[g]? = some (.cells cs t (0, 0)) → Below w.heap.size w w1 → wpList P ops Q rest (a.put o.dst (.pointer (some ⟨g, 0, none⟩))) w1) (_hd : o.dst = some N := by rfl) (hgd : o.guard = none := by rfl)
    (hrun : (execOp a.eval o).run P w = .ok (.value (.pointer (some ⟨w.heap.size, 0, none⟩))) (w.alloc (.cells cs t (0, 0))) := by first | (go_simp; done) | (go_simp; rfl)) : wpList P ops Q (o :: rest) a w := box_event hgd _hd hrun h
theorem gn_ (N : Tmp) (_h : o.dst = some N) (h : wpList P ops Q (o :: rest) a w) : wpList P ops Q (o :: rest) a w := h
theorem gf_ (f : FuncId) {as_ : Array Operand} {ts : Array TypeId} (_h : o.op = .call { callee := .value (.func f), args := as_, argTypes := ts }) (h : wpList P ops Q (o :: rest) a w) : wpList P ops Q (o :: rest) a w := h
theorem bq_ {N : Tmp} {cs : Array Value} {t : TypeId}
    (h : ∀ g, g = w.heap.size → ∀ w1, Aside0 (w1.heap[g]? = some (.cells cs t (0, 0))) → Below w.heap.size w w1 → wpList P ops Q rest (a.put o.dst (.pointer (some ⟨g, 0, none⟩))) w1) (_hd : o.dst = some N := by rfl) (hgd : o.guard = none := by rfl)
    (hrun : (execOp a.eval o).run P w = .ok (.value (.pointer (some ⟨w.heap.size, 0, none⟩))) (w.alloc (.cells cs t (0, 0))) := by first | (go_simp; done) | (go_simp; rfl)) : wpList P ops Q (o :: rest) a w := box_event hgd _hd hrun fun g hg w1 hb => h g hg w1 ⟨hb⟩
end
def bv (n m : Nat) : Array Bool := ((List.range n).map fun i => m.testBit i).toArray
section
variable {P : Program} {ops : Array Oper} {Q : Exit → Act → World → Prop} {md : Region.Mode} {S : World → Prop} {ds : List Nat} {oi : Oper} {v : Value} {fuel : Nat} {l : Array Bool} {a a' : Act} {w : World}
theorem pu_ (i n : Nat) (l' : Array Bool) (h : wpAnyLast P md ops Q S ds fuel l' a' w) (hi : ops[i]? = some oi := by rfl) (hN : oi.dst = some n := by rfl) (hc : anyB md ops l l' i = true := by first | exact any_of HT_.out (by kernel_rfl) | kernel_rfl)
    (hQ : ∀ c a w, Q (.panic c) (a.put oi.dst v) w → Q (.panic c) a w := by exact fun _ _ _ h => h) (hy : Yields P ops oi v a := by exact Or.inl ⟨by rfl, by intro w'; go_simp; with_reducible rfl⟩)
    (ha : a.put (some n) v = a' := by simp only [Act.put, List.setIfInBounds_toArray, List.set_cons_zero, List.set_cons_succ, i64_w, i32_w]; rfl) : wpAnyLast P md ops Q S ds (fuel + 1) l a w := pure_ l' hi hN hc hQ hy ha h
theorem tk_ (i n : Nat) (l' : Array Bool) (hS : S w) (h : wpAnyLast P md ops Q S ds fuel l' a' w) (hi : ops[i]? = some oi := by rfl) (hN : oi.dst = some n := by rfl) (hc : takeB md ops ds l l' i = true := by first | exact take_ofW HT_.out HW_.out (by kernel_rfl) | exact take_of HT_.out (by kernel_rfl) | kernel_rfl)
    (hQ : ∀ c a w, Q (.panic c) (a.put oi.dst v) w → Q (.panic c) a w := by exact fun _ _ _ h => h) (hy : YieldsIf P ops S oi v a := by exact Or.inl ⟨by rfl, by intro w' hs_; (try dsimp only at hs_); repeat (obtain ⟨s_, hs_⟩ := hs_); go_simp; with_reducible rfl⟩)
    (ha : a.put (some n) v = a' := by simp only [Act.put, List.setIfInBounds_toArray, List.set_cons_zero, List.set_cons_succ, i64_w, i32_w]; rfl) : wpAnyLast P md ops Q S ds (fuel + 1) l a w := take_ l' hi hN hc hQ hy hS ha h
end
theorem bs_ {α β : Type} {o : Option α} {f : α → Option β} {r : β} (h : o.bind f = some r) : ∃ t, Aside0 (o = some t) ∧ f t = some r := by
  obtain ⟨t, a, b⟩ := Option.bind_eq_some_iff.mp h
  exact ⟨t, ⟨a⟩, b⟩
theorem ifd_ {α : Type} {c : Prop} {i : Decidable c} {a : Option α} {r : α} (h : (if c then a else none) = some r) : decide c = true ∧ a = some r := ⟨decide_eq_true (ifn_ h).1, (ifn_ h).2⟩
theorem ifa_ {α : Type} {c : Prop} {i : Decidable c} {a : Option α} {r : α} (h : (if c then a else none) = some r) : Aside0 c ∧ a = some r := ⟨⟨(ifn_ h).1⟩, (ifn_ h).2⟩
theorem pt_ (x : Int) (h : decide (0 ≤ x) = true := by first | (with_reducible assumption) | assumption) : (0 ≤ x) = True := eq_true (of_decide_eq_true h)
theorem qt_ (x y : Int) (h : decide (x < y) = true := by first | (with_reducible assumption) | assumption) : (x < y) = True := eq_true (of_decide_eq_true h)
theorem oe_ {p : Prop} (h : p = True) : p := of_eq_true h
theorem bf_ {b : Bool} (h : ¬ b = true) : b = false := Bool.eq_false_iff.mpr h
theorem sj_ {α : Type} {a b : α} (h : some a = some b) : a = b := Option.some.inj h
theorem ft_ : ¬ (false = true) := by decide
theorem bp_ {w0 w w1 : World} (hb : Below w.heap.size w w1) (h : Below w0.heap.size w0 w := by repeat (first | (with_reducible first | exact HB.out | apply below_alloc | apply pw_below_drewN | apply below_drew1 | refine below_set ?_ (Aside0.out (by assumption))) | exact HB.out)) : Aside0 (Below w0.heap.size w0 w1) := ⟨below_step h hb⟩
theorem ga_ (w : World) {W : World} {g : Nat} (hg : g = W.heap.size) (h : Below w.heap.size w W := by repeat (first | (with_reducible first | exact HB.out | apply below_alloc | apply pw_below_drewN | apply below_drew1 | refine below_set ?_ (Aside0.out (by assumption))) | exact HB.out)) : Aside0 (w.heap.size ≤ g) := ⟨hg ▸ below_size h⟩
theorem gd_ {W : World} (h : Tryz.GW W := by repeat (first | exact HG.out | apply Tryz.gw_drewN | apply Tryz.gw_drew)) : Tryz.GW W := h
theorem am_ {p : Prop} (x : p) : Aside0 p := ⟨x⟩
theorem ra_ {p : Prop} (h : p := by first | rfl | (simp; done) | (simp [*]; done)) : p := h
theorem er_ {p : Prop} (h : p := by first | rfl | (simp [dK, dL] <;> rfl) | (simp [*, dK, dL] <;> rfl)) : p := h
theorem dr_ {p : Prop} (h : p := by repeat (first | exact Drawn0.refl _ | apply Drawn0.step)) : p := h
theorem bw_ {p q : Prop} (x : Aside0 p) (h : p → q := by intro h_; (repeat (first | (with_reducible refine blk_drewN ?_ _) | (with_reducible refine blk_drew ?_) | (with_reducible refine blk_alloc ?_ _) | apply blk_put | (apply blk_far; case hp => exact Aside0.out (by assumption)))); (with_reducible exact h_); all_goals rfl) : q := h x.out
end Go.Proofs.YthkeonbmgcphkaaGreatDoorW.PrintMore
