import Derived.Test.YthkeonbmgcphkaaGreatDoorHg17
import Derived.Test.YthkeonbmgcphkaaGreatDoorHg18
import Derived.Test.YthkeonbmgcphkaaGreatDoorHg5
import Derived.Test.YthkeonbmgcphkaaGreatDoorHg19
import Derived.Test.YthkeonbmgcphkaaGreatDoorHg7
namespace Go.Proofs.YthkeonbmgcphkaaGreatDoorPlain
open Go.RowKit Go.Proofs.YthkeonbmgcphkaaGreatDoor.PM Go.Proofs.YthkeonbmgcphkaaGreatDoorW.PrintWords Go.Proofs.YthkeonbmgcphkaaGreatDoor.Bytes Go.Proofs.YthkeonbmgcphkaaGreatDoor.Plain
set_option linter.unusedVariables false
set_option linter.unusedSimpArgs false
abbrev Nc := S66
abbrev Ar := S68
def iM (a : ByteArray) : Bool := jP a.data.toList
theorem word_tot (a : ByteArray) (ha : a.size < 9223372036854775807) : Tot (fun k => bW.f k a) fun b => b = iM a := ⟨a.size + 1, _, fun k hk => isWord_f a ha k (by omega), rfl⟩
theorem word5_tot (a : ByteArray) (ha : a.size < 9223372036854775807) : Tot (fun k => aY.f k a) fun b => b = iM a := ⟨a.size + 2, _, fun k hk => isWord5_f a ha k (by omega), rfl⟩
def parts (a : ByteArray) : List ByteArray := Lib.splitB ⟨#[47]⟩ 0 (Lib.countB a ⟨#[47]⟩) a
def jJ (a : ByteArray) : Bool := decide (a.size ≤ 200) && (parts a).all iM
theorem parts_len (a : ByteArray) : (parts a).length ≤ a.size + 1 := by
  have h2 := Lib.splitB_length_le ⟨#[47]⟩ 0 (Lib.countB a ⟨#[47]⟩) a
  have h3 := Lib.countB_le ⟨#[47]⟩ (by decide) a.size a (Nat.le_refl _)
  unfold parts
  omega
theorem parts_size (a : ByteArray) : ∀ x ∈ parts a, x.size ≤ a.size := fun x hx => kR _ _ _ _ x hx
theorem split_some (a : ByteArray) (ha : a.size < 4294967281) : strings_Split.f a ⟨#[47]⟩ = some (parts a) := by
  unfold strings_Split.f
  rw [if_pos ha, if_pos (by decide)]
  rfl
theorem rdB {l : List ByteArray} {j : Nat} (hj : j < l.length) : rdOf ByteArray.empty l (j : Int) = l[j] := by
  unfold rdOf
  rw [Int.toNat_natCast, List.getD_eq_getElem?_getD, List.getElem?_eq_getElem hj, Option.getD_some]
theorem path_tot (a : ByteArray) : Tot (fun k => dX.f k a) fun b => b = jJ a := by
  unfold dX.f
  refine Tot.ite (fun h => ?_) (fun h => Tot.pure _ ?_)
  · simp only [split_some a (by omega), Option.bind_some]
    have hlen := parts_len a
    have hsz := parts_size a
    unfold jJ
    rw [show decide (a.size ≤ 200) = true from decide_eq_true (by omega), Bool.true_and]
    generalize parts a = l at hlen hsz ⊢
    unfold dB.f
    refine Tot.bind (Q := fun b => b = !(l.all iM)) ?_ fun b hb => Tot.pure _ (by rw [hb, Bool.not_not])
    refine Tot.bind (Q := fun t => decide (t ≥ 0) = !(l.all iM)) ?_ fun t ht => Tot.pure _ ht
    have key := gV (α := Int) (σ := Unit) (F := fun k _ j => aX.l0 k l (l.length : Int) (j : Int)) (n := l.length) (Q := fun _ j t => decide (t ≥ 0) = !((l.drop j).all iM)) (fun _ j hj ih => ?_) (fun _ => ?_) l.length () 0 (by omega)
    · exact key
    · simp only [aX.l0, fB.f, w1 hj (by omega : l.length ≤ 9223372036854775807), rdB hj]
      refine Tot.ite (fun _ => ?_) (fun _ => by exfalso; omega)
      refine Tot.ite (fun _ => ?_) (fun _ => by exfalso; omega)
      refine Tot.ite (fun _ => ?_) (fun _ => by exfalso; omega)
      refine Tot.bind (Q := fun b => b = !(iM l[j])) (Tot.bind (word_tot _ (by have := hsz _ (List.getElem_mem hj); omega)) fun b hb => Tot.pure _ (by rw [hb])) fun b hb => ?_
      rw [List.drop_eq_getElem_cons hj]
      refine Tot.ite (fun h => Tot.pure _ ?_) (fun h => (ih ()).imp fun t ht => ?_)
      · rw [hb] at h
        have h' : iM l[j] = false := by simpa using h
        rw [List.all_cons, h']
        simp
      · rw [hb] at h
        have h' : iM l[j] = true := by simpa using h
        rw [List.all_cons, h', Bool.true_and]
        exact ht
    · simp only [aX.l0]
      refine Tot.ite (fun _ => by exfalso; omega) (fun _ => Tot.pure _ ?_)
      simp
  · unfold jJ
    rw [show decide (a.size ≤ 200) = false from decide_eq_false (by omega), Bool.false_and]
theorem path5_tot (a : ByteArray) (ha : a.size < 4294967281) : Tot (fun k => cZ.f k a) fun b => b = jJ a := by
  unfold cZ.f
  simp only [split_some a ha, Option.bind_some]
  have hlen := parts_len a
  have hsz := parts_size a
  unfold jJ
  generalize parts a = l at hlen hsz ⊢
  have key := gV (α := Bool) (σ := Unit) (F := fun k _ j => cZ.l0 k a l (j : Int)) (n := l.length) (Q := fun _ j b => b = (decide (a.size ≤ 200) && (l.drop j).all iM)) (fun _ j hj ih => ?_) (fun _ => ?_) l.length () 0 (by omega)
  · exact key
  · simp only [cZ.l0, w1 hj (by omega : l.length ≤ 9223372036854775807), rdB hj]
    refine Tot.ite (fun _ => ?_) (fun _ => by exfalso; omega)
    refine Tot.ite (fun _ => ?_) (fun _ => by exfalso; omega)
    refine Tot.bind (word5_tot _ (by have := hsz _ (List.getElem_mem hj); omega)) fun b hb => ?_
    rw [List.drop_eq_getElem_cons hj, List.all_cons, ← hb]
    refine Tot.ite (fun h => (ih ()).imp fun t ht => ?_) (fun h => Tot.pure _ ?_)
    · rw [h, Bool.true_and]
      exact ht
    · rw [show b = false by simpa using h]
      simp
  · simp only [cZ.l0]
    refine Tot.ite (fun _ => by exfalso; omega) (fun _ => Tot.pure _ ?_)
    rw [List.drop_length, List.all_nil, Bool.and_true]
    exact decide_eq_decide.2 (by omega)
theorem has_tot (l : List ByteArray) (a : ByteArray) (hl : l.length ≤ 1000000000) : Tot (fun k => dD.f k l a) fun b => b = l.any fun y => decide (a = y) := by
  unfold dD.f
  have key := gV (α := Bool) (σ := Unit) (F := fun k _ j => dD.l0 k l a (j : Int)) (n := l.length) (Q := fun _ j b => b = (l.drop j).any fun y => decide (a = y)) (fun _ j hj ih => ?_) (fun _ => ?_) l.length () 0 (by omega)
  · exact key
  · simp only [dD.l0, w1 hj (by omega : l.length ≤ 9223372036854775807), rdB hj, toList_inj]
    refine Tot.ite (fun _ => ?_) (fun _ => by exfalso; omega)
    refine Tot.ite (fun _ => ?_) (fun _ => by exfalso; omega)
    rw [List.drop_eq_getElem_cons hj, List.any_cons]
    refine Tot.ite (fun h => Tot.pure _ ?_) (fun h => (ih ()).imp fun t ht => ?_)
    · rw [h]; simp
    · rw [decide_eq_false (fun e => h e.symm), Bool.false_or]
      exact ht
  · simp only [dD.l0]
    refine Tot.ite (fun _ => by exfalso; omega) (fun _ => Tot.pure _ ?_)
    simp
def iD (seen : ByteArray → Bool) : List ByteArray → Option ByteArray → Int
  | [], _ => 0
  | n :: t, p => if jJ n = true then (if aG.gQ p n = true then 8 else if seen n = true then 7 else iD seen t (some n)) else 5
def oneE (c : Nc) (p : Option ByteArray) (seen : ByteArray → Bool) : Int :=
  if iM c.f0 = true then (if 1000 < c.f1.length then 2 else if iD seen c.f1 none = 0 then (if aG.isR c.f2 = true then (if aG.isR c.f3 = true then (if aG.gQ p c.f0 = true then 8 else 0) else 1) else 1) else iD seen c.f1 none) else 5
def clE : List Nc → Option ByteArray → (ByteArray → Bool) → Int
  | [], _, _ => 0
  | c :: t, p, seen => if oneE c p seen = 0 then clE t (some c.f0) (fun x => seen x || c.f1.any (fun y => decide (x = y))) else oneE c p seen
theorem nets_spec (seen : ByteArray → Bool) : ∀ (l : List ByteArray) (p : Option ByteArray), Tot (fun k => aG.nets k seen l p) fun t => t = iD seen l p
  | [], p => Tot.pure _ rfl
  | n :: t, p => by
    show Tot (fun k => (dX.f k n).bind fun b => if b = true then (if aG.gQ p n = true then some 8 else if seen n = true then some 7 else aG.nets k seen t (some n)) else some 5) _
    refine Tot.bind (path_tot n) fun b hb => ?_
    subst hb
    rw [iD]
    refine Tot.ite (fun h1 => ?_) fun h1 => Tot.pure _ (by rw [if_neg h1])
    rw [if_pos h1]
    refine Tot.ite (fun h2 => Tot.pure _ (by rw [if_pos h2])) fun h2 => ?_
    rw [if_neg h2]
    refine Tot.ite (fun h3 => Tot.pure _ (by rw [if_pos h3])) fun h3 => ?_
    rw [if_neg h3]
    exact nets_spec seen t (some n)
theorem clE_spec : ∀ (l : List Nc) (p : Option ByteArray) (seen : ByteArray → Bool), (∀ c ∈ l, c.f0.size < 9223372036854775807) → Tot (fun k => aG.l k l p seen) fun t => t = clE l p seen
  | [], p, seen, _ => Tot.pure _ rfl
  | c :: t, p, seen, hs => by
    show Tot (fun k => (bW.f k c.f0).bind fun b => if b = true then (if 1000 < c.f1.length then some 2 else (aG.nets k seen c.f1 none).bind fun t1 => if t1 = 0 then (if aG.isR c.f2 = true then (if aG.isR c.f3 = true then (if aG.gQ p c.f0 = true then some 8 else aG.l k t (some c.f0) (fun x => seen x || c.f1.any (fun y => decide (x = y)))) else some 1) else some 1) else some t1) else some 5) _
    refine Tot.bind (word_tot c.f0 (hs c List.mem_cons_self)) fun b hb => ?_
    subst hb
    rw [clE, oneE]
    refine Tot.ite (fun h1 => ?_) fun h1 => Tot.pure _ (by rw [if_neg h1]; simp)
    rw [if_pos h1]
    refine Tot.ite (fun h2 => Tot.pure _ (by rw [if_pos h2]; simp)) fun h2 => ?_
    rw [if_neg h2]
    refine Tot.bind (nets_spec seen c.f1 none) fun t1 ht1 => ?_
    subst ht1
    refine Tot.ite (fun h3 => ?_) fun h3 => Tot.pure _ (by rw [if_neg h3, if_neg h3])
    rw [if_pos h3]
    refine Tot.ite (fun h4 => ?_) fun h4 => Tot.pure _ (by rw [if_neg h4]; simp)
    rw [if_pos h4]
    refine Tot.ite (fun h5 => ?_) fun h5 => Tot.pure _ (by rw [if_neg h5]; simp)
    rw [if_pos h5]
    refine Tot.ite (fun h6 => Tot.pure _ (by rw [if_pos h6]; simp)) fun h6 => ?_
    rw [if_neg h6, if_pos rfl]
    exact clE_spec t _ _ fun d hd => hs d (List.mem_cons_of_mem _ hd)
def fM (l : List Nc) : Int := if 50 < l.length then 2 else clE l none (fun _ => false)
theorem classes_spec (l : List Nc) (hs : ∀ c ∈ l, c.f0.size < 9223372036854775807) : Tot (fun k => aG.f k l) fun t => t = fM l := by
  unfold aG.f fM
  refine Tot.ite (fun h => Tot.pure _ (by rw [if_pos h])) fun h => ?_
  rw [if_neg h]
  exact clE_spec l _ _ hs
theorem jY (n : Int) : aZ.f n = some (aG.isR n) := by
  unfold aZ.f dG.f aG.isR
  by_cases h : n ≥ 0
  · rw [if_pos h, Option.bind_some, show decide (0 ≤ n) = true from decide_eq_true h, Bool.true_and]
  · rw [if_neg h, Option.bind_some, show decide (0 ≤ n) = false from decide_eq_false (by omega), Bool.false_and]
theorem jX (p n : ByteArray) : aG.gQ (some p) n = !(Op.bytesLess p.toList n.toList) := by
  unfold aG.gQ
  exact Go.Proofs.YthkeonbmgcphkaaGreatDoorW.PrintMore.fV _ _
def iC (l : List Nc) (i : Nat) (x : ByteArray) : Bool := (l.take i).any fun c => c.f1.any fun y => decide (x = y)
theorem kQ {l : List ByteArray} {j : Nat} (h : j < l.length) : aG.before l (j + 1) = some l[j] := by
  unfold aG.before
  rw [if_neg (by omega), Nat.add_sub_cancel, rdB h]
theorem prev_succ {l : List Nc} {j : Nat} (h : j < l.length) : aG.prev l (j + 1) = some l[j].f0 := by
  unfold aG.prev
  rw [if_neg (by omega), Nat.add_sub_cancel, rdT66 h]
theorem lF (l : List Nc) (i : Nat) (hi : i < l.length) (hl : l.length ≤ 1000000) (hw : l[i].f0.size < 9223372036854775807) (hn : ∀ n ∈ l[i].f1, n.size < 4294967281) (hm : ∀ c ∈ l, c.f1.length ≤ 1000000000) :
    Tot (fun k => aU.f k l (i : Int)) fun t => t = oneE l[i] (aG.prev l i) (iC l i) := by
  unfold aU.f
  simp only [rdT66 hi]
  refine Tot.ite (fun _ => ?_) (fun _ => by exfalso; omega)
  refine Tot.ite (fun _ => ?_) (fun _ => by exfalso; omega)
  refine Tot.bind (word5_tot _ hw) fun b hb => ?_
  subst hb
  unfold oneE
  refine Tot.ite (fun h1 => ?_) fun h1 => Tot.pure _ (by rw [if_neg h1])
  rw [if_pos h1]
  refine Tot.ite (fun h2 => Tot.pure _ (by rw [if_pos (by omega)])) fun h2 => ?_
  rw [if_neg (by omega)]
  have hN : l[i].f1.length ≤ 1000 := by omega
  obtain ⟨E, hE⟩ : ∃ E, (if aG.isR l[i].f2 = true then (if aG.isR l[i].f3 = true then (if aG.gQ (aG.prev l i) l[i].f0 = true then (8 : Int) else 0) else 1) else 1) = E := ⟨_, rfl⟩
  rw [hE]
  have key := gV (α := Int) (σ := Unit) (F := fun k _ j => aU.l0 k l (i : Int) (j : Int) l[i].f0 l[i].f1 l[i].f2 l[i].f3) (n := l[i].f1.length)
    (Q := fun _ j t => t = if iD (iC l i) (l[i].f1.drop j) (aG.before l[i].f1 j) = 0 then E else iD (iC l i) (l[i].f1.drop j) (aG.before l[i].f1 j)) (fun _ j hj ih => ?_) (fun _ => ?_) l[i].f1.length () 0 (by omega)
  · exact key
  · rw [List.drop_eq_getElem_cons hj, iD]
    simp only [aU.l0, rdB hj]
    refine Tot.ite (fun _ => ?_) (fun _ => by exfalso; omega)
    refine Tot.ite (fun _ => ?_) (fun _ => by exfalso; omega)
    refine Tot.bind (path5_tot _ (hn _ (List.getElem_mem hj))) fun b hb => ?_
    subst hb
    refine Tot.ite (fun h3 => ?_) fun h3 => Tot.pure _ (by rw [if_neg h3]; simp)
    rw [if_pos h3]
    have hj1 : ∀ bad : Bool, bad = aG.gQ (aG.before l[i].f1 j) l[i].f1[j] → Tot (fun k => aU.j1 k l (i : Int) (j : Int) bad l[i].f0 l[i].f1 l[i].f2 l[i].f3) fun t => t = if (if aG.gQ (aG.before l[i].f1 j) l[i].f1[j] = true then (8 : Int) else if iC l i l[i].f1[j] = true then 7 else iD (iC l i) (l[i].f1.drop (j + 1)) (some l[i].f1[j])) = 0 then E else (if aG.gQ (aG.before l[i].f1 j) l[i].f1[j] = true then (8 : Int) else if iC l i l[i].f1[j] = true then 7 else iD (iC l i) (l[i].f1.drop (j + 1)) (some l[i].f1[j])) := by
      intro bad hbad
      subst hbad
      refine Tot.succ (g := fun k => aU.j1 (k + 1) l (i : Int) (j : Int) _ l[i].f0 l[i].f1 l[i].f2 l[i].f3) ?_ fun k => rfl
      simp only [aU.j1]
      refine Tot.ite (fun h4 => Tot.pure _ (by rw [if_pos h4]; simp)) fun h4 => ?_
      rw [if_neg h4]
      have key2 := gV (α := Int) (σ := Unit) (F := fun k _ q => aU.l1 k l (i : Int) (j : Int) (q : Int) l[i].f0 l[i].f1 l[i].f2 l[i].f3) (n := i)
        (Q := fun _ q t => t = if (if ((l.take i).drop q).any (fun c => c.f1.any fun y => decide (l[i].f1[j] = y)) = true then (7 : Int) else iD (iC l i) (l[i].f1.drop (j + 1)) (some l[i].f1[j])) = 0 then E else (if ((l.take i).drop q).any (fun c => c.f1.any fun y => decide (l[i].f1[j] = y)) = true then (7 : Int) else iD (iC l i) (l[i].f1.drop (j + 1)) (some l[i].f1[j]))) (fun _ q hq ih2 => ?_) (fun _ => ?_) i () 0 (by omega)
      · exact key2
      · have hq' : q < l.length := by omega
        have hqt : q < (l.take i).length := by rw [List.length_take]; omega
        rw [List.drop_eq_getElem_cons hqt, List.any_cons, List.getElem_take]
        simp only [aU.l1, rdB hj, rdT66 hq', w1 hq (by omega : i ≤ 9223372036854775807)]
        refine Tot.ite (fun _ => ?_) (fun _ => by exfalso; omega)
        refine Tot.ite (fun _ => ?_) (fun _ => by exfalso; omega)
        refine Tot.ite (fun _ => ?_) (fun _ => by exfalso; omega)
        refine Tot.ite (fun _ => ?_) (fun _ => by exfalso; omega)
        refine Tot.ite (fun _ => ?_) (fun _ => by exfalso; omega)
        refine Tot.bind (has_tot _ _ (hm _ (List.getElem_mem hq'))) fun b hb => ?_
        rw [← hb]
        refine Tot.ite (fun h5 => Tot.pure _ (by rw [h5]; simp)) fun h5 => ?_
        rw [show b = false by simpa using h5, Bool.false_or]
        exact ih2 ()
      · simp only [aU.l1]
        refine Tot.ite (fun _ => by exfalso; omega) (fun _ => ?_)
        rw [show (l.take i).drop i = [] from List.drop_eq_nil_of_le (by rw [List.length_take]; omega), List.any_nil, ← kQ hj, w1 hj (by omega)]
        simp only [Bool.false_eq_true, if_false]
        exact ih ()
    refine Tot.ite (fun h4 => ?_) fun h4 => ?_
    · obtain ⟨m, rfl⟩ : ∃ m, j = m + 1 := ⟨j - 1, by omega⟩
      have hm' : m < l[i].f1.length := by omega
      rw [show wrap64 (((m + 1 : Nat) : Int) - 1) = (m : Int) from by rw [w64 (by omega) (by omega)]; omega]
      simp only [rdB hm']
      refine Tot.ite (fun _ => ?_) (fun _ => by exfalso; omega)
      refine Tot.ite (fun _ => ?_) (fun _ => by exfalso; omega)
      exact hj1 _ (by rw [kQ hm', jX])
    · have h0 : j = 0 := by omega
      subst h0
      exact hj1 _ rfl
  · simp only [aU.l0, jY, Option.bind_some]
    refine Tot.ite (fun _ => by exfalso; omega) (fun _ => ?_)
    rw [List.drop_length, iD, if_pos rfl, ← hE]
    have hj3 : ∀ bad : Bool, bad = (!(aG.isR l[i].f2 && aG.isR l[i].f3)) → Tot (fun k => aU.j3 k l (i : Int) bad l[i].f0 l[i].f1 l[i].f2 l[i].f3) fun t => t = if aG.isR l[i].f2 = true then (if aG.isR l[i].f3 = true then (if aG.gQ (aG.prev l i) l[i].f0 = true then (8 : Int) else 0) else 1) else 1 := by
      intro bad hbad
      refine Tot.succ (g := fun k => aU.j3 (k + 1) l (i : Int) bad l[i].f0 l[i].f1 l[i].f2 l[i].f3) ?_ fun k => rfl
      simp only [aU.j3]
      refine Tot.ite (fun h => Tot.pure _ ?_) fun h => ?_
      · rw [hbad] at h
        cases h2 : aG.isR l[i].f2 <;> cases h3 : aG.isR l[i].f3 <;> simp_all
      · have h2 : aG.isR l[i].f2 = true := by rw [hbad] at h; cases h2 : aG.isR l[i].f2 <;> simp_all
        have h3 : aG.isR l[i].f3 = true := by rw [hbad] at h; cases h3 : aG.isR l[i].f3 <;> simp_all
        rw [if_pos h2, if_pos h3]
        refine Tot.ite (fun h4 => ?_) fun h4 => Tot.pure _ ?_
        · obtain ⟨m, rfl⟩ : ∃ m, i = m + 1 := ⟨i - 1, by omega⟩
          have hm' : m < l.length := by omega
          rw [show wrap64 (((m + 1 : Nat) : Int) - 1) = (m : Int) from by rw [w64 (by omega) (by omega)]; omega]
          simp only [rdT66 hm', prev_succ hm', jX]
          refine Tot.ite (fun _ => ?_) (fun _ => by exfalso; omega)
          refine Tot.ite (fun _ => ?_) (fun _ => by exfalso; omega)
          refine Tot.ite (fun h5 => Tot.pure _ ?_) (fun h5 => Tot.pure _ ?_)
          · rw [h5]; simp
          · rw [show Op.bytesLess l[m].f0.toList l[m + 1].f0.toList = false by simpa using h5]; simp
        · have h0 : i = 0 := by omega
          subst h0
          rfl
    refine Tot.ite (fun h5 => hj3 _ (by rw [h5, Bool.true_and])) fun h5 => hj3 _ (by rw [show aG.isR l[i].f2 = false by simpa using h5]; rfl)
end Go.Proofs.YthkeonbmgcphkaaGreatDoorPlain
namespace Go.Proofs.YthkeonbmgcphkaaGreatDoorPlain
open Go.Proofs.YthkeonbmgcphkaaGreatDoor.PM Go.Proofs.YthkeonbmgcphkaaGreatDoorW.PrintWords
set_option linter.unusedVariables false
abbrev Bd := S118
abbrev Rc := S44
def Deep (c : Int → Int → Bool) (left right down up : Int) (y x : Int) : Prop := ∀ y' x', x - left ≤ x' → x' ≤ x + right → y - down ≤ y' → y' ≤ y + up → c y' x' = true
def Broad (c : Int → Int → Bool) (w : Int) (y x : Int) : Prop := ∃ y0 x0, Deep c 0 (w - 1) 0 (w - 1) y0 x0 ∧ x0 ≤ x ∧ x ≤ x0 + (w - 1) ∧ y0 ≤ y ∧ y ≤ y0 + (w - 1)
theorem Broad.one {c : Int → Int → Bool} {y x : Int} (h : c y x = true) : Broad c 1 y x :=
  ⟨y, x, fun y' x' a b p q => by rw [show y' = y by omega, show x' = x by omega]; exact h, by omega, by omega, by omega, by omega⟩
end Go.Proofs.YthkeonbmgcphkaaGreatDoorPlain
namespace Go.Proofs.YthkeonbmgcphkaaGreatDoorPlain
open Go.RowKit Go.Proofs.YthkeonbmgcphkaaGreatDoor.PM Go.Proofs.YthkeonbmgcphkaaGreatDoorW.PrintWords
set_option linter.unusedVariables false
set_option linter.unusedSimpArgs false
def ok1 (r : Rc) : Bool := (decide (-1000000 ≤ r.f0) && decide (r.f0 ≤ 1000000)) && ((decide (-1000000 ≤ r.f1) && decide (r.f1 ≤ 1000000)) && ((decide (-1000000 ≤ r.f2) && decide (r.f2 ≤ 1000000)) && (decide (-1000000 ≤ r.f3) && decide (r.f3 ≤ 1000000))))
def gI : List Rc → Int
  | [] => 0
  | r :: t => if ok1 r = true then (if r.f2 ≤ r.f0 then 13 else if r.f3 ≤ r.f1 then 13 else gI t) else 1
def gJ (l : List Rc) : Int := if l.length > 2000 then 2 else gI l
structure Good1 (r : Rc) : Prop where
  x : r.f0 < r.f2
  y : r.f1 < r.f3
  b0 : -1000000 ≤ r.f0
  b1 : -1000000 ≤ r.f1
  b2 : r.f2 ≤ 1000000
  b3 : r.f3 ≤ 1000000
theorem Good1.good {r : Rc} (h : Good1 r) : GoodR r := by
  obtain ⟨a, b, c, d, e, f⟩ := h
  exact ⟨a, b, by omega, by omega, by omega, by omega⟩
theorem jR : ∀ {l : List Rc}, gI l = 0 ↔ ∀ r ∈ l, Good1 r
  | [] => ⟨fun _ r hr => (by cases hr), fun _ => rfl⟩
  | r :: t => by
    have ih := jR (l := t)
    rw [gI]
    by_cases h : ok1 r = true
    · rw [if_pos h]
      unfold ok1 at h
      simp only [Bool.and_eq_true, decide_eq_true_eq] at h
      by_cases hx : r.f2 ≤ r.f0
      · rw [if_pos hx]
        exact ⟨fun e => by simp at e, fun g => by have := (g r List.mem_cons_self).x; omega⟩
      · rw [if_neg hx]
        by_cases hy : r.f3 ≤ r.f1
        · rw [if_pos hy]
          exact ⟨fun e => by simp at e, fun g => by have := (g r List.mem_cons_self).y; omega⟩
        · rw [if_neg hy, ih]
          constructor
          · intro g q hq
            rcases List.mem_cons.1 hq with rfl | hq
            · exact ⟨by omega, by omega, by omega, by omega, by omega, by omega⟩
            · exact g q hq
          · exact fun g q hq => g q (List.mem_cons_of_mem _ hq)
    · rw [if_neg h]
      refine ⟨fun e => by simp at e, fun g => absurd ?_ h⟩
      obtain ⟨a, b, c, d, e, f⟩ := g r List.mem_cons_self
      unfold ok1
      simp only [Bool.and_eq_true, decide_eq_true_eq]
      omega
theorem gY {l : List Rc} : gJ l = 0 ↔ l.length ≤ 2000 ∧ ∀ r ∈ l, Good1 r := by
  unfold gJ
  by_cases h : l.length > 2000
  · rw [if_pos h]; exact ⟨fun e => by simp at e, fun g => by omega⟩
  · rw [if_neg h, jR]; exact ⟨fun g => ⟨by omega, g⟩, fun g => g.2⟩
theorem lC (l : List Rc) : Tot (fun k => dI.f k l) fun t => t = gJ l := by
  unfold dI.f gJ
  by_cases hl : l.length > 2000
  · rw [if_pos hl]
    exact Tot.ite (fun _ => Tot.pure _ rfl) (fun h => by exfalso; omega)
  · rw [if_neg hl]
    refine Tot.of ?_ fun k => if_neg (by omega)
    have key := gV (α := Int) (σ := Unit) (F := fun k _ j => dI.l0 k l (l.length : Int) (j : Int)) (n := l.length) (Q := fun _ j t => t = gI (l.drop j)) (fun _ j hj ih => ?_) (fun _ => ?_) l.length () 0 (by omega)
    · exact key.imp fun t ht => by rw [ht, List.drop_zero]
    · simp only [dI.l0, isRect_some, Option.bind_some, w1 hj (by omega : l.length ≤ 9223372036854775807), jS hj, List.drop_eq_getElem_cons hj, gI]
      refine Tot.ite (fun _ => ?_) (fun _ => by exfalso; omega)
      refine Tot.ite (fun _ => ?_) (fun _ => by exfalso; omega)
      refine Tot.ite (fun _ => ?_) (fun _ => by exfalso; omega)
      refine Tot.ite (fun h => ?_) (fun h => Tot.pure _ (by rw [if_neg (by exact h)]))
      refine Tot.ite (fun hx => Tot.pure _ (by rw [if_pos (by exact h), if_pos hx])) (fun hx => ?_)
      refine Tot.ite (fun hy => Tot.pure _ (by rw [if_pos (by exact h), if_neg hx, if_pos hy])) (fun hy => ?_)
      exact (ih ()).imp fun t ht => by rw [if_pos (by exact h), if_neg hx, if_neg hy, ht]
    · simp only [dI.l0]
      exact Tot.ite (fun _ => by exfalso; omega) (fun _ => Tot.pure _ (by rw [List.drop_length]; rfl))
def IsForm (l : List Rc) : Prop := ∃ s, Shape s (covR l) ∧ l = dZ s
def gB (l : List Rc) (t : Int) : Prop :=
  (gJ l ≠ 0 ∧ t = gJ l) ∨ (gJ l = 0 ∧ ((bH.ord l = false ∧ t = 8) ∨ (bH.ord l = true ∧ ((IsForm l ∧ t = 0) ∨ (¬ IsForm l ∧ t = 3)))))
theorem gB.zero {l : List Rc} {t : Int} (h : gB l t) (h0 : t = 0) : l.length ≤ 2000 ∧ (∀ r ∈ l, Good1 r) ∧ IsForm l := by
  rcases h with ⟨h1, h2⟩ | ⟨h1, ⟨_, h2⟩ | ⟨_, ⟨h2, _⟩ | ⟨_, h2⟩⟩⟩
  · exact absurd (h2.symm.trans h0) h1
  · rw [h2] at h0; simp at h0
  · exact ⟨(gY.1 h1).1, (gY.1 h1).2, h2⟩
  · rw [h2] at h0; simp at h0
theorem kM (l : List Rc) : Tot (fun k => bH.f k l) (gB l) := by
  unfold bH.f
  refine Tot.bind (lC l) fun t ht => Tot.ite (fun h0 => ?_) fun h0 => Tot.pure _ (.inl ⟨by rwa [← ht], ht⟩)
  rw [h0] at ht
  obtain ⟨hl, hg⟩ := gY.1 ht.symm
  refine Tot.ite (fun ho => ?_) fun ho => Tot.pure _ (.inr ⟨ht.symm, .inl ⟨by simpa using ho, rfl⟩⟩)
  refine Tot.bind (setOf_tot l (fun r hr => (hg r hr).good) (by omega)) fun s hs => ?_
  obtain ⟨hsh, hsl, hsb⟩ := hs
  have hlen : (dZ s).length ≤ 8000000 := by have h1 := jB l.length s hsb; have h2 : s.length * l.length ≤ 4000 * 2000 := Nat.mul_le_mul (by omega) hl; omega
  refine Tot.bind (rects_tot s (fun b hb => (hsh.can.ok b hb).even) (by omega) (fun b hb => by have := hsb b hb; omega) (by omega)) fun q hq => ?_
  subst hq
  refine Tot.bind (equalR_tot (dZ s) l (by omega)) fun b hb => Tot.pure _ (.inr ⟨ht.symm, .inr ⟨ho, ?_⟩⟩)
  cases b with
  | true => exact .inl ⟨⟨s, hsh, (hb.1 rfl).symm⟩, rfl⟩
  | false =>
    refine .inr ⟨fun ⟨s', h1, h2⟩ => ?_, rfl⟩
    rw [Shape.inj h1 hsh] at h2
    have := hb.2 h2.symm
    simp at this
end Go.Proofs.YthkeonbmgcphkaaGreatDoorPlain
