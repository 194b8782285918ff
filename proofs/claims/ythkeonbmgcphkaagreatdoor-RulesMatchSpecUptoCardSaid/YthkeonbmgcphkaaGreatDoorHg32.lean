import Derived.Test.YthkeonbmgcphkaaGreatDoorHg28
import Derived.Test.YthkeonbmgcphkaaGreatDoorHg31
import Derived.Lib.ItoaLen
import Derived.Lib.Join
import Derived.Test.YthkeonbmgcphkaaGreatDoorHg6
import Derived.Deep.Slices
import Derived.Deep.Fields
import Derived.ChangeArms
import Derived.ChangeSame
import Derived.Test.YthkeonbmgcphkaaGreatDoorRows
namespace Go.Proofs.YthkeonbmgcphkaaGreatDoorPlain
open Go.RowKit Go.Proofs.YthkeonbmgcphkaaGreatDoor.PM Go.Proofs.YthkeonbmgcphkaaGreatDoorW.PrintWords Go.Proofs.YthkeonbmgcphkaaGreatDoor.Bytes Go.Proofs.YthkeonbmgcphkaaGreatDoor.Plain
set_option linter.unusedVariables false
set_option linter.unusedSimpArgs false
def sp1 (x : ByteArray) : List UInt8 := 32 :: x.data.toList
theorem kP : ∀ r : List ByteArray, Lib.joinTail [32] (r.map (·.data.toList)) = r.flatMap sp1
  | [] => rfl
  | x :: r => by
    have ih := kP r
    simp only [List.map_cons, List.flatMap_cons, sp1]
    rw [← ih]
    rfl
theorem lineB_eq (w : ByteArray) (ws : List ByteArray) : aA.fG (w :: ws) = w.data.toList ++ ws.flatMap sp1 ++ [10] := by
  unfold aA.fG
  rw [List.map_cons, Lib.join_cons, kP]
theorem fD (a b : ByteArray) : (a ++ b).data.toList = a.data.toList ++ b.data.toList := by simp
theorem fH (a : ByteArray) : a.size = a.data.toList.length := kF a
theorem fO (a b : ByteArray) : (a ++ b).size = a.size + b.size := by rw [fH, fD, List.length_append, ← fH, ← fH]
def inW (n : Int) : Prop := -1000000 ≤ n ∧ n ≤ 1000000
theorem inW.inI {n : Int} (h : inW n) : aA.inI n := ⟨by have := h.1; omega, by have := h.2; omega⟩
theorem itoa_le {n : Int} (h : inW n) : (Lib.itoa n).length ≤ 21 := Lib.itoa_length_le n h.inI.1 h.inI.2
theorem itoa_f {n : Int} (h : inW n) : strconv_Itoa.f n = some (aA.num n) := by
  unfold strconv_Itoa.f
  rw [if_pos h.inI.1, if_pos h.inI.2]
  rfl
theorem num_data (n : Int) : (aA.num n).data.toList = Lib.itoa n := by simp [aA.num]
theorem num_size {n : Int} (h : inW n) : (aA.num n).size ≤ 21 := by rw [fH, num_data]; exact itoa_le h
theorem rdI {l : List Int} {j : Nat} (hj : j < l.length) : rd l (j : Int) = l[j] := by
  unfold rd
  rw [Int.toNat_natCast, List.getD_eq_getElem?_getD, List.getElem?_eq_getElem hj, Option.getD_some]
def spN (l : List Int) : List UInt8 := l.flatMap fun n => sp1 (aA.num n)
theorem kD : ∀ {l : List Int}, (∀ n ∈ l, inW n) → (spN l).length ≤ 22 * l.length
  | [], _ => by simp [spN]
  | n :: l, h => by
    have ih := kD (l := l) fun m hm => h m (List.mem_cons_of_mem _ hm)
    have hn := num_size (h n (List.mem_cons_self ..))
    rw [fH] at hn
    unfold spN at ih ⊢
    rw [List.flatMap_cons, List.length_append, sp1, List.length_cons, List.length_cons]
    omega
theorem jC (l : List Int) (hl : l.length ≤ 10) (hw : ∀ n ∈ l, inW n) : Tot (fun k => bK.f k l) fun s => s.data.toList = spN l := by
  unfold bK.f
  have key : ∀ (d j : Nat) (s : ByteArray), j + d = l.length → s.size ≤ 22 * j → Tot (fun k => bK.l0 k l s (j : Int)) fun r => r.data.toList = s.data.toList ++ spN (l.drop j) := by
    intro d
    induction d with
    | zero =>
      intro j s hj hs
      refine Tot.succ (Tot.pure s ?_) fun k => by rw [bK.l0, if_neg (by omega)]
      rw [List.drop_of_length_le (by omega)]
      simp [spN]
    | succ d ih =>
      intro j s hj hs
      have hjl : j < l.length := by omega
      have hn := hw l[j] (List.getElem_mem hjl)
      have hz := num_size hn
      have h1 : ((⟨#[32]⟩ : ByteArray) ++ aA.num l[j]).size = 1 + (aA.num l[j]).size := by rw [fO]; rfl
      refine Tot.succ (g := fun k => bK.l0 k l (s ++ ((⟨#[32]⟩ : ByteArray) ++ aA.num l[j])) ((j + 1 : Nat) : Int)) ?_ fun k => ?_
      · refine (ih (j + 1) _ (by omega) (by rw [fO, h1]; omega)).imp fun r hr => ?_
        rw [hr, fD, fD, List.drop_eq_getElem_cons hjl]
        unfold spN
        rw [List.flatMap_cons]
        simp [sp1]
      · rw [bK.l0, if_pos (by omega), if_pos (by omega), rdI hjl, itoa_f hn, Option.bind_some, if_pos (by omega), if_pos (by rw [h1]; omega), w1 hjl (by omega)]
  refine (key l.length 0 ⟨#[]⟩ (by omega) (by decide)).imp fun r hr => ?_
  rw [hr]
  rfl
def kJ (q : Rc) : List UInt8 := spN [q.f0, q.f1, q.f2, q.f3]
section
variable (a0 a1 a2 a3 a4 : Int) (l5 : List Nc) (l6 : List Ar) (Q : ByteArray × Int → Prop)
abbrev big : Nat := 4611686018427387904
theorem nets6_spec (x0 : ByteArray) (l : List ByteArray) (x2 x3 : Int) (j : Nat) (hj : j < 1000) (hl : l.length ≤ 1000) : ∀ (d i : Nat) (s : ByteArray), i + d = l.length → s.size + ((l.drop i).flatMap sp1).length + 1 ≤ big →
    (∀ s' : ByteArray, s'.data.toList = s.data.toList ++ (l.drop i).flatMap sp1 ++ [10] → Tot (fun k => aQ.l0 k s' ((j + 1 : Nat) : Int) a0 a1 a2 a3 a4 l5 l6) Q) →
    Tot (fun k => aQ.l1 k s (j : Int) (i : Int) a0 a1 a2 a3 a4 l5 l6 x0 l x2 x3) Q := by
  intro d
  induction d with
  | zero =>
    intro i s hi hb h
    refine Tot.succ (h (s ++ ⟨#[10]⟩) ?_) fun k => by rw [aQ.l1, if_neg (by omega), if_pos (by unfold big at hb; omega), w1 (n := 1000) hj (by omega)]
    rw [fD, List.drop_of_length_le (by omega)]
    simp
  | succ d ih =>
    intro i s hi hb h
    have hil : i < l.length := by omega
    rw [List.drop_eq_getElem_cons hil, List.flatMap_cons, List.length_append, sp1, List.length_cons, ← fH] at hb
    have h1 : ((⟨#[32]⟩ : ByteArray) ++ l[i]).size = 1 + l[i].size := by rw [fO]; rfl
    refine Tot.succ (ih (i + 1) (s ++ ((⟨#[32]⟩ : ByteArray) ++ l[i])) (by omega) (by rw [fO, h1]; omega) fun s' hs => h s' ?_) fun k => ?_
    · rw [hs, fD, fD, List.drop_eq_getElem_cons hil, List.flatMap_cons]
      simp [sp1]
    · unfold big at hb
      rw [aQ.l1, if_pos (by omega), if_pos (by omega), rdB hil, if_pos (by omega), if_pos (by rw [h1]; omega), w1 hil (by omega)]
theorem rects6_spec (x0 x2 : Int) (l : List Rc) (j : Nat) (hj : j < 1000) (hl : l.length ≤ 100000) (hw : ∀ q ∈ l, inW q.f0 ∧ inW q.f1 ∧ inW q.f2 ∧ inW q.f3) : ∀ (d i : Nat) (s : ByteArray), i + d = l.length → s.size + ((l.drop i).flatMap kJ).length + 1 ≤ big →
    (∀ s' : ByteArray, s'.data.toList = s.data.toList ++ ((l.drop i).flatMap kJ) ++ [10] → Tot (fun k => aQ.l2 k s' ((j + 1 : Nat) : Int) a0 a1 a2 a3 a4 l5 l6) Q) →
    Tot (fun k => aQ.l3 k s (j : Int) (i : Int) a0 a1 a2 a3 a4 l5 l6 x0 l x2) Q := by
  intro d
  induction d with
  | zero =>
    intro i s hi hb h
    refine Tot.succ (h (s ++ ⟨#[10]⟩) ?_) fun k => by rw [aQ.l3, if_neg (by omega), if_pos (by unfold big at hb; omega), w1 (n := 1000) hj (by omega)]
    rw [fD, List.drop_of_length_le (by omega)]
    simp
  | succ d ih =>
    intro i s hi hb h
    have hil : i < l.length := by omega
    have hq := hw l[i] (List.getElem_mem hil)
    rw [List.drop_eq_getElem_cons hil, List.flatMap_cons, List.length_append] at hb
    refine Tot.succ (g := fun k => (bK.f k [l[i].f0, l[i].f1, l[i].f2, l[i].f3]).bind fun t => if s.size + t.size ≤ 9223372036854775807 then aQ.l3 k (s ++ t) (j : Int) ((i + 1 : Nat) : Int) a0 a1 a2 a3 a4 l5 l6 x0 l x2 else none) ?_ fun k => ?_
    · refine Tot.bind (jC _ (by simp) ?_) fun t ht => ?_
      · intro n hn
        simp only [List.mem_cons, List.not_mem_nil, or_false] at hn
        rcases hn with rfl | rfl | rfl | rfl
        · exact hq.1
        · exact hq.2.1
        · exact hq.2.2.1
        · exact hq.2.2.2
      · replace ht : t.data.toList = kJ l[i] := ht
        have hts : t.size = (kJ l[i]).length := by rw [fH, ht]
        refine Tot.ite (fun _ => ?_) (fun hn => absurd (by unfold big at hb; omega) hn)
        refine ih (i + 1) (s ++ t) (by omega) (by rw [fO]; omega) fun s' hs => h s' ?_
        rw [hs, fD, List.drop_eq_getElem_cons hil, List.flatMap_cons, ht]
        simp
    · rw [aQ.l3, if_pos (by omega), if_pos (by omega), jS hil, w1 hil (by omega)]
def finT (bs : List UInt8) : ByteArray × Int := if bs.length ≤ 200000 then (⟨bs.toArray⟩, 0) else (⟨#[]⟩, 2)
def arB (a : Ar) : List UInt8 := [97, 114, 101, 97] ++ spN [a.f0, a.f2] ++ (a.f1.flatMap kJ) ++ [10]
def clB (c : Nc) : List UInt8 := [99, 108, 97, 115, 115] ++ sp1 c.f0 ++ spN [c.f2, c.f3] ++ c.f1.flatMap sp1 ++ [10]
theorem arB_line (a : Ar) : aA.fG (⟨#[97, 114, 101, 97]⟩ :: aA.arj a a.f1.length) = arB a := by
  rw [lineB_eq]
  unfold arB aA.arj
  rw [List.take_length, List.flatMap_cons, List.flatMap_cons, List.flatMap_assoc]
  have e : (kJ : Rc → List UInt8) = fun q => spN [q.f0, q.f1, q.f2, q.f3] := rfl
  rw [e]
  simp [spN, aA.rw4]
theorem clB_line (c : Nc) : aA.fG (⟨#[99, 108, 97, 115, 115]⟩ :: aA.cl c) = clB c := by
  rw [lineB_eq]
  unfold clB aA.cl
  simp [spN]
structure TextA (a : Ar) : Prop where
  f0 : inW a.f0
  f2 : inW a.f2
  few : a.f1.length ≤ 100000
  rects : ∀ q ∈ a.f1, inW q.f0 ∧ inW q.f1 ∧ inW q.f2 ∧ inW q.f3
structure TextC (c : Nc) : Prop where
  f2 : inW c.f2
  f3 : inW c.f3
  few : c.f1.length ≤ 1000
theorem areas6T (h6 : l6.length ≤ 1000) (hA : ∀ a ∈ l6, TextA a) : ∀ (d j : Nat) (s : ByteArray), j + d = l6.length → s.size + ((l6.drop j).flatMap arB).length + 1 ≤ big →
    Tot (fun k => aQ.l2 k s (j : Int) a0 a1 a2 a3 a4 l5 l6) fun r => r = finT (s.data.toList ++ (l6.drop j).flatMap arB) := by
  intro d
  induction d with
  | zero =>
    intro j s hj hb
    have e : s.data.toList ++ (l6.drop j).flatMap arB = s.data.toList := by rw [List.drop_of_length_le (by omega)]; simp
    rw [e]
    unfold finT
    refine Tot.succ (g := fun k => if (s.size : Int) > 200000 then some ((⟨#[]⟩ : ByteArray), (2 : Int)) else some (s, 0)) ?_ fun k => by rw [aQ.l2, if_neg (by omega)]
    refine Tot.ite (fun h => Tot.pure _ ?_) (fun h => Tot.pure _ ?_)
    · rw [if_neg (by rw [← fH]; omega)]
    · rw [if_pos (by rw [← fH]; omega)]
  | succ d ih =>
    intro j s hj hb
    have hjl : j < l6.length := by omega
    have ha := hA l6[j] (List.getElem_mem hjl)
    rw [List.drop_eq_getElem_cons hjl, List.flatMap_cons, List.length_append] at hb
    have hab : (arB l6[j]).length = 4 + (spN [l6[j].f0, l6[j].f2]).length + (l6[j].f1.flatMap kJ).length + 1 := by
      unfold arB
      simp only [List.length_append, List.length_cons, List.length_nil]
    refine Tot.succ (g := fun k => (bK.f k [l6[j].f0, l6[j].f2]).bind fun t => if 4 + t.size ≤ 9223372036854775807 then (if s.size + ((⟨#[97, 114, 101, 97]⟩ : ByteArray) ++ t).size ≤ 9223372036854775807 then aQ.l3 k (s ++ ((⟨#[97, 114, 101, 97]⟩ : ByteArray) ++ t)) (j : Int) 0 a0 a1 a2 a3 a4 l5 l6 l6[j].f0 l6[j].f1 l6[j].f2 else none) else none) ?_ fun k => ?_
    · refine Tot.bind (jC _ (by simp) ?_) fun t ht => ?_
      · intro n hn
        simp only [List.mem_cons, List.not_mem_nil, or_false] at hn
        rcases hn with rfl | rfl
        · exact ha.f0
        · exact ha.f2
      · have hts : t.size = (spN [l6[j].f0, l6[j].f2]).length := by rw [fH, ht]
        have h4 : ((⟨#[97, 114, 101, 97]⟩ : ByteArray) ++ t).size = 4 + t.size := by rw [fO]; rfl
        unfold big at hb
        refine Tot.ite (fun _ => ?_) (fun hn => absurd (by omega) hn)
        refine Tot.ite (fun _ => ?_) (fun hn => absurd (by omega) hn)
        refine rects6_spec a0 a1 a2 a3 a4 l5 l6 _ l6[j].f0 l6[j].f2 l6[j].f1 j (by omega) ha.few ha.rects l6[j].f1.length 0 _ (by omega) (by rw [fO, h4]; unfold big; simp only [List.drop_zero]; omega) fun s' hs => ?_
        have hs' : s'.data.toList = s.data.toList ++ arB l6[j] := by
          rw [hs, fD, fD, ht]
          unfold arB
          simp
        have hsz : s'.size = s.size + (arB l6[j]).length := by rw [fH, hs', List.length_append, ← fH]
        refine (ih (j + 1) s' (by omega) (by unfold big; omega)).imp fun r hr => ?_
        rw [hr, hs', List.drop_eq_getElem_cons hjl, List.flatMap_cons, List.append_assoc]
    · rw [aQ.l2, if_pos (by omega), if_pos (by omega), rdT68 hjl]
theorem classes6T (h5 : l5.length ≤ 1000) (h6 : l6.length ≤ 1000) (hC : ∀ c ∈ l5, TextC c) (hA : ∀ a ∈ l6, TextA a) : ∀ (d j : Nat) (s : ByteArray), j + d = l5.length → s.size + ((l5.drop j).flatMap clB).length + (l6.flatMap arB).length + 1 ≤ big →
    Tot (fun k => aQ.l0 k s (j : Int) a0 a1 a2 a3 a4 l5 l6) fun r => r = finT (s.data.toList ++ (l5.drop j).flatMap clB ++ l6.flatMap arB) := by
  intro d
  induction d with
  | zero =>
    intro j s hj hb
    have e : s.data.toList ++ (l5.drop j).flatMap clB ++ l6.flatMap arB = s.data.toList ++ (l6.drop 0).flatMap arB := by rw [List.drop_of_length_le (by omega : l5.length ≤ j)]; simp
    rw [e]
    exact Tot.succ (areas6T a0 a1 a2 a3 a4 l5 l6 h6 hA l6.length 0 s (by omega) (by simp only [List.drop_zero]; omega)) fun k => by rw [aQ.l0, if_neg (by omega)]; rfl
  | succ d ih =>
    intro j s hj hb
    have hjl : j < l5.length := by omega
    have hc := hC l5[j] (List.getElem_mem hjl)
    rw [List.drop_eq_getElem_cons hjl, List.flatMap_cons, List.length_append] at hb
    have hcb : (clB l5[j]).length = 5 + (1 + l5[j].f0.size) + (spN [l5[j].f2, l5[j].f3]).length + (l5[j].f1.flatMap sp1).length + 1 := by
      unfold clB
      simp only [List.length_append, List.length_cons, List.length_nil, sp1, ← fH]
      omega
    refine Tot.succ (g := fun k => if 6 + l5[j].f0.size ≤ 9223372036854775807 then ((bK.f k [l5[j].f2, l5[j].f3]).bind fun t => if ((⟨#[99, 108, 97, 115, 115, 32]⟩ : ByteArray) ++ l5[j].f0).size + t.size ≤ 9223372036854775807 then (if s.size + (((⟨#[99, 108, 97, 115, 115, 32]⟩ : ByteArray) ++ l5[j].f0) ++ t).size ≤ 9223372036854775807 then aQ.l1 k (s ++ (((⟨#[99, 108, 97, 115, 115, 32]⟩ : ByteArray) ++ l5[j].f0) ++ t)) (j : Int) 0 a0 a1 a2 a3 a4 l5 l6 l5[j].f0 l5[j].f1 l5[j].f2 l5[j].f3 else none) else none) else none) ?_ fun k => ?_
    · unfold big at hb
      refine Tot.ite (fun _ => ?_) (fun hn => absurd (by omega) hn)
      refine Tot.bind (jC _ (by simp) ?_) fun t ht => ?_
      · intro n hn
        simp only [List.mem_cons, List.not_mem_nil, or_false] at hn
        rcases hn with rfl | rfl
        · exact hc.f2
        · exact hc.f3
      · have hts : t.size = (spN [l5[j].f2, l5[j].f3]).length := by rw [fH, ht]
        have h6' : ((⟨#[99, 108, 97, 115, 115, 32]⟩ : ByteArray) ++ l5[j].f0).size = 6 + l5[j].f0.size := by rw [fO]; rfl
        have h7 : (((⟨#[99, 108, 97, 115, 115, 32]⟩ : ByteArray) ++ l5[j].f0) ++ t).size = 6 + l5[j].f0.size + t.size := by rw [fO, h6']
        refine Tot.ite (fun _ => ?_) (fun hn => absurd (by omega) hn)
        refine Tot.ite (fun _ => ?_) (fun hn => absurd (by omega) hn)
        refine nets6_spec a0 a1 a2 a3 a4 l5 l6 _ l5[j].f0 l5[j].f1 l5[j].f2 l5[j].f3 j (by omega) hc.few l5[j].f1.length 0 _ (by omega) (by rw [fO, h7]; unfold big; simp only [List.drop_zero]; omega) fun s' hs => ?_
        have hs' : s'.data.toList = s.data.toList ++ clB l5[j] := by
          rw [hs, fD, fD, fD, ht]
          unfold clB
          simp [sp1]
        have hsz : s'.size = s.size + (clB l5[j]).length := by rw [fH, hs', List.length_append, ← fH]
        refine (ih (j + 1) s' (by omega) (by unfold big; omega)).imp fun r hr => ?_
        rw [hr, hs', List.drop_eq_getElem_cons hjl, List.flatMap_cons]
        simp
    · rw [aQ.l0, if_pos (by omega), if_pos (by omega), rdT66 hjl]
structure TextOK : Prop where
  h0 : inW a0
  h1 : inW a1
  h2 : inW a2
  h3 : inW a3
  h4 : inW a4
  few5 : l5.length ≤ 50
  few6 : l6.length ≤ 50
  C : ∀ c ∈ l5, TextC c
  A : ∀ a ∈ l6, TextA a
  bytes : (l5.flatMap clB).length + (l6.flatMap arB).length ≤ 1000000000
def allB : List UInt8 := [114, 117, 108, 101, 115] ++ spN [a0, a1, a2, a3, a4] ++ [10] ++ l5.flatMap clB ++ l6.flatMap arB
def textQ (t : Int) : ByteArray × Int := if t = 0 then finT (allB a0 a1 a2 a3 a4 l5 l6) else (⟨#[]⟩, t)
theorem head_len (h : TextOK a0 a1 a2 a3 a4 l5 l6) : (spN [a0, a1, a2, a3, a4]).length ≤ 110 := by
  refine Nat.le_trans (kD fun n hn => ?_) (by simp)
  simp only [List.mem_cons, List.not_mem_nil, or_false] at hn
  rcases hn with rfl | rfl | rfl | rfl | rfl
  · exact h.h0
  · exact h.h1
  · exact h.h2
  · exact h.h3
  · exact h.h4
theorem Text6_spec (t : Int) (hf : t = 0 → TextOK a0 a1 a2 a3 a4 l5 l6) (hT : Tot (fun k => aN.f k a0 a1 a2 a3 a4 l5 l6) fun r => r = t) :
    Tot (fun k => aQ.f k a0 a1 a2 a3 a4 l5 l6) fun p => p = textQ a0 a1 a2 a3 a4 l5 l6 t := by
  unfold aQ.f textQ
  refine Tot.bind hT fun r hr => ?_
  subst hr
  refine Tot.ite (fun h0 => ?_) (fun h0 => Tot.pure _ (by rw [if_neg h0]))
  rw [if_pos h0]
  have h := hf h0
  have hl := head_len a0 a1 a2 a3 a4 l5 l6 h
  refine Tot.bind (jC _ (by simp) ?_) fun t ht => ?_
  · intro n hn
    simp only [List.mem_cons, List.not_mem_nil, or_false] at hn
    rcases hn with rfl | rfl | rfl | rfl | rfl
    · exact h.h0
    · exact h.h1
    · exact h.h2
    · exact h.h3
    · exact h.h4
  · have hts : t.size = (spN [a0, a1, a2, a3, a4]).length := by rw [fH, ht]
    have h5 : ((⟨#[114, 117, 108, 101, 115]⟩ : ByteArray) ++ t).size = 5 + t.size := by rw [fO]; rfl
    have h6 : (((⟨#[114, 117, 108, 101, 115]⟩ : ByteArray) ++ t) ++ ⟨#[10]⟩).size = 6 + t.size := by rw [fO, h5]; show 5 + t.size + 1 = _; omega
    refine Tot.ite (fun _ => ?_) (fun hn => absurd (by omega) hn)
    refine Tot.ite (fun _ => ?_) (fun hn => absurd (by omega) hn)
    have hb := h.bytes
    refine (classes6T a0 a1 a2 a3 a4 l5 l6 (by have := h.few5; omega) (by have := h.few6; omega) h.C h.A l5.length 0 _ (by omega) (by rw [h6]; unfold big; simp only [List.drop_zero]; omega)).imp fun r hr => ?_
    rw [hr]
    unfold allB
    rw [fD, fD, ht]
    rfl
theorem all_bytes : aA.all a0 a1 a2 a3 a4 l5 l6 = allB a0 a1 a2 a3 a4 l5 l6 := by
  unfold aA.all aA.out5 aA.out6 allB aA.w1
  rw [lineB_eq]
  simp only [clB_line, arB_line]
  simp [spN]
theorem Text_spec (t : Int) (hf : t = 0 → TextOK a0 a1 a2 a3 a4 l5 l6) (hT : Tot (fun k => bZ.f k a0 a1 a2 a3 a4 l5 l6) fun r => r = t) :
    Tot (fun k => aA.f k a0 a1 a2 a3 a4 l5 l6) fun p => p = textQ a0 a1 a2 a3 a4 l5 l6 t := by
  unfold aA.f textQ
  refine Tot.bind hT fun r hr => ?_
  subst hr
  refine Tot.ite (fun h0 => ?_) (fun h0 => Tot.pure _ (by rw [if_neg h0]))
  rw [if_pos h0]
  have h := hf h0
  have hl := head_len a0 a1 a2 a3 a4 l5 l6 h
  have hb := h.bytes
  have e := all_bytes a0 a1 a2 a3 a4 l5 l6
  have el : (allB a0 a1 a2 a3 a4 l5 l6).length ≤ 2000000000 := by
    unfold allB
    simp only [List.length_append, List.length_cons, List.length_nil]
    omega
  rw [if_pos ⟨h.h0.inI, h.h1.inI, h.h2.inI, h.h3.inI, h.h4.inI⟩, if_pos ⟨fun c hc => ⟨(h.C c hc).f2.inI, (h.C c hc).f3.inI, (h.C c hc).few⟩, by have := h.few5; omega⟩,
    if_pos ⟨fun a ha => ⟨(h.A a ha).f0.inI, (h.A a ha).f2.inI, (h.A a ha).few, fun q hq => ⟨((h.A a ha).rects q hq).1.inI, ((h.A a ha).rects q hq).2.1.inI, ((h.A a ha).rects q hq).2.2.1.inI, ((h.A a ha).rects q hq).2.2.2.inI⟩⟩, by have := h.few6; omega⟩, e, if_pos (by omega)]
  unfold finT
  exact Tot.ite (fun h => Tot.pure _ (by rw [if_pos h])) (fun h => Tot.pure _ (by rw [if_neg h]))
theorem kK {α : Type} (f : α → List UInt8) (B : Nat) : ∀ {l : List α}, (∀ x ∈ l, (f x).length ≤ B) → (l.flatMap f).length ≤ B * l.length
  | [], _ => by simp
  | x :: l, h => by
    have ih := kK f B (l := l) fun y hy => h y (List.mem_cons_of_mem _ hy)
    have hx := h x (List.mem_cons_self ..)
    rw [List.flatMap_cons, List.length_append, List.length_cons, Nat.mul_add]
    omega
theorem isR_W {n : Int} (h : aG.isR n = true) : inW n := by
  unfold aG.isR at h
  simp only [Bool.and_eq_true, decide_eq_true_eq] at h
  exact ⟨by omega, by omega⟩
theorem wordP_size {x : ByteArray} (h : iM x = true) : x.size ≤ 40 := by
  unfold iM jP at h
  simp only [Bool.and_eq_true, decide_eq_true_eq] at h
  rw [fH]
  exact h.2.2
theorem pathP_size {x : ByteArray} (h : jJ x = true) : x.size ≤ 200 := by
  unfold jJ at h
  simp only [Bool.and_eq_true, decide_eq_true_eq] at h
  exact h.1
theorem two_W {a b : Int} (ha : inW a) (hb : inW b) : ∀ n ∈ [a, b], inW n := by
  intro n hn
  simp only [List.mem_cons, List.not_mem_nil, or_false] at hn
  rcases hn with rfl | rfl
  · exact ha
  · exact hb
theorem gG.text {a0 a1 a2 a3 a4 : Int} {l5 : List Nc} {l6 : List Ar} (h : gG a0 a1 a2 a3 a4 l5 l6 0) : TextOK a0 a1 a2 a3 a4 l5 l6 := by
  have g := h.zero
  have hR : [a0, a1, a2, a3, a4].all aG.isR = true := by
    cases hR : [a0, a1, a2, a3, a4].all aG.isR
    · exact absurd (h.2 hR) (by decide)
    · rfl
  have hr : ∀ n ∈ [a0, a1, a2, a3, a4], inW n := fun n hn => isR_W (List.all_eq_true.1 hR n hn)
  have hA : ∀ a ∈ l6, TextA a := fun a ha => by
    have k := g.areas a ha
    refine ⟨⟨by have := k.layer; omega, by have := k.layer2; omega⟩, ⟨by have := k.clear; omega, by have := k.clear2; omega⟩, by have := k.few; omega, fun q hq => ?_⟩
    obtain ⟨x, y, b0, b1, b2, b3⟩ := k.good q hq
    exact ⟨⟨by omega, by omega⟩, ⟨by omega, by omega⟩, ⟨by omega, by omega⟩, ⟨by omega, by omega⟩⟩
  have hC : ∀ c ∈ l5, TextC c := fun c hc => ⟨isR_W (g.classes c hc).clear, isR_W (g.classes c hc).width, (g.classes c hc).few⟩
  refine ⟨hr _ (by simp), hr _ (by simp), hr _ (by simp), hr _ (by simp), hr _ (by simp), g.many, g.few, hC, hA, ?_⟩
  have h1 : (l5.flatMap clB).length ≤ 300000 * l5.length := kK clB 300000 fun c hc => by
    have k := g.classes c hc
    have hn : (c.f1.flatMap sp1).length ≤ 201 * c.f1.length := kK sp1 201 fun n hn => by
      have := pathP_size (k.paths n hn)
      unfold sp1
      rw [List.length_cons, ← fH]
      omega
    have hs := kD (two_W (hC c hc).f2 (hC c hc).f3)
    have hw := wordP_size k.word
    have hf := k.few
    unfold clB
    simp only [List.length_append, List.length_cons, List.length_nil, sp1, ← fH] at hs ⊢
    omega
  have h2 : (l6.flatMap arB).length ≤ 300000 * l6.length := kK arB 300000 fun a ha => by
    have k := hA a ha
    have hf := (g.areas a ha).few
    have hn : (a.f1.flatMap kJ).length ≤ 88 * a.f1.length := kK kJ 88 fun q hq => by
      have w := k.rects q hq
      refine Nat.le_trans (kD fun n hn => ?_) (by simp)
      simp only [List.mem_cons, List.not_mem_nil, or_false] at hn
      rcases hn with rfl | rfl | rfl | rfl
      · exact w.1
      · exact w.2.1
      · exact w.2.2.1
      · exact w.2.2.2
    have hs := kD (two_W k.f0 k.f2)
    unfold arB
    simp only [List.length_append, List.length_cons, List.length_nil] at hs ⊢
    omega
  have := g.many
  have := g.few
  omega
end
theorem rulesMatchSpec (a0 a1 a2 a3 a4 : Int) (l5 : List Nc) (l6 : List Ar) (hs : ∀ c ∈ l5, c.f0.size < 9223372036854775807 ∧ c.f1.length ≤ 1000000000 ∧ ∀ n ∈ c.f1, n.size < 4294967281) (h6 : l6.length ≤ 1000000000000) :
    ∃ k, bM.f k a0 a1 a2 a3 a4 l5 l6 = some true := by
  obtain ⟨K, t, hK, ht⟩ := lD a0 a1 a2 a3 a4 l5 l6 fun c hc => (hs c hc).1
  have hT : Tot (fun k => bZ.f k a0 a1 a2 a3 a4 l5 l6) fun r => r = t := ⟨K, t, hK, rfl⟩
  have hT6 : Tot (fun k => aN.f k a0 a1 a2 a3 a4 l5 l6) fun r => r = t := (kN a0 a1 a2 a3 a4 l5 l6 hs h6).imp fun r hr => hr.unique ht
  have hf : t = 0 → TextOK a0 a1 a2 a3 a4 l5 l6 := fun h => gG.text (h ▸ ht)
  have key : Tot (fun k => bM.f k a0 a1 a2 a3 a4 l5 l6) fun r => r = true := by
    unfold bM.f
    refine Tot.bind (Text_spec a0 a1 a2 a3 a4 l5 l6 t hf hT) fun p hp => ?_
    refine Tot.bind (Text6_spec a0 a1 a2 a3 a4 l5 l6 t hf hT6) fun q hq => ?_
    refine Tot.bind hT fun v hv => ?_
    refine Tot.bind hT6 fun u hu => ?_
    exact Tot.ite (fun _ => Tot.ite (fun _ => Tot.ite (fun _ => Tot.bind awake_tot fun r hr => Tot.pure _ hr) fun h => absurd (by rw [hp, hq]) h) fun h => absurd (by rw [hp, hq]) h) fun h => absurd (by rw [hv, hu]) h
  obtain ⟨K, r, hk, hr⟩ := key
  exact ⟨K, by rw [← hr]; exact hk K (Nat.le_refl _)⟩
end Go.Proofs.YthkeonbmgcphkaaGreatDoorPlain
namespace Go.Proofs.YthkeonbmgcphkaaGreatDoorOpen
open Go Go.RowKit Go.ChangeShapes Go.WideShapes Go.Deep Go.Proofs.YthkeonbmgcphkaaGreatDoor.PM Go.Proofs.YthkeonbmgcphkaaGreatDoorW.PrintWords
set_option linter.unusedVariables false
set_option linter.unusedSimpArgs false
set_option maxRecDepth 100000
variable {H : Type} {enc : TypeId × Value → H} {P : Program} {w : World} {base : Nat} {spare : Nat → Bool} {held : Bool}
theorem row_of {α : Type} (d : Kd α) {A : Addr} {len : Nat} (hmax : len ≤ 9223372036854775807) (Q : α → Prop) (h : ∀ i, i < len → ∃ x c, c.length = d.sz ∧ d.K w x c ∧ Q x ∧ ∀ j u, c[j]? = some u → w.cell? (A.add (i * d.sz + j)) = some u) :
    ∃ xs : List α, xs.length = len ∧ Kd.C d w (some A) xs.length xs ∧ ∀ x ∈ xs, Q x := by
  have hx : ∃ g : Nat → Option α, ∀ i, i < len → ∃ x c, g i = some x ∧ c.length = d.sz ∧ d.K w x c ∧ Q x ∧ ∀ j u, c[j]? = some u → w.cell? (A.add (i * d.sz + j)) = some u := by
    refine ⟨fun i => if h' : i < len then some (Classical.choose (h i h')) else none, fun i hi => ?_⟩
    obtain ⟨c, hc⟩ := Classical.choose_spec (h i hi)
    exact ⟨_, c, dif_pos hi, hc⟩
  obtain ⟨g, hg⟩ := hx
  have hall : ∀ n, n ≤ len → ∃ xs : List α, xs.length = n ∧ ∀ i, i < n → ∃ x, xs[i]? = some x ∧ g i = some x := by
    intro n
    induction n with
    | zero => intro _; exact ⟨[], rfl, fun i hi => absurd hi (by omega)⟩
    | succ n ih =>
      intro hn
      obtain ⟨xs, hl, hxs⟩ := ih (by omega)
      obtain ⟨x, c, hgx, _⟩ := hg n (by omega)
      refine ⟨xs ++ [x], by simp [hl], fun i hi => ?_⟩
      by_cases hin : i < n
      · obtain ⟨y, hy, hgy⟩ := hxs i hin
        exact ⟨y, by rw [List.getElem?_append_left (by omega)]; exact hy, hgy⟩
      · obtain rfl : i = n := by omega
        exact ⟨x, by rw [List.getElem?_append_right (by omega), hl]; simp, hgx⟩
  obtain ⟨xs, hl, hxs⟩ := hall len (Nat.le_refl _)
  refine ⟨xs, hl, ⟨rfl, by omega, fun _ => ⟨A, rfl, fun j p hj => ?_⟩⟩, fun x hx => ?_⟩
  · have hjl : j < len := by rw [← hl]; exact (List.getElem?_eq_some_iff.1 hj).1
    obtain ⟨x, hx1, hx2⟩ := hxs j hjl
    obtain ⟨x', c, h1, h2, h3, h4, h5⟩ := hg j hjl
    obtain rfl : p = x := Option.some.inj (hj.symm.trans hx1)
    obtain rfl : p = x' := Option.some.inj (hx2.symm.trans h1)
    exact ⟨c, h2, h3, h5⟩
  · obtain ⟨j, hj, rfl⟩ := List.getElem_of_mem hx
    obtain ⟨x, hx1, hx2⟩ := hxs j (by omega)
    obtain ⟨x', c, h1, h2, h3, h4, h5⟩ := hg j (by omega)
    obtain rfl : x = x' := Option.some.inj (hx2.symm.trans h1)
    rw [List.getElem?_eq_getElem hj] at hx1
    obtain rfl := Option.some.inj hx1
    exact h4
theorem slice_open {α : Type} {t e : TypeId} {fuel : Nat} {v : Value} {y : DataW H × List MemPlace} (ht : P.underlying t = some (.slice e)) (d : Kd α) (hC : P.cellsOf e = d.sz) (Q : α → Prop)
    (hel : ∀ n cs y, DataW.trod enc P w base spare held n e cs = some y → ∃ x, d.K w x cs ∧ Q x) (h : DataW.trod enc P w base spare held fuel t [v] = some y) :
    ∃ (A : Option Addr) (xs : List α) (c : Nat), v = .slice A xs.length c ∧ xs.length ≤ c ∧ Kd.C d w A xs.length xs ∧ ∀ x ∈ xs, Q x := by
  rcases open_slice ht h with ⟨hcs, _⟩ | ⟨a, len, cap, m, n, D, Pl, hcs, _, hl, hm, hmm, _, hi⟩
  · obtain rfl := (List.cons.inj hcs).1
    exact ⟨none, [], 0, rfl, Nat.le_refl _, ⟨rfl, Nat.zero_le _, fun h => absurd h (Nat.lt_irrefl 0)⟩, fun x hx => by cases hx⟩
  · obtain rfl := (List.cons.inj hcs).1
    have hmx : maxLen = 9223372036854775807 := by decide
    obtain ⟨xs, hxl, hxc, hxq⟩ := row_of (w := w) d (A := a) (len := len) (by omega) Q fun i hil => by
      obtain ⟨cs', hc, ht'⟩ := hi i (by rw [hmm]; split <;> omega)
      obtain ⟨x, hx, hq⟩ := hel _ _ _ ht'
      obtain ⟨_, hcl, hat⟩ := World.cells?_some hc
      refine ⟨x, cs', d.K_len hx, hx, hq, fun j u hu => ?_⟩
      have hj : j < cs'.length := (List.getElem?_eq_some_iff.1 hu).1
      have := hat j (by omega)
      rw [Go.Deep.add_add, hC] at this
      rw [this, hu]
    exact ⟨some a, xs, cap, by rw [hxl], by omega, hxc, hxq⟩
section
variable {t : TypeId} {fuel : Nat} {cs : List Value} {x : DataW H × List MemPlace}
theorem cells2 {f0 f1 : Field} (hs : P.underlying t = some (.struct #[f0, f1])) (hC : P.cellsOf t = 2) (o0 : f0.offset = 0) (o1 : f1.offset = 1) (k0 : P.cellsOf f0.type = 1) (k1 : P.cellsOf f1.type = 1)
    (h : DataW.trod enc P w base spare held fuel t cs = some x) : ∃ c0 c1 y0 y1 n, cs = [c0, c1] ∧ DataW.trod enc P w base spare held n f0.type [c0] = some y0 ∧ DataW.trod enc P w base spare held n f1.type [c1] = some y1 := by
  obtain ⟨xs, n, _, hx, hlen, hxl, hf⟩ := DataW.trod_struct hs h
  match cs, hlen.trans hC, xs, hxl with
  | [c0, c1], _, [y0, y1], _ => exact ⟨c0, c1, y0, y1, n, rfl, by simpa [o0, k0] using hf 0 f0 rfl, by simpa [o1, k1] using hf 1 f1 rfl⟩
theorem cells3 {f0 f1 f2 : Field} (hs : P.underlying t = some (.struct #[f0, f1, f2])) (hC : P.cellsOf t = 3) (o0 : f0.offset = 0) (o1 : f1.offset = 1) (o2 : f2.offset = 2) (k0 : P.cellsOf f0.type = 1) (k1 : P.cellsOf f1.type = 1) (k2 : P.cellsOf f2.type = 1)
    (h : DataW.trod enc P w base spare held fuel t cs = some x) : ∃ c0 c1 c2 y0 y1 y2 n, cs = [c0, c1, c2] ∧ DataW.trod enc P w base spare held n f0.type [c0] = some y0 ∧ DataW.trod enc P w base spare held n f1.type [c1] = some y1 ∧ DataW.trod enc P w base spare held n f2.type [c2] = some y2 := by
  obtain ⟨xs, n, _, hx, hlen, hxl, hf⟩ := DataW.trod_struct hs h
  match cs, hlen.trans hC, xs, hxl with
  | [c0, c1, c2], _, [y0, y1, y2], _ => exact ⟨c0, c1, c2, y0, y1, y2, n, rfl, by simpa [o0, k0] using hf 0 f0 rfl, by simpa [o1, k1] using hf 1 f1 rfl, by simpa [o2, k2] using hf 2 f2 rfl⟩
theorem cells4 {f0 f1 f2 f3 : Field} (hs : P.underlying t = some (.struct #[f0, f1, f2, f3])) (hC : P.cellsOf t = 4) (o0 : f0.offset = 0) (o1 : f1.offset = 1) (o2 : f2.offset = 2) (o3 : f3.offset = 3) (k0 : P.cellsOf f0.type = 1) (k1 : P.cellsOf f1.type = 1) (k2 : P.cellsOf f2.type = 1) (k3 : P.cellsOf f3.type = 1)
    (h : DataW.trod enc P w base spare held fuel t cs = some x) : ∃ c0 c1 c2 c3 y0 y1 y2 y3 n, cs = [c0, c1, c2, c3] ∧ DataW.trod enc P w base spare held n f0.type [c0] = some y0 ∧ DataW.trod enc P w base spare held n f1.type [c1] = some y1 ∧ DataW.trod enc P w base spare held n f2.type [c2] = some y2 ∧ DataW.trod enc P w base spare held n f3.type [c3] = some y3 := by
  obtain ⟨xs, n, _, hx, hlen, hxl, hf⟩ := DataW.trod_struct hs h
  match cs, hlen.trans hC, xs, hxl with
  | [c0, c1, c2, c3], _, [y0, y1, y2, y3], _ => exact ⟨c0, c1, c2, c3, y0, y1, y2, y3, n, rfl, by simpa [o0, k0] using hf 0 f0 rfl, by simpa [o1, k1] using hf 1 f1 rfl, by simpa [o2, k2] using hf 2 f2 rfl, by simpa [o3, k3] using hf 3 f3 rfl⟩
end
abbrev Td (enc : TypeId × Value → H) (w : World) (base : Nat) (spare : Nat → Bool) (held : Bool) (n : Nat) (t : TypeId) (cs : List Value) (y : DataW H × List MemPlace) : Prop := DataW.trod enc Tryz.prog w base spare held n t cs = some y
theorem rect_open (n : Nat) (cs : List Value) (y : DataW H × List MemPlace) (h : Td enc w base spare held n 44 cs y) : ∃ x : S44, k44.K w x cs ∧ True := by
  obtain ⟨c0, c1, c2, c3, y0, y1, y2, y3, n, rfl, h0, h1, h2, h3⟩ := cells4 Tryz.underlying44 (by kernel_rfl) rfl rfl rfl rfl (by kernel_rfl) (by kernel_rfl) (by kernel_rfl) (by kernel_rfl) h
  obtain ⟨a, e, _, _⟩ := DataW.trod_int Tryz.underlying3 h0; obtain rfl := (List.cons.inj e).1
  obtain ⟨b, e, _, _⟩ := DataW.trod_int Tryz.underlying3 h1; obtain rfl := (List.cons.inj e).1
  obtain ⟨c, e, _, _⟩ := DataW.trod_int Tryz.underlying3 h2; obtain rfl := (List.cons.inj e).1
  obtain ⟨d, e, _, _⟩ := DataW.trod_int Tryz.underlying3 h3; obtain rfl := (List.cons.inj e).1
  exact ⟨⟨a, b, c, d⟩, k44_mk w _, trivial⟩
theorem rects_open {n : Nat} {v : Value} {y : DataW H × List MemPlace} (h : Td enc w base spare held n 38 [v] y) : ∃ (A : Option Addr) (xs : List S44) (c : Nat), v = .slice A xs.length c ∧ xs.length ≤ c ∧ Kd.C k44 w A xs.length xs := by
  obtain ⟨A, xs, c, h1, h2, h3, _⟩ := slice_open Tryz.underlying38 k44 (by kernel_rfl) (fun _ => True) rect_open h
  exact ⟨A, xs, c, h1, h2, h3⟩
theorem area_open (n : Nat) (cs : List Value) (y : DataW H × List MemPlace) (h : Td enc w base spare held n 68 cs y) : ∃ x : S68, k68.K w x cs ∧ True := by
  obtain ⟨c0, c1, c2, y0, y1, y2, n, rfl, h0, h1, h2⟩ := cells3 Tryz.underlying68 (by kernel_rfl) rfl rfl rfl (by kernel_rfl) (by kernel_rfl) (by kernel_rfl) h
  obtain ⟨a, e, _, _⟩ := DataW.trod_int Tryz.underlying3 h0; obtain rfl := (List.cons.inj e).1
  obtain ⟨A, xs, c, rfl, hl, hc⟩ := rects_open h1
  obtain ⟨b, e, _, _⟩ := DataW.trod_int Tryz.underlying3 h2; obtain rfl := (List.cons.inj e).1
  exact ⟨⟨a, xs, b⟩, k68_mk w ⟨a, xs, b⟩ hl hc, trivial⟩
end Go.Proofs.YthkeonbmgcphkaaGreatDoorOpen
namespace Go.Proofs.YthkeonbmgcphkaaGreatDoorOpen
open Go Go.RowKit Go.ChangeShapes Go.WideShapes Go.Deep Go.Proofs.YthkeonbmgcphkaaGreatDoor.PM Go.Proofs.YthkeonbmgcphkaaGreatDoorW.PrintWords Go.Proofs.YthkeonbmgcphkaaGreatDoor
set_option linter.unusedVariables false
set_option linter.unusedSimpArgs false
set_option maxRecDepth 100000
variable {H : Type} {enc : TypeId × Value → H} {P : Program} {w : World} {base : Nat} {spare : Nat → Bool} {held : Bool}
theorem bulk_pos : ∀ d : DataW H, 1 ≤ Rows.uptoBulk d
  | .lit (.string bytes) => by simp [Rows.uptoBulk]
  | .lit (.bool _) => by simp [Rows.uptoBulk]
  | .lit (.int _ _) => by simp [Rows.uptoBulk]
  | d => by cases d <;> (try (rename_i x; cases x)) <;> simp [Rows.uptoBulk]
theorem bulk_mem : ∀ {l : List (DataW H)} {d : DataW H}, d ∈ l → Rows.uptoBulk d ≤ Rows.uptoBulkAll l
  | e :: l, d, h => by
    rw [Rows.uptoBulkAll]
    rcases List.mem_cons.1 h with rfl | h
    · omega
    · have := bulk_mem h; omega
theorem bulk_len : ∀ l : List (DataW H), l.length ≤ Rows.uptoBulkAll l
  | [] => Nat.le_refl _
  | d :: l => by
    have h1 := bulk_pos d
    have h2 := bulk_len l
    rw [Rows.uptoBulkAll, List.length_cons]
    omega
theorem jL {α : Type} {t e : TypeId} {fuel : Nat} {v : Value} {y : DataW H × List MemPlace} {B : Nat} (ht : P.underlying t = some (.slice e)) (d : Kd α) (hC : P.cellsOf e = d.sz) (Q : α → Prop)
    (hel : ∀ n cs y, DataW.trod enc P w base spare held n e cs = some y → Rows.uptoBulk y.1 ≤ B → ∃ x, d.K w x cs ∧ Q x) (h : DataW.trod enc P w base spare held fuel t [v] = some y) (hb : Rows.uptoBulk y.1 ≤ B) :
    ∃ (A : Option Addr) (xs : List α) (c : Nat), v = .slice A xs.length c ∧ xs.length ≤ c ∧ Kd.C d w A xs.length xs ∧ (∀ x ∈ xs, Q x) ∧ xs.length ≤ B := by
  rcases open_slice ht h with ⟨hcs, _⟩ | ⟨a, len, cap, m, n, D, Pl, hcs, _, hl, hm, hmm, hy, hi⟩
  · obtain rfl := (List.cons.inj hcs).1
    exact ⟨none, [], 0, rfl, Nat.le_refl _, ⟨rfl, Nat.zero_le _, fun h => absurd h (Nat.lt_irrefl 0)⟩, fun x hx => (by cases hx), Nat.zero_le _⟩
  · obtain rfl := (List.cons.inj hcs).1
    have hmx : maxLen = 9223372036854775807 := by decide
    rw [hy] at hb
    simp only [Rows.uptoBulk] at hb
    obtain ⟨xs, hxl, hxc, hxq⟩ := row_of (w := w) d (A := a) (len := len) (by omega) Q fun i hil => by
      obtain ⟨cs', hc, ht'⟩ := hi i (by rw [hmm]; split <;> omega)
      have hbi : Rows.uptoBulk (D i) ≤ Rows.uptoBulkAll ((List.range len).map D) := bulk_mem (List.mem_map.2 ⟨i, List.mem_range.2 hil, rfl⟩)
      obtain ⟨x, hx, hq⟩ := hel _ _ _ ht' (by show Rows.uptoBulk (D i) ≤ B; omega)
      obtain ⟨_, hcl, hat⟩ := World.cells?_some hc
      refine ⟨x, cs', d.K_len hx, hx, hq, fun j u hu => ?_⟩
      have hj : j < cs'.length := (List.getElem?_eq_some_iff.1 hu).1
      have := hat j (by omega)
      rw [Go.Deep.add_add, hC] at this
      rw [this, hu]
    have hln := bulk_len ((List.range len).map D)
    rw [List.length_map, List.length_range] at hln
    exact ⟨some a, xs, cap, by rw [hxl], by omega, hxc, hxq, by omega⟩
theorem cells4B {t : TypeId} {fuel : Nat} {cs : List Value} {x : DataW H × List MemPlace} {B : Nat} {f0 f1 f2 f3 : Field} (hs : P.underlying t = some (.struct #[f0, f1, f2, f3])) (hC : P.cellsOf t = 4) (o0 : f0.offset = 0) (o1 : f1.offset = 1) (o2 : f2.offset = 2) (o3 : f3.offset = 3) (k0 : P.cellsOf f0.type = 1) (k1 : P.cellsOf f1.type = 1) (k2 : P.cellsOf f2.type = 1) (k3 : P.cellsOf f3.type = 1)
    (h : DataW.trod enc P w base spare held fuel t cs = some x) (hb : Rows.uptoBulk x.1 ≤ B) : ∃ c0 c1 c2 c3 y0 y1 y2 y3 n, cs = [c0, c1, c2, c3] ∧ DataW.trod enc P w base spare held n f0.type [c0] = some y0 ∧ DataW.trod enc P w base spare held n f1.type [c1] = some y1 ∧ DataW.trod enc P w base spare held n f2.type [c2] = some y2 ∧ DataW.trod enc P w base spare held n f3.type [c3] = some y3 ∧ Rows.uptoBulk y0.1 ≤ B ∧ Rows.uptoBulk y1.1 ≤ B := by
  obtain ⟨xs, n, _, hx, hlen, hxl, hf⟩ := DataW.trod_struct hs h
  match cs, hlen.trans hC, xs, hxl with
  | [c0, c1, c2, c3], _, [y0, y1, y2, y3], _ =>
    rw [hx] at hb
    simp only [List.map_cons, List.map_nil, Rows.uptoBulk, Rows.uptoBulkAll] at hb
    exact ⟨c0, c1, c2, c3, y0, y1, y2, y3, n, rfl, by simpa [o0, k0] using hf 0 f0 rfl, by simpa [o1, k1] using hf 1 f1 rfl, by simpa [o2, k2] using hf 2 f2 rfl, by simpa [o3, k3] using hf 3 f3 rfl, by omega, by omega⟩
theorem cells7B {t : TypeId} {fuel : Nat} {cs : List Value} {x : DataW H × List MemPlace} {B : Nat} {f0 f1 f2 f3 f4 f5 f6 : Field} (hs : P.underlying t = some (.struct #[f0, f1, f2, f3, f4, f5, f6])) (hC : P.cellsOf t = 7) (o0 : f0.offset = 0) (o1 : f1.offset = 1) (o2 : f2.offset = 2) (o3 : f3.offset = 3) (o4 : f4.offset = 4) (o5 : f5.offset = 5) (o6 : f6.offset = 6)
    (k0 : P.cellsOf f0.type = 1) (k1 : P.cellsOf f1.type = 1) (k2 : P.cellsOf f2.type = 1) (k3 : P.cellsOf f3.type = 1) (k4 : P.cellsOf f4.type = 1) (k5 : P.cellsOf f5.type = 1) (k6 : P.cellsOf f6.type = 1)
    (h : DataW.trod enc P w base spare held fuel t cs = some x) (hb : Rows.uptoBulk x.1 ≤ B) : ∃ c0 c1 c2 c3 c4 c5 c6 y0 y1 y2 y3 y4 y5 y6 n, cs = [c0, c1, c2, c3, c4, c5, c6] ∧ DataW.trod enc P w base spare held n f0.type [c0] = some y0 ∧ DataW.trod enc P w base spare held n f1.type [c1] = some y1 ∧ DataW.trod enc P w base spare held n f2.type [c2] = some y2 ∧ DataW.trod enc P w base spare held n f3.type [c3] = some y3 ∧
      DataW.trod enc P w base spare held n f4.type [c4] = some y4 ∧ DataW.trod enc P w base spare held n f5.type [c5] = some y5 ∧ DataW.trod enc P w base spare held n f6.type [c6] = some y6 ∧ Rows.uptoBulk y5.1 ≤ B ∧ Rows.uptoBulk y6.1 ≤ B := by
  obtain ⟨xs, n, _, hx, hlen, hxl, hf⟩ := DataW.trod_struct hs h
  match cs, hlen.trans hC, xs, hxl with
  | [c0, c1, c2, c3, c4, c5, c6], _, [y0, y1, y2, y3, y4, y5, y6], _ =>
    rw [hx] at hb
    simp only [List.map_cons, List.map_nil, Rows.uptoBulk, Rows.uptoBulkAll] at hb
    exact ⟨c0, c1, c2, c3, c4, c5, c6, y0, y1, y2, y3, y4, y5, y6, n, rfl, by simpa [o0, k0] using hf 0 f0 rfl, by simpa [o1, k1] using hf 1 f1 rfl, by simpa [o2, k2] using hf 2 f2 rfl, by simpa [o3, k3] using hf 3 f3 rfl, by simpa [o4, k4] using hf 4 f4 rfl, by simpa [o5, k5] using hf 5 f5 rfl, by simpa [o6, k6] using hf 6 f6 rfl, by omega, by omega⟩
theorem size_data (s : ByteArray) : s.data.toList.length = s.size := by rw [Array.length_toList]; rfl
theorem strs_openB {n : Nat} {v : Value} {y : DataW H × List MemPlace} (h : Td enc w base spare held n 57 [v] y) (hb : Rows.uptoBulk y.1 ≤ 1048576) : ∃ (A : Option Addr) (xs : List ByteArray) (c : Nat), v = .slice A xs.length c ∧ xs.length ≤ c ∧ Kd.string.C w A xs.length xs ∧ (∀ x ∈ xs, x.size < 4294967281) ∧ xs.length ≤ 1048576 :=
  jL Tryz.underlying57 Kd.string (by kernel_rfl) (fun x => x.size < 4294967281) (fun n cs y h hb => by
    obtain ⟨s, rfl, e, _⟩ := DataW.trod_string Tryz.underlying9 h
    rw [e] at hb
    simp only [Rows.uptoBulk, size_data] at hb
    exact ⟨s, rfl, by omega⟩) h hb
theorem class_openB (n : Nat) (cs : List Value) (y : DataW H × List MemPlace) (h : Td enc w base spare held n 66 cs y) (hb : Rows.uptoBulk y.1 ≤ 1048576) : ∃ x : S66, k66.K w x cs ∧ x.f0.size < 9223372036854775807 ∧ x.f1.length ≤ 1000000000 ∧ ∀ n ∈ x.f1, n.size < 4294967281 := by
  obtain ⟨c0, c1, c2, c3, y0, y1, y2, y3, n, rfl, h0, h1, h2, h3, b0, b1⟩ := cells4B Tryz.underlying66 (by kernel_rfl) rfl rfl rfl rfl (by kernel_rfl) (by kernel_rfl) (by kernel_rfl) (by kernel_rfl) h hb
  obtain ⟨a, e, ed, hs⟩ := DataW.trod_string Tryz.underlying9 h0; obtain rfl := (List.cons.inj e).1
  rw [ed] at b0
  simp only [Rows.uptoBulk, size_data] at b0
  obtain ⟨A, xs, c, rfl, hl, hc, hx, hn⟩ := strs_openB h1 b1
  obtain ⟨p, e, _, _⟩ := DataW.trod_int Tryz.underlying3 h2; obtain rfl := (List.cons.inj e).1
  obtain ⟨q, e, _, _⟩ := DataW.trod_int Tryz.underlying3 h3; obtain rfl := (List.cons.inj e).1
  exact ⟨⟨a, xs, p, q⟩, k66_mk w ⟨a, xs, p, q⟩ hl hc, by show a.size < _; omega, by show xs.length ≤ _; omega, hx⟩
theorem rules_openB {r : Reach} {b0 : Nat} {v : Value} {d : DataW H} {p : List MemPlace} (hv : Value.okWide Tryz.prog w r b0 25 v) (h : DataW.Trod enc Tryz.prog w base spare held 25 v d p) (hb : Rows.uptoBulk d ≤ 1048576) :
    ∃ (a0 a1 a2 a3 a4 : Int) (A5 : Option Addr) (c5 : Nat) (l5 : List S66) (A6 : Option Addr) (c6 : Nat) (l6 : List S68), v = .agg #[.int .i64 a0, .int .i64 a1, .int .i64 a2, .int .i64 a3, .int .i64 a4, .slice A5 l5.length c5, .slice A6 l6.length c6] ∧
      Kd.C k66 w A5 l5.length l5 ∧ l5.length ≤ c5 ∧ Kd.C k68 w A6 l6.length l6 ∧ l6.length ≤ c6 ∧ (∀ c ∈ l5, c.f0.size < 9223372036854775807 ∧ c.f1.length ≤ 1000000000 ∧ ∀ n ∈ c.f1, n.size < 4294967281) ∧ l6.length ≤ 1000000000000 := by
  obtain ⟨cs, rfl, _⟩ := okWide_struct Tryz.underlying25 hv
  obtain ⟨fuel, hf⟩ := h
  obtain ⟨c0, c1, c2, c3, c4, c5, c6, y0, y1, y2, y3, y4, y5, y6, n, e, h0, h1, h2, h3, h4, h5, h6, b5, b6⟩ := cells7B Tryz.underlying25 (by kernel_rfl) rfl rfl rfl rfl rfl rfl rfl (by kernel_rfl) (by kernel_rfl) (by kernel_rfl) (by kernel_rfl) (by kernel_rfl) (by kernel_rfl) (by kernel_rfl) hf hb
  obtain ⟨a0, e', _, _⟩ := DataW.trod_int Tryz.underlying3 h0; obtain rfl := (List.cons.inj e').1
  obtain ⟨a1, e', _, _⟩ := DataW.trod_int Tryz.underlying3 h1; obtain rfl := (List.cons.inj e').1
  obtain ⟨a2, e', _, _⟩ := DataW.trod_int Tryz.underlying3 h2; obtain rfl := (List.cons.inj e').1
  obtain ⟨a3, e', _, _⟩ := DataW.trod_int Tryz.underlying3 h3; obtain rfl := (List.cons.inj e').1
  obtain ⟨a4, e', _, _⟩ := DataW.trod_int Tryz.underlying3 h4; obtain rfl := (List.cons.inj e').1
  obtain ⟨A5, l5, k5, rfl, hl5, hc5, hq5, _⟩ := jL Tryz.underlying22 k66 (by kernel_rfl) (fun x => x.f0.size < 9223372036854775807 ∧ x.f1.length ≤ 1000000000 ∧ ∀ n ∈ x.f1, n.size < 4294967281) class_openB h5 b5
  obtain ⟨A6, l6, k6, rfl, hl6, hc6, _, hn6⟩ := jL Tryz.underlying23 k68 (by kernel_rfl) (fun _ => True) (fun n cs y h _ => area_open n cs y h) h6 b6
  refine ⟨a0, a1, a2, a3, a4, A5, k5, l5, A6, k6, l6, ?_, hc5, hl5, hc6, hl6, hq5, by omega⟩
  have : cs = (Value.agg cs).cells := rfl
  congr 1
  apply Array.toList_inj.1
  simpa [Value.cells] using e
end Go.Proofs.YthkeonbmgcphkaaGreatDoorOpen
