/- Plain facts on bytes, words, splitting at one byte, three digits: no program. -/
import Derived.Test.YthfejpgofcbamaaDoorWWords
import Derived.Lib.SplitLaws
import Derived.Lib.IndexBytes
import Derived.Lib.ItoaNum
import Derived.Lib.AtoiAll
import Derived.Lib.SlTrimSet
namespace Go.Proofs.YthfejpgofcbamaaDoor.Bytes
open Go.RowKit Go.Proofs.YthfejpgofcbamaaDoorW.PrintWords
set_option linter.unusedVariables false

theorem toList_loop (b : ByteArray) : ∀ (d i : Nat) (r : List UInt8), i + d = b.size → ByteArray.toList.loop b i r = r.reverse ++ b.data.toList.drop i := by
  intro d
  induction d with
  | zero =>
    intro i r h
    rw [ByteArray.toList.loop, if_neg (by omega), List.drop_eq_nil_of_le (by rw [data_length]; omega)]
    simp
  | succ d ih =>
    intro i r h
    rw [ByteArray.toList.loop, if_pos (by omega), ih (i + 1) _ (by omega)]
    have hl : i < b.data.toList.length := by rw [data_length]; omega
    rw [List.drop_eq_getElem_cons hl]
    have hg : b.get! i = b.data.toList[i] := by
      show b.data[i]! = _
      rw [getElem!_pos b.data i (by simpa using hl)]
      simp
    rw [hg]
    simp
theorem toList_eq (b : ByteArray) : b.toList = b.data.toList := by
  unfold ByteArray.toList
  rw [toList_loop b b.size 0 [] (by omega)]
  simp
theorem ext {a b : ByteArray} (h : a.data.toList = b.data.toList) : a = b := ByteArray.ext (Array.toList_inj.mp h)
theorem toList_inj {a b : ByteArray} : a.toList = b.toList ↔ a = b := ⟨fun h => ext (by rw [← toList_eq, ← toList_eq, h]), fun h => by rw [h]⟩
theorem size_len (s : ByteArray) : s.size = s.data.toList.length := (data_length s).symm
theorem wrapN {i : Nat} (h : i < 9223372036854775807) : wrap64 ((i : Int) + 1) = ((i + 1 : Nat) : Int) := by unfold wrap64; omega
theorem bt_nat (s : ByteArray) (i : Nat) (h : i < s.size) : bt s (i : Int) = ((s.data.toList[i]'(by simpa using h)).toNat : Int) := by
  unfold bt
  rw [dif_pos (by simpa using h)]
  simp
  rfl

/-! ### words -/
/-- a byte of a word -/
def wordB (c : Int) : Bool := decide (65 ≤ c ∧ c ≤ 90) || (decide (97 ≤ c ∧ c ≤ 122) || (decide (48 ≤ c ∧ c ≤ 57) || decide (0 ≤ Lib.indexByte [95, 43, 45, 35] c.toNat.toUInt8)))
def allW (l : List UInt8) : Bool := l.all fun b => wordB (b.toNat : Int)
def isWordL (l : List UInt8) : Bool := allW l && (decide (1 ≤ l.length) && decide (l.length ≤ 40))
theorem allW_step (s : ByteArray) (i : Nat) (h : i < s.size) : allW (s.data.toList.drop i) = (wordB (bt s i) && allW (s.data.toList.drop (i + 1))) := by
  unfold allW
  rw [bt_nat s i h, List.drop_eq_getElem_cons (by simpa using h)]
  simp
theorem allW_end (s : ByteArray) (i : Nat) (h : s.size ≤ i) : allW (s.data.toList.drop i) = true := by
  rw [List.drop_eq_nil_of_le (by simpa using h)]
  rfl

/-! ### splitting at a byte -/
def splitC (c : UInt8) : List UInt8 → List (List UInt8)
  | [] => [[]]
  | b :: l => if b = c then [] :: splitC c l else match splitC c l with
    | h :: t => (b :: h) :: t
    | [] => [[b]]
theorem splitC_ne (c : UInt8) (l : List UInt8) : splitC c l ≠ [] := by
  cases l with
  | nil => simp [splitC]
  | cons b l => unfold splitC; split <;> (try split) <;> simp
theorem splitK_one (c : UInt8) : ∀ s : List UInt8, Lib.splitK [c] 0 (Lib.count s [c]) s = splitC c s
  | [] => by rw [Lib.count_miss (by simp [Lib.index])]; rfl
  | b :: l => by
    have ih := splitK_one c l
    by_cases h : b = c
    · subst h
      rw [Lib.count_cons_eq, Nat.add_comm, Lib.splitK]
      have hix : Lib.index (b :: l) [b] = 0 := by rw [Lib.index]; simp [List.isPrefixOf]
      rw [hix, splitC, if_pos rfl, ← ih]
      simp
    · rw [Lib.count_cons_ne b c l h, splitC, if_neg h]
      have hix : Lib.index (b :: l) [c] = if Lib.index l [c] == -1 then -1 else Lib.index l [c] + 1 := by
        rw [Lib.index]; simp [List.isPrefixOf, Ne.symm h]
      by_cases hm : Lib.index l [c] = -1
      · rw [Lib.count_miss hm] at ih ⊢
        have e : splitC c l = [l] := ih.symm
        rw [e]; rfl
      · have hge := Lib.index_ge l [c]
        obtain ⟨j, hj⟩ : ∃ j : Nat, Lib.index l [c] = j := ⟨(Lib.index l [c]).toNat, by omega⟩
        have hcn : Lib.count l [c] = (Lib.count l [c] - 1) + 1 := by
          have := Lib.count_hit (s := l) (sub := [c]) (by simp) hj
          omega
        rw [hcn] at ih ⊢
        generalize Lib.count l [c] - 1 = n at ih ⊢
        rw [Lib.splitK, hix, hj] at *
        have hf : ¬ (((j : Nat) : Int) == -1) = true := by simp
        rw [if_neg hf] at ih ⊢
        have hf2 : ¬ (((j : Nat) : Int) + 1 == -1) = true := by simp; omega
        rw [if_neg hf2, ← ih]
        have e1 : (((j : Nat) : Int) + 1).toNat + 0 = j + 1 := by omega
        have e2 : (((j : Nat) : Int) + 1).toNat + [c].length = (j + 1) + 1 := by simp
        rw [e1, e2]
        simp
def joinC (c : UInt8) : List (List UInt8) → List UInt8
  | [] => []
  | [x] => x
  | x :: y :: r => x ++ c :: joinC c (y :: r)
theorem join_split (c : UInt8) : ∀ l : List UInt8, joinC c (splitC c l) = l
  | [] => rfl
  | b :: l => by
    have ih := join_split c l
    have hne := splitC_ne c l
    unfold splitC
    by_cases h : b = c
    · subst h
      rw [if_pos rfl]
      cases hs : splitC b l with
      | nil => exact absurd hs hne
      | cons x r => rw [hs] at ih; simp [joinC, ih]
    · rw [if_neg h]
      cases hs : splitC c l with
      | nil => exact absurd hs hne
      | cons x r =>
        rw [hs] at ih
        cases r with
        | nil => simp only [joinC] at ih ⊢; rw [ih]
        | cons y r => simp only [joinC] at ih ⊢; rw [← ih]; rfl
theorem split_no (c : UInt8) : ∀ l : List UInt8, c ∉ l → splitC c l = [l]
  | [], _ => rfl
  | b :: l, h => by
    have hb : ¬ b = c := fun e => h (by rw [e]; exact List.mem_cons_self)
    have := split_no c l (fun e => h (List.mem_cons_of_mem _ e))
    unfold splitC
    rw [if_neg hb, this]
theorem split_at (c : UInt8) : ∀ (l r : List UInt8), c ∉ l → splitC c (l ++ c :: r) = l :: splitC c r
  | [], r, _ => by simp [splitC]
  | b :: l, r, h => by
    have hb : ¬ b = c := fun e => h (by rw [e]; exact List.mem_cons_self)
    have := split_at c l r (fun e => h (List.mem_cons_of_mem _ e))
    rw [List.cons_append, splitC, if_neg hb, this]
theorem splitB_dot (s : ByteArray) (c : UInt8) : (Lib.splitB ⟨#[c]⟩ 0 (Lib.countB s ⟨#[c]⟩) s).map (·.data.toList) = splitC c s.data.toList := by
  rw [Lib.splitB_data]
  exact splitK_one c s.data.toList

/-! ### numbers of three digits -/
def dg (n : Nat) : UInt8 := UInt8.ofNat (48 + n % 10)
def dig3 (n : Nat) : List UInt8 := [dg (n / 100), dg (n / 10), dg n]
theorem dec1 (u : Nat) (h : u < 10) : Lib.decDigits u = [dg u] := by
  rw [Lib.decDigits, dif_pos h]; unfold dg; rw [Nat.mod_eq_of_lt h]
theorem dec2 (u : Nat) (h : 10 ≤ u) : Lib.decDigits u = Lib.decDigits (u / 10) ++ [dg u] := by
  rw [Lib.decDigits, dif_neg (by omega)]; rfl
theorem itoa_nat (n : Nat) : Lib.itoa (n : Int) = Lib.decDigits n := by
  unfold Lib.itoa; rw [if_neg (by omega)]; simp
theorem dg_mod {a b : Nat} (h : a % 10 = b % 10) : dg a = dg b := by unfold dg; rw [h]
/-- Itoa(1000 + n)[1:] -/
theorem itoa_1000 (n : Nat) (h : n ≤ 999) : (Lib.decDigits (1000 + n)).drop 1 = dig3 n := by
  rw [dec2 _ (by omega), dec2 _ (by omega), dec2 _ (by omega), dec1 _ (by omega)]
  simp only [List.cons_append, List.nil_append, List.drop_succ_cons, List.drop_zero, dig3]
  rw [dg_mod (show (1000 + n) / 10 / 10 % 10 = n / 100 % 10 by omega), dg_mod (show (1000 + n) / 10 % 10 = n / 10 % 10 by omega), dg_mod (show (1000 + n) % 10 = n % 10 by omega)]
theorem len_1000 (n : Nat) (h : n ≤ 999) : (Lib.decDigits (1000 + n)).length = 4 := by
  rw [dec2 _ (by omega), dec2 _ (by omega), dec2 _ (by omega), dec1 _ (by omega)]; rfl
/-- zeros in front, up to three digits -/
theorem pad_1 (n : Nat) (h : n < 10) : [48, 48] ++ Lib.decDigits n = dig3 n := by
  rw [dec1 _ h]; unfold dig3
  rw [show n / 100 = 0 by omega, show n / 10 = 0 by omega]; rfl
theorem pad_2 (n : Nat) (h0 : 10 ≤ n) (h : n < 100) : [48] ++ Lib.decDigits n = dig3 n := by
  rw [dec2 _ h0, dec1 _ (by omega)]; unfold dig3
  rw [show n / 100 = 0 by omega]; rfl
theorem pad_3 (n : Nat) (h0 : 100 ≤ n) (h : n < 1000) : Lib.decDigits n = dig3 n := by
  rw [dec2 _ (by omega), dec2 _ (by omega), dec1 _ (by omega)]; unfold dig3
  rw [show n / 10 / 10 = n / 100 by omega]; rfl
def isDg (b : UInt8) : Bool := decide (48 ≤ b.toNat) && decide (b.toNat ≤ 57)
theorem dg_toNat (n : Nat) : (dg n).toNat = 48 + n % 10 := by unfold dg; simp; omega
theorem dg_is (n : Nat) : isDg (dg n) = true := by unfold isDg; rw [dg_toNat]; simp; omega
def val3 (l : List UInt8) : Nat := l.foldl (fun n b => n * 10 + (b.toNat - 48)) 0
theorem val_dig3 (n : Nat) (h : n ≤ 999) : val3 (dig3 n) = n := by
  simp only [val3, dig3, List.foldl_cons, List.foldl_nil, dg_toNat]; omega
theorem dig3_val (a b c : UInt8) (ha : isDg a = true) (hb : isDg b = true) (hc : isDg c = true) : dig3 (val3 [a, b, c]) = [a, b, c] := by
  simp only [isDg, Bool.and_eq_true, decide_eq_true_eq] at ha hb hc
  simp only [val3, dig3, List.foldl_cons, List.foldl_nil]
  have e : ∀ (x : UInt8) (m : Nat), 48 ≤ x.toNat → x.toNat ≤ 57 → m % 10 = x.toNat - 48 → dg m = x := by
    intro x m h1 h2 h
    apply UInt8.toNat_inj.1
    rw [dg_toNat]; omega
  rw [e a _ ha.1 ha.2 (by omega), e b _ hb.1 hb.2 (by omega), e c _ hc.1 hc.2 (by omega)]
theorem val3_le (a b c : UInt8) (ha : isDg a = true) (hb : isDg b = true) (hc : isDg c = true) : val3 [a, b, c] ≤ 999 := by
  simp only [isDg, Bool.and_eq_true, decide_eq_true_eq] at ha hb hc
  simp only [val3, List.foldl_cons, List.foldl_nil]; omega
theorem atoi3 (a b c : UInt8) (ha : isDg a = true) (hb : isDg b = true) (hc : isDg c = true) : Lib.atoiAll [a, b, c] = .ok (val3 [a, b, c] : Int) := by
  have h9 := val3_le a b c ha hb hc
  simp only [isDg, Bool.and_eq_true, decide_eq_true_eq] at ha hb hc
  have hp : Lib.parseMag [a, b, c] = .ok (val3 [a, b, c]) := by
    unfold Lib.parseMag
    rw [if_neg (by simp)]
    simp only [Lib.parseUint10]
    rw [if_pos ha, if_neg (by omega), if_neg (by omega), if_pos hb, if_neg (by omega), if_neg (by omega), if_pos hc, if_neg (by omega), if_neg (by omega)]
    simp [val3]
  unfold Lib.atoiAll
  simp only
  rw [if_neg (by omega), hp]
  simp only
  rw [if_neg (by omega), if_neg (by omega), if_neg (by omega)]
theorem trim_digits (l : List UInt8) : Lib.trimS l [48, 49, 50, 51, 52, 53, 54, 55, 56, 57] = [] ↔ l.all isDg = true := by
  have hp : ∀ b : UInt8, ([48, 49, 50, 51, 52, 53, 54, 55, 56, 57] : List UInt8).contains b = isDg b := by
    intro b
    unfold isDg
    rw [Bool.eq_iff_iff]
    simp only [List.contains_iff_mem, List.mem_cons, List.mem_nil_iff, or_false, Bool.and_eq_true, decide_eq_true_eq, ← UInt8.toNat_inj]
    simp
    omega
  have hd : ∀ l : List UInt8, l.dropWhile (fun b => ([48, 49, 50, 51, 52, 53, 54, 55, 56, 57] : List UInt8).contains b) = [] ↔ l.all isDg = true := by
    intro l
    induction l with
    | nil => simp
    | cons b l ih =>
      rw [List.dropWhile_cons, List.all_cons, ← hp b]
      cases ([48, 49, 50, 51, 52, 53, 54, 55, 56, 57] : List UInt8).contains b with
      | true => simpa using ih
      | false => simp
  unfold Lib.trimS Lib.trimLeftS
  rw [hd]
  unfold Lib.trimRightS
  constructor
  · intro h
    by_cases hl : l.all isDg = true
    · exact hl
    · exfalso
      have h2 : ¬ (l.reverse.dropWhile fun b => ([48, 49, 50, 51, 52, 53, 54, 55, 56, 57] : List UInt8).contains b) = [] := by
        rw [hd]; simpa using hl
      cases hx : l.reverse.dropWhile (fun b => ([48, 49, 50, 51, 52, 53, 54, 55, 56, 57] : List UInt8).contains b) with
      | nil => exact h2 hx
      | cons y r =>
        have h3 := List.head_dropWhile_not (fun b => ([48, 49, 50, 51, 52, 53, 54, 55, 56, 57] : List UInt8).contains b) (l := l.reverse) (by rw [hx]; simp)
        simp only [hx, List.head_cons] at h3
        rw [hp] at h3
        rw [List.all_eq_true] at h
        have := h y (by rw [hx]; simp)
        rw [this] at h3; cases h3
  · intro h
    have : (l.reverse.dropWhile fun b => ([48, 49, 50, 51, 52, 53, 54, 55, 56, 57] : List UInt8).contains b) = [] := by rw [hd]; simpa using h
    rw [this]; rfl

/-! ### the sum of a serial number -/
def sumF : List UInt8 → Nat → Nat
  | [], _ => 0
  | b :: l, i => i * b.toNat + sumF l (i + 1)
theorem sumF_le : ∀ (l : List UInt8) (i : Nat), sumF l i ≤ l.length * (255 * (i + l.length))
  | [], _ => by simp [sumF]
  | b :: l, i => by
    have ih := sumF_le l (i + 1)
    have hb : b.toNat ≤ 255 := by have := b.toNat_lt; omega
    have h1 : i * b.toNat ≤ 255 * (i + (l.length + 1)) := by
      calc i * b.toNat ≤ i * 255 := Nat.mul_le_mul_left _ hb
        _ ≤ 255 * (i + (l.length + 1)) := by omega
    have e : i + 1 + l.length = i + (l.length + 1) := by omega
    rw [e] at ih
    simp only [sumF, List.length_cons]
    rw [Nat.add_mul, Nat.one_mul]
    omega
def SG : List UInt8 := [48, 49, 50, 51, 52, 53, 54, 55, 56, 57, 65, 66, 67, 68, 69, 70, 71, 72, 73, 74, 75, 76, 77, 78, 79, 80, 81, 82, 83, 84, 85, 86, 87, 88, 89, 90, 42]
def sg (l : List UInt8) : UInt8 := SG.getD (sumF l 1 % 37) 0
end Go.Proofs.YthfejpgofcbamaaDoor.Bytes
