/- What Serial and ReadSerial come to, in the program and in the reference: one plain function each. -/
import Derived.Test.YthfejpgofcbamaaDoorWords
import Derived.Test.YthfejpgofcbamaaDoorPAx2
import Derived.Test.YthfejpgofcbamaaDoorPAx3
import Derived.Test.YthfejpgofcbamaaDoorPAx3
import Derived.Test.YthfejpgofcbamaaDoorPAx4
import Derived.Test.YthfejpgofcbamaaDoorPAx5
namespace Go.Proofs.YthfejpgofcbamaaDoor.Plain
open Go.RowKit Go.Proofs.YthfejpgofcbamaaDoor.PA Go.Proofs.YthfejpgofcbamaaDoorW.PrintWords Go.Proofs.YthfejpgofcbamaaDoorW.PrintLast Go.Proofs.YthfejpgofcbamaaDoor.Bytes
set_option linter.unusedVariables false
set_option linter.unusedSimpArgs false

/-- bytes as a string -/
def str (l : List UInt8) : ByteArray := ⟨l.toArray⟩
theorem str_list (l : List UInt8) : (str l).data.toList = l := by simp [str]
theorem str_of (s : ByteArray) : str s.data.toList = s := ext (str_list _)
theorem str_size (l : List UInt8) : (str l).size = l.length := by rw [size_len, str_list]
theorem str_append (a b : List UInt8) : str a ++ str b = str (a ++ b) := ext (by rw [ByteArray.toList_data_append, str_list, str_list, str_list])
theorem lit_str (a : Array UInt8) : (⟨a⟩ : ByteArray) = str a.toList := ext (by rw [str_list])

/-! ### the sign -/
theorem sum_step (s : ByteArray) (i : Nat) (h : i < s.size) : sumF (s.data.toList.drop i) (i + 1) = (i + 1) * (s.data.toList[i]'(by simpa using h)).toNat + sumF (s.data.toList.drop (i + 1)) (i + 2) := by
  rw [List.drop_eq_getElem_cons (by simpa using h)]
  rfl
theorem sum_end (s : ByteArray) (i : Nat) (h : s.size ≤ i) (j : Nat) : sumF (s.data.toList.drop i) j = 0 := by
  rw [List.drop_eq_nil_of_le (by simpa using h)]; rfl
theorem wmul (a b : Nat) (h : a * b < 9223372036854775808) (hb : b < 9223372036854775808) : wrap64 ((a : Int) * (wrap64 (b : Int))) = ((a * b : Nat) : Int) := by
  rw [show wrap64 (b : Int) = (b : Int) by unfold wrap64; omega]
  have : ((a : Int) * (b : Int)) = ((a * b : Nat) : Int) := by simp
  rw [this]; unfold wrap64; omega
theorem round_sum (s : ByteArray) (i m : Nat) (h : i < s.size) (hs : s.size < 9223372036854775807)
    (hb : m + sumF (s.data.toList.drop i) (i + 1) < 9223372036854775808) :
    wrap64 ((m : Int) + wrap64 (wrap64 ((i : Int) + 1) * wrap64 (bt s i))) = ((m + (i + 1) * (s.data.toList[i]'(by simpa using h)).toNat : Nat) : Int) := by
  rw [sum_step s i h] at hb
  have h255 : (s.data.toList[i]'(by simpa using h)).toNat < 256 := UInt8.toNat_lt _
  rw [bt_nat s i h, wrapN (by omega), wmul _ _ (by omega) (by omega)]
  unfold wrap64; omega
theorem tmod_nat (m : Nat) : Int.tmod (m : Int) 37 = ((m % 37 : Nat) : Int) := by
  rw [Int.tmod_eq_emod_of_nonneg (by omega)]; rfl
def SGB : ByteArray := ⟨#[48, 49, 50, 51, 52, 53, 54, 55, 56, 57, 65, 66, 67, 68, 69, 70, 71, 72, 73, 74, 75, 76, 77, 78, 79, 80, 81, 82, 83, 84, 85, 86, 87, 88, 89, 90, 42]⟩
theorem SGB_at : ∀ j : Fin 37, bt SGB (j.val : Int) = ((SG.getD j.val 0).toNat : Int) ∧ SGB.extract j.val (j.val + 1) = str [SG.getD j.val 0] ∧ (SG.getD j.val 0).toNat < 128 := by decide +kernel
theorem sign_l0 (s : ByteArray) (hs : s.size < 9223372036854775807) : ∀ (d i k m : Nat), i + d = s.size → d < k → m + sumF (s.data.toList.drop i) (i + 1) < 9223372036854775808 →
    house_sign.l0 k s (m : Int) (s.size : Int) (i : Int) = some ((SG.getD ((m + sumF (s.data.toList.drop i) (i + 1)) % 37) 0).toNat : Int) := by
  intro d
  induction d with
  | zero =>
    intro i k m hi hk hb
    obtain ⟨k, rfl⟩ : ∃ m, k = m + 1 := ⟨k - 1, by omega⟩
    simp only [house_sign.l0]
    rw [if_neg (show ¬ ((i : Int) < (s.size : Int)) by omega), sum_end s i (by omega), tmod_nat, Nat.add_zero,
      if_pos (show (0 : Int) ≤ ((m % 37 : Nat) : Int) by omega), if_pos (show ((m % 37 : Nat) : Int) < 37 by omega)]
    exact congrArg some (SGB_at ⟨m % 37, Nat.mod_lt _ (by omega)⟩).1
  | succ d ih =>
    intro i k m hi hk hb
    obtain ⟨k, rfl⟩ : ∃ m, k = m + 1 := ⟨k - 1, by omega⟩
    have hlt : i < s.size := by omega
    simp only [house_sign.l0]
    rw [if_pos (show (i : Int) < (s.size : Int) by omega), if_pos (show (0 : Int) ≤ (i : Int) by omega), if_pos (show (i : Int) < (s.size : Int) by omega),
      round_sum s i m hlt hs hb, wrapN (by omega)]
    have e := sum_step s i hlt
    rw [ih (i + 1) k _ (by omega) (by omega) (by rw [e] at hb; show _ + sumF _ (i + 2) < _; omega), e]
    show some (((SG.getD ((m + _ + sumF _ (i + 2)) % 37) 0).toNat : Int)) = _
    rw [Nat.add_assoc m]
theorem sumF_small (l : List UInt8) (h : l.length ≤ 4194304) : sumF l 1 < 9223372036854775808 := by
  have := sumF_le l 1
  have h2 : l.length * (255 * (1 + l.length)) ≤ 4194304 * (255 * (1 + 4194304)) := Nat.mul_le_mul h (by omega)
  omega
theorem sign_f (s : ByteArray) (hs : s.size ≤ 4194304) (k : Nat) (hk : s.size < k) : house_sign.f k s = some ((sg s.data.toList).toNat : Int) := by
  have h := sign_l0 s (by omega) s.size 0 k 0 (by omega) hk (by
    rw [List.drop_zero]; have := sumF_small s.data.toList (by rw [data_length]; exact hs); simpa using this)
  rw [List.drop_zero] at h
  simp only [Nat.zero_add] at h
  exact h
theorem sign12_l0 (s : ByteArray) (hs : s.size < 9223372036854775807) : ∀ (d i k m : Nat), i + d = s.size → d < k → m + sumF (s.data.toList.drop i) (i + 1) < 9223372036854775808 →
    etchhouseref12_sign.l0 k s (m : Int) (i : Int) = some (str [SG.getD ((m + sumF (s.data.toList.drop i) (i + 1)) % 37) 0]) := by
  intro d
  induction d with
  | zero =>
    intro i k m hi hk hb
    obtain ⟨k, rfl⟩ : ∃ m, k = m + 1 := ⟨k - 1, by omega⟩
    simp only [etchhouseref12_sign.l0]
    rw [if_neg (show ¬ ((i : Int) < (s.size : Int)) by omega), sum_end s i (by omega), tmod_nat, Nat.add_zero,
      if_pos (show (0 : Int) ≤ ((m % 37 : Nat) : Int) by omega), wrapN (by omega), if_pos (by omega), if_pos (by omega)]
    have := (SGB_at ⟨m % 37, Nat.mod_lt _ (by omega)⟩).2.1
    exact congrArg some this
  | succ d ih =>
    intro i k m hi hk hb
    obtain ⟨k, rfl⟩ : ∃ m, k = m + 1 := ⟨k - 1, by omega⟩
    have hlt : i < s.size := by omega
    simp only [etchhouseref12_sign.l0]
    rw [if_pos (show (i : Int) < (s.size : Int) by omega), if_pos (show (0 : Int) ≤ (i : Int) by omega), 
      round_sum s i m hlt hs hb, wrapN (by omega)]
    have e := sum_step s i hlt
    rw [ih (i + 1) k _ (by omega) (by omega) (by rw [e] at hb; show _ + sumF _ (i + 2) < _; omega), e]
    show some (str [SG.getD ((m + _ + sumF _ (i + 2)) % 37) 0]) = _
    rw [Nat.add_assoc m]
theorem sign12_f (s : ByteArray) (hs : s.size ≤ 4194304) (k : Nat) (hk : s.size < k) : etchhouseref12_sign.f k s = some (str [sg s.data.toList]) := by
  have h := sign12_l0 s (by omega) s.size 0 k 0 (by omega) hk (by
    rw [List.drop_zero]; have := sumF_small s.data.toList (by rw [data_length]; exact hs); simpa using this)
  rw [List.drop_zero] at h
  simp only [Nat.zero_add] at h
  exact h
theorem sg_small (l : List UInt8) : (sg l).toNat < 128 := (SGB_at ⟨sumF l 1 % 37, Nat.mod_lt _ (by omega)⟩).2.2
theorem sg_mem (l : List UInt8) : sg l ∈ SG := by
  unfold sg
  have h : sumF l 1 % 37 < SG.length := Nat.mod_lt _ (by decide)
  rw [List.getD_eq_getElem?_getD, List.getElem?_eq_getElem h]
  exact List.getElem_mem h
theorem encode_small (b : UInt8) (h : b.toNat < 128) : Utf8.encode (b.toNat : Int) = str [b] := by
  have hv : Utf8.valid (b.toNat : Int) = true := by unfold Utf8.valid; simp; omega
  unfold Utf8.encode
  simp only [hv, if_true, Int.toNat_natCast]
  rw [if_pos h]
  simp [str]

/-! ### three digits -/
theorem digits_f (n : Nat) (h : n ≤ 999) : house_digits.f (n : Int) = some (str (dig3 n)) := by
  unfold house_digits.f strconv_Itoa.f
  have e : wrap64 (1000 + (n : Int)) = ((1000 + n : Nat) : Int) := by unfold wrap64; omega
  rw [e, if_pos (by omega), if_pos (by omega), Option.bind_some, itoa_nat]
  have hl : (⟨(Lib.decDigits (1000 + n)).toArray⟩ : ByteArray).size = 4 := by
    rw [size_len]; simpa using len_1000 n h
  rw [hl, if_pos (by omega)]
  congr 1
  apply ext
  rw [str_list, ← itoa_1000 n h]
  have := len_1000 n h
  generalize Lib.decDigits (1000 + n) = l at *
  simp [ByteArray.data_extract]
  rw [List.take_of_length_le (by simp; omega)]
theorem three_f (n : Nat) (h : n ≤ 999) (k : Nat) (hk : 3 < k) : etchhouseref12_three.f k (n : Int) = some (str (dig3 n)) := by
  unfold etchhouseref12_three.f strconv_Itoa.f
  rw [if_pos (by omega), if_pos (by omega), Option.bind_some, itoa_nat]
  obtain ⟨k, rfl⟩ : ∃ m, k = m + 3 := ⟨k - 3, by omega⟩
  have hz : (⟨#[48]⟩ : ByteArray) = str [48] := lit_str _
  have stop : ∀ k, etchhouseref12_three.l0 (k + 1) (str (dig3 n)) = some (str (dig3 n)) := by
    intro k
    simp only [etchhouseref12_three.l0]
    rw [if_neg (by rw [str_size]; simp [dig3])]
  show etchhouseref12_three.l0 (k + 3) (str (Lib.decDigits n)) = _
  have more : ∀ (l : List UInt8) (k : Nat), l.length < 3 → etchhouseref12_three.l0 (k + 1) (str l) = etchhouseref12_three.l0 k (str ([48] ++ l)) := by
    intro l k hl
    simp only [etchhouseref12_three.l0, hz, str_append, str_size]
    rw [if_pos (by omega), if_pos (by omega)]
  rcases Nat.lt_or_ge n 10 with h1 | h1
  · have hl : (Lib.decDigits n).length = 1 := by rw [dec1 n h1]; rfl
    rw [more _ _ (by omega), more _ _ (by simp; omega), ← List.append_assoc, show ([48] ++ [48] : List UInt8) = [48, 48] from rfl, pad_1 n h1, stop]
  · rcases Nat.lt_or_ge n 100 with h2 | h2
    · have hl : (Lib.decDigits n).length = 2 := by rw [dec2 n h1, dec1 _ (by omega)]; rfl
      rw [more _ _ (by omega), pad_2 n h1 h2, stop]
    · rw [pad_3 n h2 (by omega), stop]

/-! ### Serial -/
def front (lot : List UInt8) (p s : Nat) : List UInt8 := lot ++ [46] ++ dig3 p ++ [46] ++ dig3 s
def serialL (lot : List UInt8) (p s : Nat) : List UInt8 := front lot p s ++ [46] ++ [sg (front lot p s)]
def inR (n : Int) : Bool := decide (0 ≤ n) && decide (n ≤ 999)
def SerialS (lot : ByteArray) (p s : Int) : ByteArray × Int :=
  if isWordL lot.data.toList then (if inR p && inR s then (str (serialL lot.data.toList p.toNat s.toNat), 0) else (str [], 1)) else (str [], 5)
theorem nil_str : (⟨#[]⟩ : ByteArray) = str [] := rfl
theorem dot_str : (⟨#[46]⟩ : ByteArray) = str [46] := rfl
theorem front_len (lot : List UInt8) (p s : Nat) : (front lot p s).length = lot.length + 8 := by simp [front, dig3]
theorem isWord_len {l : List UInt8} (h : isWordL l = true) : l.length ≤ 40 := by
  unfold isWordL at h; simp only [Bool.and_eq_true, decide_eq_true_eq] at h; omega
theorem within_f (n : Int) : house_within.f n 0 999 = some (inR n) := by
  unfold house_within.f inR
  by_cases h : n ≥ 0
  · rw [if_pos h]; simp; omega
  · rw [if_neg h]; simp; omega
theorem inRange_f (n : Int) : etchhouseref12_inRange.f n 0 999 = some (inR n) := by
  unfold etchhouseref12_inRange.f inR
  by_cases h : n ≥ 0
  · rw [if_pos h]; simp; omega
  · rw [if_neg h]; simp; omega
set_option maxRecDepth 100000 in
theorem serial_f (lot : ByteArray) (p s : Nat) (hw : isWordL lot.data.toList = true) (hp : p ≤ 999) (hs : s ≤ 999) (k : Nat) (hk : 60 < k) :
    house_serial.f k lot (p : Int) (s : Int) = some (str (serialL lot.data.toList p s)) := by
  have h40 := isWord_len hw
  have hl : lot = str lot.data.toList := (str_of lot).symm
  generalize lot.data.toList = l at *
  subst hl
  unfold house_serial.f
  simp only [digits_f p hp, digits_f s hs, dot_str, str_append, str_size, Option.bind_some]
  have hf : house_sign.f k (str (l ++ [46] ++ dig3 p ++ [46] ++ dig3 s)) = some ((sg (front l p s)).toNat : Int) := by
    have := sign_f (str (l ++ [46] ++ dig3 p ++ [46] ++ dig3 s)) (by rw [str_size]; have := front_len l p s; unfold front at this; omega) k (by rw [str_size]; have := front_len l p s; unfold front at this; omega)
    rw [str_list] at this
    exact this
  simp only [hf, Option.bind_some, encode_small _ (sg_small _), str_append, str_size]
  have e3 : ∀ n, (dig3 n).length = 3 := fun _ => rfl
  simp only [List.length_append, e3, List.length_cons, List.length_nil]
  rw [if_pos (by omega), if_pos (by omega), if_pos (by omega), if_pos (by omega), if_pos (by omega), if_pos (by omega)]
  simp only [serialL, front]
theorem Serial_f (lot : ByteArray) (p s : Int) (hz : lot.size < 9223372036854775807) (k : Nat) (hk : lot.size + 60 < k) : house_Serial.f k lot p s = some (SerialS lot p s) := by
  unfold house_Serial.f SerialS
  rw [isWord_f lot hz k (by omega), Option.bind_some]
  by_cases hw : isWordL lot.data.toList = true
  · rw [if_pos hw, if_pos hw, within_f, Option.bind_some]
    by_cases hp : inR p = true
    · rw [if_pos hp, within_f, Option.bind_some]
      by_cases hs : inR s = true
      · rw [if_pos hs, hp, hs]
        simp only [inR, Bool.and_eq_true, decide_eq_true_eq] at hp hs
        obtain ⟨p, rfl⟩ := Int.eq_ofNat_of_zero_le hp.1
        obtain ⟨s, rfl⟩ := Int.eq_ofNat_of_zero_le hs.1
        rw [serial_f lot p s hw (by omega) (by omega) k (by omega)]
        rfl
      · rw [if_neg hs]; simp [hs, nil_str]
    · rw [if_neg hp]; simp [hp, nil_str]
  · rw [if_neg hw, if_neg hw]; rfl
theorem Serial12_f (lot : ByteArray) (p s : Int) (hz : lot.size < 9223372036854775807) (k : Nat) (hk : lot.size + 61 < k) : etchhouseref12_Serial.f k lot p s = some (SerialS lot p s) := by
  unfold etchhouseref12_Serial.f SerialS
  rw [isWord5_f lot hz k (by omega), Option.bind_some]
  obtain ⟨k, rfl⟩ : ∃ m, k = m + 1 := ⟨k - 1, by omega⟩
  by_cases hw : isWordL lot.data.toList = true
  · rw [if_pos hw, if_pos hw, inRange_f, Option.bind_some]
    by_cases hp : inR p = true
    · rw [if_pos hp, inRange_f, Option.bind_some]
      by_cases hs : inR s = true
      · rw [hp, hs]
        simp only [inR, Bool.and_eq_true, decide_eq_true_eq] at hp hs
        obtain ⟨p, rfl⟩ := Int.eq_ofNat_of_zero_le hp.1
        obtain ⟨s, rfl⟩ := Int.eq_ofNat_of_zero_le hs.1
        have h40 := isWord_len hw
        have hl : lot = str lot.data.toList := (str_of lot).symm
        generalize lot.data.toList = l at *
        subst hl
        rw [str_size] at hk
        simp only [etchhouseref12_Serial.j0, Bool.not_true, Bool.false_eq_true, if_false, Bool.and_self, if_true]
        simp only [three_f p (by omega) k (by omega), three_f s (by omega) k (by omega), dot_str, str_append, str_size, Option.bind_some]
        have hf : etchhouseref12_sign.f k (str (l ++ [46] ++ dig3 p ++ [46] ++ dig3 s)) = some (str [sg (front l p s)]) := by
          have := sign12_f (str (l ++ [46] ++ dig3 p ++ [46] ++ dig3 s)) (by rw [str_size]; have := front_len l p s; unfold front at this; omega) k (by rw [str_size]; have := front_len l p s; unfold front at this; omega)
          rw [str_list] at this
          exact this
        simp only [hf, Option.bind_some, str_append, str_size]
        have e3 : ∀ n, (dig3 n).length = 3 := fun _ => rfl
        simp only [List.length_append, e3, List.length_cons, List.length_nil]
        rw [if_pos (by omega), if_pos (by omega), if_pos (by omega), if_pos (by omega), if_pos (by omega), if_pos (by omega)]
        rfl
      · simp [hs, nil_str, etchhouseref12_Serial.j0]
    · rw [if_neg hp]; simp [hp, nil_str, etchhouseref12_Serial.j0]
  · rw [if_neg hw, if_neg hw]; rfl
end Go.Proofs.YthfejpgofcbamaaDoor.Plain
