/- ReadSerial, in the program and in the reference, is one plain function; Serial's numbers are read as what they were made of. -/
import Derived.Test.YthfejpgofcbamaaDoorSerials
namespace Go.Proofs.YthfejpgofcbamaaDoor.Plain
open Go.RowKit Go.Proofs.YthfejpgofcbamaaDoor.PA Go.Proofs.YthfejpgofcbamaaDoorW.PrintWords Go.Proofs.YthfejpgofcbamaaDoorW.PrintLast Go.Proofs.YthfejpgofcbamaaDoor.Bytes
set_option linter.unusedVariables false
set_option linter.unusedSimpArgs false

def is3 (l : List UInt8) : Bool := decide (l.length = 3) && l.all isDg
def isSG (l : List UInt8) : Bool := decide (l.length = 1) && l.all (fun b => SG.contains b)
def readL (w0 w1 w2 w3 : List UInt8) : ByteArray × Int × Int × Int :=
  if isWordL w0 && isSG w3 && is3 w1 && is3 w2 then
    (if w3 = [sg (w0 ++ [46] ++ w1 ++ [46] ++ w2)] then (str w0, (val3 w1 : Int), (val3 w2 : Int), 0) else (str [], 0, 0, 15))
  else (str [], 0, 0, 10)
def ReadS (s : List UInt8) : ByteArray × Int × Int × Int :=
  match splitC 46 s with
  | [w0, w1, w2, w3] => readL w0 w1 w2 w3
  | _ => (str [], 0, 0, 10)

theorem is3_parts {l : List UInt8} (h : is3 l = true) : ∃ a b c, l = [a, b, c] ∧ isDg a = true ∧ isDg b = true ∧ isDg c = true := by
  simp only [is3, Bool.and_eq_true, decide_eq_true_eq] at h
  obtain ⟨h1, h2⟩ := h
  match l, h1 with
  | [a, b, c], _ => simp only [List.all_cons, List.all_nil, Bool.and_eq_true, Bool.and_true] at h2; exact ⟨a, b, c, rfl, h2.1, h2.2.1, h2.2.2⟩
theorem atoi_is3 {l : List UInt8} (h : is3 l = true) : strconv_Atoi.f (str l) = some ((val3 l : Int), none) := by
  obtain ⟨a, b, c, rfl, ha, hb, hc⟩ := is3_parts h
  unfold strconv_Atoi.f
  rw [if_pos (by rw [str_size]; simp), str_list, atoi3 a b c ha hb hc]
def three (l : List UInt8) : Int × Bool := if is3 l then ((val3 l : Int), true) else (0, false)
theorem trim_f (l : List UInt8) (hl : l.length = 3) : strings_Trim.f (str l) (⟨#[48, 49, 50, 51, 52, 53, 54, 55, 56, 57]⟩ : ByteArray) = some (str (Lib.trimS l [48, 49, 50, 51, 52, 53, 54, 55, 56, 57])) := by
  unfold strings_Trim.f
  rw [if_pos (by rw [str_size]; omega), if_pos (by decide), if_pos (by decide), str_list]
  rfl
theorem houseThree_f (l : List UInt8) : house_three.f (str l) = some (three l) := by
  unfold house_three.f three is3
  rw [str_size]
  by_cases h : l.length = 3
  · rw [if_pos (by omega), trim_f l h, Option.bind_some, toList_eq, str_list]
    by_cases h2 : l.all isDg = true
    · rw [if_pos ((trim_digits l).2 h2), atoi_is3 (by simp [is3, h, h2])]
      simp [h, h2]
    · rw [if_neg (fun e => h2 ((trim_digits l).1 e))]
      simp [h2]
  · rw [if_neg (by omega)]
    simp [h]
theorem refDigits_f (l : List UInt8) (k : Nat) (hk : 3 < k) : etchhouseref12_digits.f k (str l) = some (three l) := by
  unfold etchhouseref12_digits.f three is3
  rw [str_size]
  by_cases h : l.length = 3
  · rw [if_pos (by omega)]
    match l, h with
    | [a, b, c], _ =>
      have h3 : (str [a, b, c]).size = 3 := by rw [str_size]; rfl
      have b0 : bt (str [a, b, c]) 0 = (a.toNat : Int) := by rw [show (0 : Int) = ((0 : Nat) : Int) from rfl, bt_nat _ 0 (by omega)]; simp [str]
      have b1 : bt (str [a, b, c]) 1 = (b.toNat : Int) := by rw [show (1 : Int) = ((1 : Nat) : Int) from rfl, bt_nat _ 1 (by omega)]; simp [str]
      have b2 : bt (str [a, b, c]) 2 = (c.toNat : Int) := by rw [show (2 : Int) = ((2 : Nat) : Int) from rfl, bt_nat _ 2 (by omega)]; simp [str]
      obtain ⟨k, rfl⟩ : ∃ m, k = m + 4 := ⟨k - 4, by omega⟩
      have w0 : wrap64 (0 + 1) = 1 := by unfold wrap64; omega
      have w1 : wrap64 (1 + 1) = 2 := by unfold wrap64; omega
      have w2 : wrap64 (2 + 1) = 3 := by unfold wrap64; omega
      simp only [etchhouseref12_digits.l0, h3, b0, b1, b2, w0, w1, w2]
      have hd : ∀ x : UInt8, isDg x = (decide (¬ ((x.toNat : Int) < 48)) && decide (¬ ((x.toNat : Int) > 57))) := by
        intro x; unfold isDg; rw [Bool.eq_iff_iff]; simp; omega
      by_cases ha : isDg a = true
      · by_cases hb : isDg b = true
        · by_cases hc : isDg c = true
          · have hA := atoi_is3 (l := [a, b, c]) (by simp [is3, ha, hb, hc])
            rw [hA]
            simp only [ha, hb, hc, List.all_cons, List.all_nil, Bool.and_true, List.length_cons, List.length_nil, decide_true]
            simp only [hd, Bool.and_eq_true, decide_eq_true_eq] at ha hb hc
            simp [ha.1, ha.2, hb.1, hb.2, hc.1, hc.2]
          · simp only [ha, hb, hc, List.all_cons, List.all_nil, Bool.and_true, Bool.and_false, Bool.false_eq_true, if_false]
            simp only [hd, Bool.and_eq_true, decide_eq_true_eq] at ha hb hc
            simp [ha.1, ha.2, hb.1, hb.2]
            omega
        · simp only [ha, hb, List.all_cons, List.all_nil, Bool.and_true, Bool.and_false, Bool.false_and, Bool.false_eq_true, if_false]
          simp only [hd, Bool.and_eq_true, decide_eq_true_eq] at ha hb
          simp [ha.1, ha.2]
          omega
      · simp only [ha, List.all_cons, List.all_nil, Bool.and_true, Bool.and_false, Bool.false_and, Bool.false_eq_true, if_false]
        simp only [hd, Bool.and_eq_true, decide_eq_true_eq] at ha
        simp
        omega
  · rw [if_neg (by omega)]
    simp [h]
theorem contains_one (b : UInt8) : ∀ l : List UInt8, Lib.contains l [b] = l.contains b := by
  intro l
  unfold Lib.contains
  rw [Lib.index_one]
  induction l with
  | nil => simp [Lib.indexByte]
  | cons x l ih =>
    have hge := Lib.indexByte_ge l b
    unfold Lib.indexByte
    by_cases h : x = b
    · subst h; simp
    · have hx : (x == b) = false := by simpa using h
      have hbx : (b == x) = false := by simpa using Ne.symm h
      rw [hx, List.contains_cons, hbx, Bool.false_or, ← ih]
      simp
      by_cases hm : Lib.indexByte l b = -1
      · rw [hm]; simp
      · rw [if_neg hm]; omega
theorem isSG_of {l : List UInt8} (h : l.length = 1) : Lib.contains SG l = isSG l := by
  match l, h with
  | [b], _ => rw [contains_one]; simp [isSG]
theorem split_f (s : ByteArray) (hs : s.size < 4294967281) : ∃ t, strings_Split.f s (⟨#[46]⟩ : ByteArray) = some t ∧ t.map (·.data.toList) = splitC 46 s.data.toList := by
  unfold strings_Split.f
  rw [if_pos hs, if_pos (by decide)]
  exact ⟨_, rfl, splitB_dot s 46⟩
theorem parts4 {t : List ByteArray} {s : ByteArray} (h : t.map (·.data.toList) = splitC 46 s.data.toList) (h4 : t.length = 4) :
    ∃ w0 w1 w2 w3, t = [str w0, str w1, str w2, str w3] ∧ splitC 46 s.data.toList = [w0, w1, w2, w3] ∧ s.data.toList = w0 ++ [46] ++ w1 ++ [46] ++ w2 ++ [46] ++ w3 := by
  match t, h4 with
  | [a, b, c, d], _ =>
    refine ⟨a.data.toList, b.data.toList, c.data.toList, d.data.toList, by simp only [str_of], h.symm, ?_⟩
    have := join_split 46 s.data.toList
    rw [← h] at this
    simp only [List.map_cons, List.map_nil, joinC] at this
    rw [← this]; simp
theorem ReadS_not4 {t : List ByteArray} {s : ByteArray} (h : t.map (·.data.toList) = splitC 46 s.data.toList) (h4 : ¬ t.length = 4) : ReadS s.data.toList = (str [], 0, 0, 10) := by
  unfold ReadS
  rw [← h]
  match t, h4 with
  | [], _ => rfl
  | [_], _ => rfl
  | [_, _], _ => rfl
  | [_, _, _], _ => rfl
  | [_, _, _, _], h4 => exact absurd rfl h4
  | _ :: _ :: _ :: _ :: _ :: _, _ => rfl
theorem rd4 (a b c d : ByteArray) : rdOf ByteArray.empty [a, b, c, d] 0 = a ∧ rdOf ByteArray.empty [a, b, c, d] 1 = b ∧ rdOf ByteArray.empty [a, b, c, d] 2 = c ∧ rdOf ByteArray.empty [a, b, c, d] 3 = d := ⟨rfl, rfl, rfl, rfl⟩
theorem not3 {l : List UInt8} (h : ¬ is3 l = true) : three l = (0, false) := by unfold three; rw [if_neg h]
theorem yes3 {l : List UInt8} (h : is3 l = true) : three l = ((val3 l : Int), true) := by unfold three; rw [if_pos h]
theorem SGlit : (⟨#[48, 49, 50, 51, 52, 53, 54, 55, 56, 57, 65, 66, 67, 68, 69, 70, 71, 72, 73, 74, 75, 76, 77, 78, 79, 80, 81, 82, 83, 84, 85, 86, 87, 88, 89, 90, 42]⟩ : ByteArray) = str SG := rfl
theorem contains_f (l : List UInt8) : strings_Contains.f (str SG) (str l) = some (Lib.contains SG l) := by
  unfold strings_Contains.f
  rw [if_pos (by decide), str_list, str_list]
theorem index_f (l : List UInt8) : strings_Index.f (str SG) (str l) = some (Lib.index SG l) := by
  unfold strings_Index.f
  rw [if_pos (by decide), str_list, str_list]
theorem list1 {l : List UInt8} (h : l.length = 1) : ∃ b, l = [b] := by
  match l, h with
  | [b], _ => exact ⟨b, rfl⟩
theorem Read_f (s : ByteArray) (hs : s.size ≤ 4194304) (k : Nat) (hk : s.size + 60 < k) : house_ReadSerial.f k s = some (ReadS s.data.toList) := by
  obtain ⟨t, ht, hm⟩ := split_f s (by omega)
  unfold house_ReadSerial.f
  rw [ht, Option.bind_some]
  obtain ⟨k, rfl⟩ : ∃ m, k = m + 2 := ⟨k - 2, by omega⟩
  by_cases h4 : t.length = 4
  · obtain ⟨w0, w1, w2, w3, rfl, hsp, hj⟩ := parts4 hm h4
    have hlen : s.size = w0.length + w1.length + w2.length + w3.length + 3 := by rw [size_len, hj]; simp; omega
    obtain ⟨r0, r1, r2, r3⟩ := rd4 (str w0) (str w1) (str w2) (str w3)
    have hR : ReadS s.data.toList = readL w0 w1 w2 w3 := by unfold ReadS; rw [hsp]
    rw [hR]
    rw [if_pos (by simp), if_pos (by simp), r0, isWord_f (str w0) (by rw [str_size]; omega) (k + 2) (by rw [str_size]; omega), Option.bind_some, str_list]
    have bad : house_ReadSerial.j0 (k + 2) s [str w0, str w1, str w2, str w3] true = some (str [], 0, 0, 10) := rfl
    by_cases hw : isWordL w0 = true
    · rw [if_pos hw, if_pos (by simp), r3, str_size]
      by_cases h1 : w3.length = 1
      · rw [if_pos (by omega), SGlit, contains_f, Option.bind_some, isSG_of h1]
        by_cases hS : isSG w3 = true
        · rw [hS]
          simp only [house_ReadSerial.j0, Bool.not_true, Bool.false_eq_true, if_false]
          rw [if_pos (by simp), r1, houseThree_f, Option.bind_some, if_pos (by simp), r2, houseThree_f, Option.bind_some]
          by_cases h31 : is3 w1 = true
          · rw [yes3 h31]
            by_cases h32 : is3 w2 = true
            · rw [yes3 h32]
              simp only [house_ReadSerial.j1, Bool.not_true, Bool.false_eq_true, if_false, if_true]
              obtain ⟨b, rfl⟩ := list1 h1
              have hcut : (s.extract 0 ((wrap64 ((s.size : Int) - 2)) : Int).toNat) = str (w0 ++ [46] ++ w1 ++ [46] ++ w2) := by
                apply ext
                rw [Lib.extract_from_zero, str_list, hj]
                have : (wrap64 ((s.size : Int) - 2)).toNat = (w0 ++ [46] ++ w1 ++ [46] ++ w2).length := by
                  have e : wrap64 ((s.size : Int) - 2) = (s.size : Int) - 2 := by unfold wrap64; simp at hlen; omega
                  rw [e, hlen]; simp; omega
                rw [this, List.append_assoc (w0 ++ [46] ++ w1 ++ [46] ++ w2), List.take_left']
                rfl
              have e : wrap64 ((s.size : Int) - 2) = (s.size : Int) - 2 := by unfold wrap64; simp at hlen; omega
              rw [if_pos (by simp), r3, str_size, if_pos (by simp), hcut, e, if_pos (by simp at hlen; omega), if_pos (by omega), sign_f _ (by rw [str_size]; simp at hlen ⊢; omega) k (by rw [str_size]; simp at hlen ⊢; omega), Option.bind_some, str_list]
              have hb : bt (str [b]) 0 = (b.toNat : Int) := by rw [show (0 : Int) = ((0 : Nat) : Int) from rfl, bt_nat _ 0 (by rw [str_size]; simp)]; simp [str]
              have hRd : readL w0 w1 w2 [b] = (if [b] = [sg (w0 ++ [46] ++ w1 ++ [46] ++ w2)] then (str w0, (val3 w1 : Int), (val3 w2 : Int), 0) else (str [], 0, 0, 15)) := by
                unfold readL; rw [if_pos (by simp [hw, hS, h31, h32])]
              rw [hb, hRd]
              by_cases hg : b = sg (w0 ++ [46] ++ w1 ++ [46] ++ w2)
              · rw [if_pos (show (b.toNat : Int) = ((sg (w0 ++ [46] ++ w1 ++ [46] ++ w2)).toNat : Int) by rw [← hg]), if_pos (show [b] = [sg (w0 ++ [46] ++ w1 ++ [46] ++ w2)] by rw [← hg]), if_pos (by simp), r0]
              · rw [if_neg (show ¬ (b.toNat : Int) = ((sg (w0 ++ [46] ++ w1 ++ [46] ++ w2)).toNat : Int) from fun e => hg (UInt8.toNat_inj.1 (by omega))), if_neg (show ¬ [b] = [sg (w0 ++ [46] ++ w1 ++ [46] ++ w2)] from fun e => hg (List.cons.inj e).1)]
                rfl
            · rw [not3 h32]
              simp only [house_ReadSerial.j1, Bool.not_false, if_true]
              unfold readL; rw [if_neg (by simp [h32])]; rfl
          · rw [not3 h31]
            simp only [Bool.false_eq_true, if_false, house_ReadSerial.j1, if_true]
            unfold readL; rw [if_neg (by simp [h31])]; rfl
        · have hS' : isSG w3 = false := by simpa using hS
          rw [hS']
          unfold readL; rw [if_neg (by simp [hS'])]; rfl
      · rw [if_neg (by omega), bad]
        have hS' : isSG w3 = false := by unfold isSG; simp [h1]
        unfold readL; rw [if_neg (by simp [hS'])]
    · rw [if_neg hw, bad]
      unfold readL; rw [if_neg (by simp [hw])]
  · rw [if_neg (by omega), ReadS_not4 hm h4]; rfl
theorem Read12_f (s : ByteArray) (hs : s.size ≤ 4194304) (k : Nat) (hk : s.size + 60 < k) : etchhouseref12_ReadSerial.f k s = some (ReadS s.data.toList) := by
  obtain ⟨t, ht, hm⟩ := split_f s (by omega)
  unfold etchhouseref12_ReadSerial.f
  rw [ht, Option.bind_some]
  obtain ⟨k, rfl⟩ : ∃ m, k = m + 2 := ⟨k - 2, by omega⟩
  by_cases h4 : t.length = 4
  · obtain ⟨w0, w1, w2, w3, rfl, hsp, hj⟩ := parts4 hm h4
    have hlen : s.size = w0.length + w1.length + w2.length + w3.length + 3 := by rw [size_len, hj]; simp; omega
    obtain ⟨r0, r1, r2, r3⟩ := rd4 (str w0) (str w1) (str w2) (str w3)
    have hR : ReadS s.data.toList = readL w0 w1 w2 w3 := by unfold ReadS; rw [hsp]
    rw [hR]
    rw [if_pos (by simp), if_pos (by simp), r0, isWord5_f (str w0) (by rw [str_size]; omega) (k + 2) (by rw [str_size]; omega), Option.bind_some, str_list]
    have bad : etchhouseref12_ReadSerial.j0 (k + 2) [str w0, str w1, str w2, str w3] true = some (str [], 0, 0, 10) := rfl
    by_cases hw : isWordL w0 = true
    · rw [if_pos hw, if_pos (by simp), r3, str_size]
      by_cases h1 : w3.length = 1
      · rw [if_pos (by omega), SGlit, index_f, Option.bind_some]
        have hix : decide (Lib.index SG w3 < 0) = !isSG w3 := by
          rw [← isSG_of h1]; unfold Lib.contains; rw [Bool.eq_iff_iff]; simp
        rw [hix]
        by_cases hS : isSG w3 = true
        · rw [hS]
          simp only [etchhouseref12_ReadSerial.j0, Bool.not_true, Bool.false_eq_true, if_false]
          rw [if_pos (by simp), r1, refDigits_f _ (k + 1) (by omega), Option.bind_some, if_pos (by simp), r2, refDigits_f _ (k + 1) (by omega), Option.bind_some]
          by_cases h31 : is3 w1 = true
          · rw [yes3 h31]
            by_cases h32 : is3 w2 = true
            · rw [yes3 h32]
              simp only [etchhouseref12_ReadSerial.j1, Bool.not_true, Bool.false_eq_true, if_false, if_true]
              obtain ⟨b, rfl⟩ := list1 h1
              simp only [r0, r1, r2, r3, dot_str, str_append, str_size]
              simp only [List.length_append, List.length_cons, List.length_nil] at hlen ⊢
              rw [if_pos (by simp), if_pos (by omega), if_pos (by simp), if_pos (by omega), if_pos (by omega), if_pos (by simp), if_pos (by omega),
                sign12_f _ (by rw [str_size]; simp; omega) k (by rw [str_size]; simp; omega), Option.bind_some, if_pos (by simp), str_list, toList_eq, toList_eq, str_list, str_list]
              have hRd : readL w0 w1 w2 [b] = (if [b] = [sg (w0 ++ [46] ++ w1 ++ [46] ++ w2)] then (str w0, (val3 w1 : Int), (val3 w2 : Int), 0) else (str [], 0, 0, 15)) := by
                unfold readL; rw [if_pos (by simp [hw, hS, h31, h32])]
              rw [hRd]
              by_cases hg : b = sg (w0 ++ [46] ++ w1 ++ [46] ++ w2)
              · rw [if_pos (show [sg (w0 ++ [46] ++ w1 ++ [46] ++ w2)] = [b] by rw [← hg]), if_pos (show [b] = [sg (w0 ++ [46] ++ w1 ++ [46] ++ w2)] by rw [← hg])]
              · rw [if_neg (show ¬ [sg (w0 ++ [46] ++ w1 ++ [46] ++ w2)] = [b] from fun e => hg (List.cons.inj e).1.symm), if_neg (show ¬ [b] = [sg (w0 ++ [46] ++ w1 ++ [46] ++ w2)] from fun e => hg (List.cons.inj e).1)]
                rfl
            · rw [not3 h32]
              simp only [etchhouseref12_ReadSerial.j1, Bool.not_false, if_true]
              unfold readL; rw [if_neg (by simp [h32])]; rfl
          · rw [not3 h31]
            simp only [Bool.false_eq_true, if_false, etchhouseref12_ReadSerial.j1, if_true]
            unfold readL; rw [if_neg (by simp [h31])]; rfl
        · have hS' : isSG w3 = false := by simpa using hS
          rw [hS']
          unfold readL; rw [if_neg (by simp [hS'])]; rfl
      · rw [if_neg (by omega), bad]
        have hS' : isSG w3 = false := by unfold isSG; simp [h1]
        unfold readL; rw [if_neg (by simp [hS'])]
    · rw [if_neg hw, bad]
      unfold readL; rw [if_neg (by simp [hw])]
  · rw [if_neg (by omega), ReadS_not4 hm h4]; rfl
end Go.Proofs.YthfejpgofcbamaaDoor.Plain
