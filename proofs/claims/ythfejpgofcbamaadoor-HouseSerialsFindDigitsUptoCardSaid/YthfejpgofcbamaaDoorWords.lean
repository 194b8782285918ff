/- The words of chapter 2, as the program and the reference ask for them, are the same plain function. -/
import Derived.Test.YthfejpgofcbamaaDoorBytes
import Derived.Test.YthfejpgofcbamaaDoorPAx1
import Derived.Test.YthfejpgofcbamaaDoorPAx2
namespace Go.Proofs.YthfejpgofcbamaaDoor.Plain
open Go.RowKit Go.Proofs.YthfejpgofcbamaaDoor.PA Go.Proofs.YthfejpgofcbamaaDoorW.PrintWords Go.Proofs.YthfejpgofcbamaaDoorW.PrintLast Go.Proofs.YthfejpgofcbamaaDoor.Bytes
set_option linter.unusedVariables false
set_option linter.unusedSimpArgs false

theorem idx_some (c : Int) : strings_IndexByte.f (⟨#[95, 43, 45, 35]⟩ : ByteArray) c = some (Lib.indexByte [95, 43, 45, 35] c.toNat.toUInt8) := rfl
theorem isWordL_end (s : ByteArray) (i : Nat) (h : s.size ≤ i) (b : Bool) : (allW (s.data.toList.drop i) && b) = b := by rw [allW_end s i h, Bool.true_and]
theorem isWord_l0 (s : ByteArray) (hs : s.size < 9223372036854775807) : ∀ (d i k : Nat), i + d = s.size → d < k →
    netlist_IsWord.l0 k s (s.size : Int) (i : Int) = some (allW (s.data.toList.drop i) && (decide (1 ≤ s.size) && decide (s.size ≤ 40))) := by
  intro d
  induction d with
  | zero =>
    intro i k hi hk
    obtain ⟨k, rfl⟩ : ∃ m, k = m + 1 := ⟨k - 1, by omega⟩
    simp only [netlist_IsWord.l0]
    rw [if_neg (show ¬ ((i : Int) < (s.size : Int)) by omega), allW_end s i (by omega)]
    by_cases h1 : (s.size : Int) ≥ 1
    · rw [if_pos h1]; have h2 : 1 ≤ s.size := by omega
      simp only [h2, decide_true, Bool.true_and]; congr 1; simp; omega
    · rw [if_neg h1]; simp only [Bool.true_and, Option.some.injEq, Bool.false_eq, Bool.and_eq_false_imp, decide_eq_true_eq]; omega
  | succ d ih =>
    intro i k hi hk
    obtain ⟨k, rfl⟩ : ∃ m, k = m + 1 := ⟨k - 1, by omega⟩
    have hlt : i < s.size := by omega
    have ih' := ih (i + 1) k (by omega) (by omega)
    rw [allW_step s i hlt]
    simp only [netlist_IsWord.l0, idx_some, Option.bind_some, wrapN (show i < 9223372036854775807 by omega), ih']
    rw [if_pos (show (i : Int) < (s.size : Int) by omega), if_pos (show (0 : Int) ≤ (i : Int) by omega)]
    generalize bt s (i : Int) = c
    unfold wordB
    generalize Lib.indexByte [95, 43, 45, 35] c.toNat.toUInt8 = j
    generalize allW (s.data.toList.drop (i + 1)) = t
    repeat' split
    all_goals simp_all
    all_goals omega
theorem isWord_f (s : ByteArray) (hs : s.size < 9223372036854775807) (k : Nat) (hk : s.size < k) : netlist_IsWord.f k s = some (isWordL s.data.toList) := by
  have h := isWord_l0 s hs s.size 0 k (by omega) hk
  rw [List.drop_zero, size_len s] at h
  unfold netlist_IsWord.f isWordL
  rw [size_len s]
  exact h
theorem isWord5_l0 (s : ByteArray) (hs : s.size < 9223372036854775807) : ∀ (d i k : Nat), i + d = s.size → d + 1 < k →
    etchhouseref5_IsWord.l0 k s (i : Int) = some (allW (s.data.toList.drop i) && (decide (1 ≤ s.size) && decide (s.size ≤ 40))) := by
  intro d
  induction d with
  | zero =>
    intro i k hi hk
    obtain ⟨k, rfl⟩ : ∃ m, k = m + 2 := ⟨k - 2, by omega⟩
    simp only [etchhouseref5_IsWord.l0, etchhouseref5_within.f]
    rw [if_neg (show ¬ ((i : Int) < (s.size : Int)) by omega), allW_end s i (by omega)]
    by_cases h1 : (s.size : Int) ≥ 1
    · rw [if_pos h1]; have h2 : 1 ≤ s.size := by omega
      simp only [h2, decide_true, Bool.true_and, Option.bind_some]; congr 1; simp; omega
    · rw [if_neg h1]; simp only [Bool.true_and, Option.bind_some, Option.some.injEq, Bool.false_eq, Bool.and_eq_false_imp, decide_eq_true_eq]; omega
  | succ d ih =>
    intro i k hi hk
    obtain ⟨k, rfl⟩ : ∃ m, k = m + 1 := ⟨k - 1, by omega⟩
    have hlt : i < s.size := by omega
    have ih' := ih (i + 1) k (by omega) (by omega)
    rw [allW_step s i hlt]
    simp only [etchhouseref5_IsWord.l0, idx_some, Option.bind_some, wrapN (show i < 9223372036854775807 by omega), ih']
    rw [if_pos (show (i : Int) < (s.size : Int) by omega), if_pos (show (0 : Int) ≤ (i : Int) by omega)]
    generalize bt s (i : Int) = c
    unfold wordB
    generalize Lib.indexByte [95, 43, 45, 35] c.toNat.toUInt8 = j
    generalize allW (s.data.toList.drop (i + 1)) = t
    repeat' split
    all_goals simp_all
    all_goals omega
theorem isWord5_f (s : ByteArray) (hs : s.size < 9223372036854775807) (k : Nat) (hk : s.size + 1 < k) : etchhouseref5_IsWord.f k s = some (isWordL s.data.toList) := by
  have h := isWord5_l0 s hs s.size 0 k (by omega) hk
  rw [List.drop_zero, size_len s] at h
  unfold etchhouseref5_IsWord.f isWordL
  exact h
end Go.Proofs.YthfejpgofcbamaaDoor.Plain
