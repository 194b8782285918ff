/- The three statements about serial numbers, over the plain functions. -/
import Derived.Test.YthfejpgofcbamaaDoorSerials2
import Derived.Test.YthfejpgofcbamaaDoorPAx5
import Derived.Test.YthfejpgofcbamaaDoorPAx5
import Derived.Test.YthfejpgofcbamaaDoorPAx6
namespace Go.Proofs.YthfejpgofcbamaaDoor.Plain
open Go.RowKit Go.Proofs.YthfejpgofcbamaaDoor.PA Go.Proofs.YthfejpgofcbamaaDoorW.PrintWords Go.Proofs.YthfejpgofcbamaaDoorW.PrintLast Go.Proofs.YthfejpgofcbamaaDoor.Bytes
set_option linter.unusedVariables false
set_option linter.unusedSimpArgs false

theorem reads_f (k : Nat) (hk : 100 < k) : etchhouselaw12_reads.f k = some true := by
  unfold etchhouselaw12_reads.f
  rw [Read_f _ (by decide) k (by show 11 + 60 < k; omega), Option.bind_some, Serial_f _ 1 2 (by decide) k (by show 1 + 60 < k; omega), Option.bind_some]
  decide +kernel

/-- 1 -/
theorem matchSpec (lot : ByteArray) (p s : Int) (text : ByteArray) (h1 : lot.size ≤ 4194304) (h2 : text.size ≤ 4194304) :
    ∃ k, etchhouselaw12_HouseSerialsMatchSpec.f k lot p s text = some true := by
  refine ⟨lot.size + text.size + 101, ?_⟩
  unfold etchhouselaw12_HouseSerialsMatchSpec.f
  rw [Serial_f lot p s (by omega) _ (by omega), Serial12_f lot p s (by omega) _ (by omega), Read_f text h2 _ (by omega), Read12_f text h2 _ (by omega), reads_f _ (by omega)]
  simp

theorem no_dot {l : List UInt8} (h : isWordL l = true) : (46 : UInt8) ∉ l := by
  intro hm
  unfold isWordL allW at h
  simp only [Bool.and_eq_true, List.all_eq_true] at h
  have := h.1 46 hm
  exact absurd this (by decide)
theorem no_dot3 (n : Nat) : (46 : UInt8) ∉ dig3 n := by
  intro hm
  have h : ∀ b ∈ dig3 n, isDg b = true := by
    intro b hb
    simp only [dig3, List.mem_cons, List.mem_nil_iff, or_false] at hb
    rcases hb with rfl | rfl | rfl <;> exact dg_is _
  exact absurd (h 46 hm) (by decide)
theorem no_dot_is3 {l : List UInt8} (h : is3 l = true) : (46 : UInt8) ∉ l := by
  intro hm
  simp only [is3, Bool.and_eq_true, List.all_eq_true] at h
  exact absurd (h.2 46 hm) (by decide)
theorem is3_dig3 (n : Nat) : is3 (dig3 n) = true := by simp [is3, dig3, dg_is]
theorem isSG_sg {g : UInt8} (h : g ∈ SG) : isSG [g] = true := by simp [isSG, h]
theorem split4 {lot w1 w2 : List UInt8} {g : UInt8} (h0 : (46 : UInt8) ∉ lot) (h1 : (46 : UInt8) ∉ w1) (h2 : (46 : UInt8) ∉ w2) (hg : (46 : UInt8) ≠ g) :
    splitC 46 (lot ++ [46] ++ w1 ++ [46] ++ w2 ++ [46] ++ [g]) = [lot, w1, w2, [g]] := by
  have e : lot ++ [46] ++ w1 ++ [46] ++ w2 ++ [46] ++ [g] = lot ++ 46 :: (w1 ++ 46 :: (w2 ++ 46 :: [g])) := by simp
  rw [e, split_at _ _ _ h0, split_at _ _ _ h1, split_at _ _ _ h2, split_no _ _ (by simpa using hg)]
theorem ReadS_four {lot w1 w2 : List UInt8} {g : UInt8} (hw : isWordL lot = true) (h1 : is3 w1 = true) (h2 : is3 w2 = true) (hg : g ∈ SG) :
    ReadS (lot ++ [46] ++ w1 ++ [46] ++ w2 ++ [46] ++ [g]) = (if [g] = [sg (lot ++ [46] ++ w1 ++ [46] ++ w2)] then (str lot, (val3 w1 : Int), (val3 w2 : Int), 0) else (str [], 0, 0, 15)) := by
  unfold ReadS
  rw [split4 (no_dot hw) (no_dot_is3 h1) (no_dot_is3 h2) (fun e => by rw [← e] at hg; exact absurd hg (by decide))]
  simp only [readL]
  rw [if_pos (by simp [hw, h1, h2, isSG_sg hg])]
theorem ReadS_serial {lot : List UInt8} {p s : Nat} (hw : isWordL lot = true) (hp : p ≤ 999) (hs : s ≤ 999) :
    ReadS (serialL lot p s) = (str lot, (p : Int), (s : Int), 0) := by
  unfold serialL front
  rw [ReadS_four hw (is3_dig3 p) (is3_dig3 s) (sg_mem _), if_pos rfl, val_dig3 p hp, val_dig3 s hs]
theorem SerialS_ok {lot : ByteArray} {p s : Int} (h : (SerialS lot p s).2 = 0) : isWordL lot.data.toList = true ∧ ∃ a b : Nat, p = a ∧ s = b ∧ a ≤ 999 ∧ b ≤ 999 ∧ SerialS lot p s = (str (serialL lot.data.toList a b), 0) := by
  unfold SerialS at h ⊢
  by_cases hw : isWordL lot.data.toList = true
  · rw [if_pos hw] at h ⊢
    by_cases hr : (inR p && inR s) = true
    · rw [if_pos hr]
      have hr2 := hr
      simp only [inR, Bool.and_eq_true, decide_eq_true_eq] at hr
      exact ⟨hw, p.toNat, s.toNat, by omega, by omega, by omega, by omega, rfl⟩
    · rw [if_neg hr] at h; simp at h
  · rw [if_neg hw] at h; simp at h
theorem ReadS_ok {text : List UInt8} (h : (ReadS text).2.2.2 = 0) : ∃ (lot : List UInt8) (a b : Nat), ReadS text = (str lot, (a : Int), (b : Int), 0) ∧ isWordL lot = true ∧ a ≤ 999 ∧ b ≤ 999 ∧ serialL lot a b = text := by
  have hj := join_split 46 text
  unfold ReadS at h ⊢
  split at h
  · rename_i w0 w1 w2 w3 hs
    rw [hs] at hj
    simp only [joinC] at hj
    unfold readL at h ⊢
    by_cases hc : (isWordL w0 && isSG w3 && is3 w1 && is3 w2) = true
    · rw [if_pos hc] at h ⊢
      by_cases hg : w3 = [sg (w0 ++ [46] ++ w1 ++ [46] ++ w2)]
      · rw [if_pos hg]
        simp only [Bool.and_eq_true] at hc
        obtain ⟨⟨⟨hw, hS⟩, h1⟩, h2⟩ := hc
        obtain ⟨a, b, c, rfl, ha, hb, hcc⟩ := is3_parts h1
        obtain ⟨d, e, f, rfl, hd, he, hf⟩ := is3_parts h2
        refine ⟨w0, _, _, rfl, hw, val3_le a b c ha hb hcc, val3_le d e f hd he hf, ?_⟩
        unfold serialL front
        rw [dig3_val a b c ha hb hcc, dig3_val d e f hd he hf, ← hj, hg]
        simp
      · rw [if_neg hg] at h; simp at h
    · rw [if_neg hc] at h; simp at h
  · simp at h
theorem ReadS_bad {text : List UInt8} (h : ¬ (ReadS text).2.2.2 = 0) : (ReadS text).1 = str [] ∧ (ReadS text).2.1 = 0 ∧ (ReadS text).2.2.1 = 0 := by
  unfold ReadS at h ⊢
  split at h
  · rename_i w0 w1 w2 w3 hs
    unfold readL at h ⊢
    by_cases hc : (isWordL w0 && isSG w3 && is3 w1 && is3 w2) = true
    · rw [if_pos hc] at h ⊢
      by_cases hg : w3 = [sg (w0 ++ [46] ++ w1 ++ [46] ++ w2)]
      · rw [if_pos hg] at h; exact absurd rfl h
      · rw [if_neg hg]; exact ⟨rfl, rfl, rfl⟩
    · rw [if_neg hc]; exact ⟨rfl, rfl, rfl⟩
  · exact ⟨rfl, rfl, rfl⟩
theorem readS_size {text : List UInt8} (h : (ReadS text).2.2.2 = 0) : (ReadS text).1.size ≤ 40 := by
  obtain ⟨lot, a, b, e, hw, _⟩ := ReadS_ok h
  rw [e]; show (str lot).size ≤ 40
  rw [str_size]; exact isWord_len hw
theorem serial_size {lot : List UInt8} {p s : Nat} (hw : isWordL lot = true) : (str (serialL lot p s)).size ≤ 50 := by
  rw [str_size]; unfold serialL; have := front_len lot p s; have := isWord_len hw; simp; omega

theorem back_f (text : ByteArray) (h2 : text.size ≤ 4194304) (k : Nat) (hk : text.size + 101 < k) : etchhouselaw12_HouseSerialsComeBack.j0 (k + 1) text = some true := by
  simp only [etchhouselaw12_HouseSerialsComeBack.j0]
  rw [Read_f text h2 k (by omega), Option.bind_some]
  by_cases h : (ReadS text.data.toList).2.2.2 = 0
  · rw [if_pos h, Serial_f _ _ _ (by have := readS_size h; omega) k (by have := readS_size h; omega), Option.bind_some]
    obtain ⟨lot, a, b, e, hw, ha, hb, hs⟩ := ReadS_ok h
    rw [e]
    have hS : SerialS (str lot) (a : Int) (b : Int) = (str (serialL lot a b), 0) := by
      unfold SerialS
      rw [str_list, if_pos hw, if_pos (by simp [inR]; omega)]
      simp
    rw [hS, hs, str_of]
    simp only [reads_f k (by omega), Option.bind_some, if_true]
  · rw [if_neg h]
    obtain ⟨e1, e2, e3⟩ := ReadS_bad h
    rw [e1, e2, e3, toList_eq, str_list]
    simp [reads_f k (by omega)]
/-- 2 -/
theorem comeBack (lot : ByteArray) (p s : Int) (text : ByteArray) (h1 : lot.size ≤ 4194304) (h2 : text.size ≤ 4194304) :
    ∃ k, etchhouselaw12_HouseSerialsComeBack.f k lot p s text = some true := by
  refine ⟨lot.size + text.size + 201 + 1, ?_⟩
  unfold etchhouselaw12_HouseSerialsComeBack.f
  rw [Serial_f lot p s (by omega) _ (by omega), Option.bind_some]
  by_cases h : (SerialS lot p s).2 = 0
  · rw [if_pos h]
    obtain ⟨hw, a, b, rfl, rfl, ha, hb, e⟩ := SerialS_ok h
    rw [e]
    dsimp only
    have hz := serial_size (p := a) (s := b) hw
    rw [Read_f _ (by omega) _ (by omega), Option.bind_some, str_list, ReadS_serial hw ha hb]
    simp only [str_of, if_true]
    exact back_f text h2 _ (by omega)
  · rw [if_neg h]
    exact back_f text h2 _ (by omega)

theorem sumF_append : ∀ (a b : List UInt8) (i : Nat), sumF (a ++ b) i = sumF a i + sumF b (i + a.length)
  | [], b, i => by simp [sumF]
  | x :: a, b, i => by
    rw [List.cons_append, sumF, sumF, sumF_append a b (i + 1), List.length_cons]
    rw [show i + 1 + a.length = i + (a.length + 1) by omega]; omega
theorem SG_inj : ∀ i j : Fin 37, SG.getD i.val 0 = SG.getD j.val 0 → i = j := by decide +kernel
theorem digit_diff : ∀ n : Fin 37, ∀ d : Fin 10, 1 ≤ n.val → 1 ≤ d.val → (n.val * d.val) % 37 ≠ 0 := by decide +kernel
theorem sg_change (A B : List UInt8) (x y : UInt8) (hx : isDg x = true) (hy : isDg y = true) (hne : x ≠ y) (hA : A.length < 36) : sg (A ++ x :: B) ≠ sg (A ++ y :: B) := by
  intro e
  unfold sg at e
  have e2 := congrArg Fin.val (SG_inj ⟨_, Nat.mod_lt _ (by decide)⟩ ⟨_, Nat.mod_lt _ (by decide)⟩ e)
  simp only [sumF_append, sumF] at e2
  simp only [isDg, Bool.and_eq_true, decide_eq_true_eq] at hx hy
  have hn : x.toNat ≠ y.toNat := fun h => hne (UInt8.toNat_inj.1 h)
  generalize sumF A 1 = s1 at e2
  generalize sumF B (1 + A.length + 1) = s2 at e2
  have hm : ∀ u v : Nat, u < v → v ≤ u + 9 → (s1 + ((1 + A.length) * u + s2)) % 37 ≠ (s1 + ((1 + A.length) * v + s2)) % 37 := by
    intro u v h1 h2 e
    have hd := digit_diff ⟨1 + A.length, by omega⟩ ⟨v - u, by omega⟩ (by simp) (by simp; omega)
    apply hd
    show ((1 + A.length) * (v - u)) % 37 = 0
    have e3 : (1 + A.length) * v = (1 + A.length) * u + (1 + A.length) * (v - u) := by rw [← Nat.mul_add]; congr 1; omega
    rw [e3] at e
    generalize (1 + A.length) * (v - u) = z at *
    generalize (1 + A.length) * u = q at *
    omega
  rcases Nat.lt_or_gt_of_ne hn with h | h
  · exact hm _ _ h (by omega) e2
  · exact hm _ _ h (by omega) e2.symm
theorem dig3_parts (n : Nat) : ∃ a b c, dig3 n = [a, b, c] ∧ isDg a = true ∧ isDg b = true ∧ isDg c = true := ⟨_, _, _, rfl, dg_is _, dg_is _, dg_is _⟩
theorem is3_mk {a b c : UInt8} (ha : isDg a = true) (hb : isDg b = true) (hc : isDg c = true) : is3 [a, b, c] = true := by simp [is3, ha, hb, hc]
/-- one digit of the panel or the slot is another one: damaged -/
theorem damaged {lot : List UInt8} {p s : Nat} (hw : isWordL lot = true) (y : UInt8) (hy : isDg y = true) (j : Nat) (hj : j ≤ 6) (h3 : j ≠ 3) (h36 : lot.length + 1 + j < 36)
    (hne : (serialL lot p s)[lot.length + 1 + j]? ≠ some y) :
    (ReadS ((serialL lot p s).take (lot.length + 1 + j) ++ [y] ++ (serialL lot p s).drop (lot.length + 1 + j + 1))).2.2.2 = 15 := by
  have key : ∀ w1 w2 : List UInt8, is3 w1 = true → is3 w2 = true → sg (lot ++ [46] ++ w1 ++ [46] ++ w2) ≠ sg (front lot p s) →
      (serialL lot p s).take (lot.length + 1 + j) ++ [y] ++ (serialL lot p s).drop (lot.length + 1 + j + 1) = lot ++ [46] ++ w1 ++ [46] ++ w2 ++ [46] ++ [sg (front lot p s)] →
      (ReadS ((serialL lot p s).take (lot.length + 1 + j) ++ [y] ++ (serialL lot p s).drop (lot.length + 1 + j + 1))).2.2.2 = 15 := by
    intro w1 w2 h1 h2 hd e
    rw [e, ReadS_four hw h1 h2 (sg_mem _), if_neg (fun e2 => hd (List.cons.inj e2).1.symm)]
  obtain ⟨a, b, c, e1, ha, hb, hc⟩ := dig3_parts p
  obtain ⟨d, f, g, e2, hd, hf, hg⟩ := dig3_parts s
  have hF : front lot p s = lot ++ [46, a, b, c, 46, d, f, g] := by rw [front, e1, e2]; simp
  have hL : serialL lot p s = lot ++ [46, a, b, c, 46, d, f, g, 46, sg (front lot p s)] := by
    show front lot p s ++ [46] ++ [sg (front lot p s)] = _
    generalize sg (front lot p s) = G
    rw [hF]; simp
  generalize hG : sg (front lot p s) = G at *
  have ht : (serialL lot p s).take (lot.length + 1 + j) = lot ++ [46, a, b, c, 46, d, f, g, 46, G].take (1 + j) := by
    rw [hL, Nat.add_assoc, List.take_append, List.take_of_length_le (by omega)]; simp
  have hdr : (serialL lot p s).drop (lot.length + 1 + j + 1) = [46, a, b, c, 46, d, f, g, 46, G].drop (1 + j + 1) := by
    rw [hL, show lot.length + 1 + j + 1 = lot.length + (1 + j + 1) by omega, List.drop_append]; simp
  have hat : (serialL lot p s)[lot.length + 1 + j]? = [46, a, b, c, 46, d, f, g, 46, G][1 + j]? := by
    rw [hL, show lot.length + 1 + j = lot.length + (1 + j) by omega, List.getElem?_append_right (by omega)]; simp
  rw [hat] at hne
  rw [← hG, hF] at key
  rw [ht, hdr] at key ⊢
  have sgc : ∀ (A B : List UInt8) (x : UInt8), isDg x = true → A.length < 36 → x ≠ y → sg (A ++ y :: B) ≠ sg (A ++ x :: B) := fun A B x hx hA hn => sg_change A B y x hy hx (Ne.symm hn) hA
  have hc7 : j = 0 ∨ j = 1 ∨ j = 2 ∨ j = 4 ∨ j = 5 ∨ j = 6 := by omega
  rcases hc7 with rfl | rfl | rfl | rfl | rfl | rfl
  · exact key [y, b, c] [d, f, g] (is3_mk hy hb hc) (is3_mk hd hf hg) (by have := sgc (lot ++ [46]) [b, c, 46, d, f, g] a ha (by simp; omega) (by simpa using hne); simpa using this) (by rw [← hG, hF]; simp)
  · exact key [a, y, c] [d, f, g] (is3_mk ha hy hc) (is3_mk hd hf hg) (by have := sgc (lot ++ [46, a]) [c, 46, d, f, g] b hb (by simp; omega) (by simpa using hne); simpa using this) (by rw [← hG, hF]; simp)
  · exact key [a, b, y] [d, f, g] (is3_mk ha hb hy) (is3_mk hd hf hg) (by have := sgc (lot ++ [46, a, b]) [46, d, f, g] c hc (by simp; omega) (by simpa using hne); simpa using this) (by rw [← hG, hF]; simp)
  · exact key [a, b, c] [y, f, g] (is3_mk ha hb hc) (is3_mk hy hf hg) (by have := sgc (lot ++ [46, a, b, c, 46]) [f, g] d hd (by simp; omega) (by simpa using hne); simpa using this) (by rw [← hG, hF]; simp)
  · exact key [a, b, c] [d, y, g] (is3_mk ha hb hc) (is3_mk hd hy hg) (by have := sgc (lot ++ [46, a, b, c, 46, d]) [g] f hf (by simp; omega) (by simpa using hne); simpa using this) (by rw [← hG, hF]; simp)
  · exact key [a, b, c] [d, f, y] (is3_mk ha hb hc) (is3_mk hd hf hy) (by have := sgc (lot ++ [46, a, b, c, 46, d, f]) [] g hg (by simp; omega) (by simpa using hne); simpa using this) (by rw [← hG, hF]; simp)

/-- 3 -/
theorem findDigits (lot : ByteArray) (p s at_ d : Int) (h1 : lot.size ≤ 4194304) (hd : (Lit.int .u8 d).wf = true) :
    ∃ k, etchhouselaw12_HouseSerialsFindDigits.f k lot p s at_ d = some true := by
  have hdd : 0 ≤ d ∧ d ≤ 255 := by simpa [Lit.wf, IntKind.min, IntKind.max, IntKind.signed, IntKind.bits] using hd
  refine ⟨lot.size + 301 + 1, ?_⟩
  unfold etchhouselaw12_HouseSerialsFindDigits.f
  rw [Serial_f lot p s (by omega) _ (by omega), Option.bind_some]
  have fine : ∀ (x : ByteArray) (f : Int), (f = 0 ∨ x = str []) → etchhouselaw12_HouseSerialsFindDigits.j0 (lot.size + 301 + 1) at_ d x f true = some true := by
    intro x f h
    simp only [etchhouselaw12_HouseSerialsFindDigits.j0, if_true]
    by_cases hf : f = 0
    · rw [if_pos hf, reads_f _ (by omega)]; rfl
    · rw [if_neg hf]
      rcases h with h | h
      · exact absurd h hf
      · rw [if_pos (by rw [h, toList_eq, str_list]), reads_f _ (by omega)]; rfl
  by_cases h : (SerialS lot p s).2 = 0
  · rw [if_pos h]
    have fz := fine (SerialS lot p s).1 (SerialS lot p s).2 (.inl h)
    obtain ⟨hw, a, b, rfl, rfl, ha, hb, e⟩ := SerialS_ok h
    rw [e] at fz ⊢
    simp only at fz ⊢
    have h40 := isWord_len hw
    rw [← size_len] at h40
    have w1 : wrap64 ((lot.size : Int) + 1) = ((lot.size + 1 : Nat) : Int) := wrapN (by omega)
    have w6 : wrap64 (((lot.size + 1 : Nat) : Int) + 6) = (lot.size : Int) + 7 := by unfold wrap64; omega
    have w3 : wrap64 (((lot.size + 1 : Nat) : Int) + 3) = (lot.size : Int) + 4 := by unfold wrap64; omega
    rw [w1, w6, w3]
    by_cases c1 : d < 48
    · rw [if_pos c1]; exact fz
    rw [if_neg c1]
    by_cases c2 : d > 57
    · rw [if_pos c2]; exact fz
    rw [if_neg c2]
    by_cases c3 : at_ < ((lot.size + 1 : Nat) : Int)
    · rw [if_pos c3]; exact fz
    rw [if_neg c3]
    by_cases c4 : at_ > (lot.size : Int) + 7
    · rw [if_pos c4]; exact fz
    rw [if_neg c4]
    by_cases c5 : at_ = (lot.size : Int) + 4
    · rw [if_pos c5]; exact fz
    rw [if_neg c5]
    by_cases c6 : at_ ≥ 36
    · rw [if_pos c6]; exact fz
    rw [if_neg c6]
    obtain ⟨j, rfl⟩ : ∃ j : Nat, at_ = ((lot.size + 1 + j : Nat) : Int) := ⟨(at_ - (lot.size + 1 : Nat)).toNat, by omega⟩
    have hsz : (str (serialL lot.data.toList a b)).size = lot.size + 10 := by
      rw [str_size]; unfold serialL; rw [List.length_append, List.length_append, front_len, size_len]; rfl
    rw [hsz, if_pos (by omega), if_pos (by omega)]
    by_cases c7 : (bt (str (serialL lot.data.toList a b)) ((lot.size + 1 + j : Nat) : Int) == d) = true
    · rw [c7]; exact fz
    · have c7' : (bt (str (serialL lot.data.toList a b)) ((lot.size + 1 + j : Nat) : Int) == d) = false := by simpa using c7
      rw [c7']
      simp only [etchhouselaw12_HouseSerialsFindDigits.j0, Bool.false_eq_true, if_false]
      have hw2 : wrap32 d = d := by unfold wrap32; omega
      have hd2 : d = ((UInt8.ofNat d.toNat).toNat : Int) := by simp; omega
      generalize hyy : UInt8.ofNat d.toNat = y at hd2
      have hdg : isDg y = true := by unfold isDg; simp; omega
      have henc : Utf8.encode d = str [y] := by rw [hd2]; exact encode_small y (by omega)
      rw [hw2, henc]
      have hwn : wrap64 (((lot.size + 1 + j : Nat) : Int) + 1) = ((lot.size + 1 + j + 1 : Nat) : Int) := wrapN (by omega)
      rw [hwn, hsz]
      have x1 : (str (serialL lot.data.toList a b)).extract 0 (((lot.size + 1 + j : Nat) : Int)).toNat = str ((serialL lot.data.toList a b).take (lot.size + 1 + j)) := by
        apply ext; rw [Int.toNat_natCast, Lib.extract_from_zero, str_list, str_list]
      have x2 : (str (serialL lot.data.toList a b)).extract (((lot.size + 1 + j + 1 : Nat) : Int)).toNat (lot.size + 10) = str ((serialL lot.data.toList a b).drop (lot.size + 1 + j + 1)) := by
        rw [← hsz]; apply ext; rw [Int.toNat_natCast, Lib.extract_to_end, str_list, str_list]
      rw [x1, x2]
      clear w1 w6 w3 hwn hw2 c7'
      generalize hT : (serialL lot.data.toList a b).take (lot.size + 1 + j) = T
      generalize hD : (serialL lot.data.toList a b).drop (lot.size + 1 + j + 1) = D
      rw [str_append, str_append, str_size, str_size, str_size, str_size]
      have hlen : (serialL lot.data.toList a b).length = lot.size + 10 := by rw [← str_size, hsz]
      have t1 : T.length = lot.size + 1 + j := by have h := congrArg List.length hT; rewrite [List.length_take] at h; omega
      have t2 : D.length = lot.size + 10 - (lot.size + 1 + j + 1) := by have h := congrArg List.length hD; rewrite [List.length_drop] at h; omega
      have t3 : ([y] : List UInt8).length = 1 := rfl
      rw [List.length_append, t1, t2, t3]
      rw [if_pos (show (0 : Int) ≤ ((lot.size + 1 + j : Nat) : Int) by omega), if_pos (show ((lot.size + 1 + j : Nat) : Int) ≤ ((lot.size + 10 : Nat) : Int) by omega), if_pos (show lot.size + 1 + j + 1 ≤ 9223372036854775807 by omega),
        if_pos (show (0 : Int) ≤ ((lot.size + 1 + j + 1 : Nat) : Int) by omega), if_pos (show ((lot.size + 1 + j + 1 : Nat) : Int) ≤ ((lot.size + 10 : Nat) : Int) by omega), if_pos (show lot.size + 1 + j + 1 + (lot.size + 10 - (lot.size + 1 + j + 1)) ≤ 9223372036854775807 by omega)]
      have t4 : (T ++ [y] ++ D).length = lot.size + 10 := by
        rw [List.length_append, List.length_append, t1, t2, t3]; omega
      rw [Read_f _ (by rw [str_size, t4]; omega) _ (by rw [str_size, t4]; omega), Option.bind_some, str_list]
      have hdam := damaged (p := a) (s := b) hw y hdg j (by omega) (by omega) (by rw [← size_len]; omega) (by
        intro e2
        apply c7
        rw [← size_len] at e2
        have hlt : lot.size + 1 + j < (serialL lot.data.toList a b).length := by omega
        rw [List.getElem?_eq_getElem hlt] at e2
        have e3 := Option.some.inj e2
        rw [beq_iff_eq, bt_nat _ _ (by rw [hsz]; omega), hd2]
        exact congrArg (fun z : UInt8 => (z.toNat : Int)) (by simpa [str] using e3))
      rw [← size_len, hT, hD] at hdam
      rw [hdam, if_pos rfl, reads_f _ (by omega)]
      rfl
  · rw [if_neg h]
    refine fine _ _ (.inr ?_)
    unfold SerialS at h ⊢
    split
    · rename_i hw
      rw [if_pos hw] at h
      split
      · rename_i hr; rw [if_pos hr] at h; simp at h
      · rfl
    · rfl
end Go.Proofs.YthfejpgofcbamaaDoor.Plain
