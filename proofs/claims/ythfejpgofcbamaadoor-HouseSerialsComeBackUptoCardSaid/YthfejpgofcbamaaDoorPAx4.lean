-- Walks in one form, written by this session's own program (wip/tools): a Lean function for each Go function and a proof that the call comes to its answers.
import Derived.Test.YthfejpgofcbamaaDoorPAx0
import Derived.Test.YthfejpgofcbamaaDoorPAx2
import Derived.Test.YthfejpgofcbamaaDoorPAx3
namespace Go.Proofs.YthfejpgofcbamaaDoor.PA
open Go.RowKit Go.Proofs.YthfejpgofcbamaaDoorW.PrintWords Go.Proofs.YthfejpgofcbamaaDoorW.PrintLast Go.Proofs.YthfejpgofcbamaaDoorW.PrintMore
attribute [local go_sem] max2_int min2_int max_two min_two max_three min_three max_four min_four   -- for this text's walks alone
set_option linter.unusedVariables false
set_option linter.unusedSimpArgs false

/-! ### etchhouseref12_digits: function 23 -/
def etchhouseref12_digits.l0 : Nat → ByteArray → Int → Option (Int × Bool)
  | 0, _, _ => none
  | k + 1, x0, x4 => if x4 < 3 then (if 0 ≤ x4 then (if x4 < (x0.size : Int) then (if (bt x0 x4) < 48 then (some (0, false)) else (if (bt x0 x4) > 57 then (some (0, false)) else (etchhouseref12_digits.l0 k x0 (wrap64 (x4 + 1))))) else (none)) else (none)) else ((strconv_Atoi.f x0).bind fun bt153 => (some (bt153.1, true)))
def etchhouseref12_digits.f (k : Nat) (a0 : ByteArray) : Option (Int × Bool) := if (a0.size : Int) = 3 then (etchhouseref12_digits.l0 k a0 0) else (some (0, false))
theorem etchhouseref12_digits.mono_l : ∀ k, (∀ y0 y1, LeO (etchhouseref12_digits.l0 k y0 y1) (etchhouseref12_digits.l0 (k + 1) y0 y1))
  | 0 => fun _ _ r h => by simp [etchhouseref12_digits.l0] at h
  | k + 1 => by
    have ih0 := etchhouseref12_digits.mono_l k
    · intro y0 y1
      unfold etchhouseref12_digits.l0
      repeat' first
      | (with_reducible exact ih0 _ _)
      | (with_reducible exact LeO.refl _)
      | (with_reducible exact LeO.none _)
      | (with_reducible refine LeO.ite ?_ ?_)
      | (with_reducible refine LeO.bind ?_ (fun _ => ?_))
      | exact ih0 _ _
      | exact LeO.none _
      | refine LeO.ite ?_ ?_
      | refine LeO.bind ?_ (fun _ => ?_)
theorem etchhouseref12_digits.mono : ∀ a0 k, LeO (etchhouseref12_digits.f k a0) (etchhouseref12_digits.f (k + 1) a0) := by
  intro a0 k
  have ih0 := etchhouseref12_digits.mono_l k
  unfold etchhouseref12_digits.f
  repeat' first
      | (with_reducible exact ih0 _ _)
      | (with_reducible exact LeO.refl _)
      | (with_reducible exact LeO.none _)
      | (with_reducible refine LeO.ite ?_ ?_)
      | (with_reducible refine LeO.bind ?_ (fun _ => ?_))
      | exact ih0 _ _
      | exact LeO.none _
      | refine LeO.ite ?_ ?_
      | refine LeO.bind ?_ (fun _ => ?_)
set_option maxHeartbeats 8000000 in
set_option maxRecDepth 100000 in
theorem etchhouseref12_digits.calls (k : Nat) (a0 : ByteArray) (r1 : Int) (r2 : Bool) (w : World) (hG : Tryd.GW w) (h : etchhouseref12_digits.f k a0 = some (r1, r2)) :
    Calls Tryd.prog 23 #[.string a0] w fun e w' => e = .returned (.tuple #[.int .i64 r1, .bool r2]) ∧ Below w.heap.size w w' := by
  have HG := Aside0.mk hG
  clear hG
  have HB := Aside0.mk (Below.refl w.heap.size w)
  have H : (if (a0.size : Int) = 3 then (etchhouseref12_digits.l0 k a0 0) else (some (0, false))) = some (r1, r2) := h
  clear h
  by_cases c2 : (a0.size : Int) = 3
  · rw [if_pos c2] at H
    have c2b0 : ((a0.size : Int) == 3) = true := beq_iff_eq.mpr c2
    have c2b1 : ((a0.size : Int) != 3) = false := bne_eq_false_iff_eq.mpr c2
    clear c2
    have H' := Aside0.mk H
    clear H
    go_enter Tryd.func23, Tryd.ntmps23
    go_wp2
    go_loopg [4] k (fun kq v4 w' => ∃ (x4_1 : Int), v4 = .int .i64 x4_1 ∧ Aside0 (etchhouseref12_digits.l0 kq a0 x4_1 = some (r1, r2)) ∧ Aside0 (kq ≤ k) ∧ Aside0 (Below w.heap.size w w'))
    case atStart => exact ⟨(0), (by first | rfl | (simp; done) | (simp [*]; done)), H', ⟨Nat.le_refl _⟩, ⟨by repeat (first | (with_reducible first | exact HB.out | apply below_alloc | apply pw_below_drewN | apply below_drew1) | exact HB.out)⟩⟩
    case round =>
      clear H'
      try clear c2
      try clear c2b0
      try clear c2b1
      try clear p2
      obtain ⟨x4_1, rfl, HA, HK1, HB⟩ := hrel
      cases gk with
      | zero => exact absurd HA.out (by simp [etchhouseref12_digits.l0])
      | succ k1 =>
        have H := HA.out
        clear HA
        simp only [etchhouseref12_digits.l0] at H
        by_cases c3 : x4_1 < 3
        · rw [if_pos c3] at H
          have c3b0 : decide (x4_1 < 3) = true := decide_eq_true c3
          clear c3
          by_cases c4 : 0 ≤ x4_1
          · rw [if_pos c4] at H
            have c4b0 : decide (0 ≤ x4_1) = true := decide_eq_true c4
            clear c4
            by_cases c5 : x4_1 < (a0.size : Int)
            · rw [if_pos c5] at H
              have c5b0 : decide (x4_1 < (a0.size : Int)) = true := decide_eq_true c5
              clear c5
              by_cases c7 : (bt a0 x4_1) < 48
              · rw [if_pos c7] at H
                have c7b0 : decide ((bt a0 x4_1) < 48) = true := decide_eq_true c7
                clear c7
                simp only [Option.some.injEq, Prod.mk.injEq] at H
                obtain ⟨rfl, rfl⟩ := H
                have p6 : 0 ≤ (x4_1 : Int) := of_decide_eq_true (by first | (with_reducible assumption) | assumption)
                have q6 : x4_1 < (a0.size : Int) := of_decide_eq_true (by first | (with_reducible assumption) | assumption)
                have hx6 := bt_at a0 x4_1
                replace p6 := eq_true p6
                replace q6 := eq_true q6
                go_wp2
                go_ret2
                exact ⟨by first | rfl | (simp [errW_none, errW_some] <;> rfl) | (simp [*, errW_none, errW_some] <;> rfl), by repeat (first | (with_reducible first | exact HB.out | apply below_alloc | apply pw_below_drewN | apply below_drew1) | exact HB.out)⟩
              · rw [if_neg c7] at H
                have c7b0 : decide ((bt a0 x4_1) < 48) = false := decide_eq_false c7
                clear c7
                by_cases c9 : (bt a0 x4_1) > 57
                · rw [if_pos c9] at H
                  have c9b0 : decide (57 < (bt a0 x4_1)) = true := decide_eq_true c9
                  clear c9
                  simp only [Option.some.injEq, Prod.mk.injEq] at H
                  obtain ⟨rfl, rfl⟩ := H
                  have p6 : 0 ≤ (x4_1 : Int) := of_decide_eq_true (by first | (with_reducible assumption) | assumption)
                  have q6 : x4_1 < (a0.size : Int) := of_decide_eq_true (by first | (with_reducible assumption) | assumption)
                  have hx6 := bt_at a0 x4_1
                  replace p6 := eq_true p6
                  replace q6 := eq_true q6
                  have p8 : 0 ≤ (x4_1 : Int) := of_decide_eq_true (by first | (with_reducible assumption) | assumption)
                  have q8 : x4_1 < (a0.size : Int) := of_decide_eq_true (by first | (with_reducible assumption) | assumption)
                  have hx8 := bt_at a0 x4_1
                  replace p8 := eq_true p8
                  replace q8 := eq_true q8
                  go_wp2
                  go_ret2
                  exact ⟨by first | rfl | (simp [errW_none, errW_some] <;> rfl) | (simp [*, errW_none, errW_some] <;> rfl), by repeat (first | (with_reducible first | exact HB.out | apply below_alloc | apply pw_below_drewN | apply below_drew1) | exact HB.out)⟩
                · rw [if_neg c9] at H
                  have c9b0 : decide (57 < (bt a0 x4_1)) = false := decide_eq_false c9
                  clear c9
                  have H' := Aside0.mk H
                  clear H
                  have p6 : 0 ≤ (x4_1 : Int) := of_decide_eq_true (by first | (with_reducible assumption) | assumption)
                  have q6 : x4_1 < (a0.size : Int) := of_decide_eq_true (by first | (with_reducible assumption) | assumption)
                  have hx6 := bt_at a0 x4_1
                  replace p6 := eq_true p6
                  replace q6 := eq_true q6
                  have p8 : 0 ≤ (x4_1 : Int) := of_decide_eq_true (by first | (with_reducible assumption) | assumption)
                  have q8 : x4_1 < (a0.size : Int) := of_decide_eq_true (by first | (with_reducible assumption) | assumption)
                  have hx8 := bt_at a0 x4_1
                  replace p8 := eq_true p8
                  replace q8 := eq_true q8
                  go_wp2
                  go_roundg k1
                  case measure => have := HK1.out; omega
                  case rel => exact ⟨(wrap64 (x4_1 + 1)), (by first | rfl | (simp; done) | (simp [*]; done)), H', ⟨by have := HK1.out; omega⟩, ⟨by repeat (first | (with_reducible first | exact HB.out | apply below_alloc | apply pw_below_drewN | apply below_drew1) | exact HB.out)⟩⟩
            · rw [if_neg c5] at H
              exact absurd H (by simp)
          · rw [if_neg c4] at H
            exact absurd H (by simp)
        · rw [if_neg c3] at H
          have c3b0 : decide (x4_1 < 3) = false := decide_eq_false c3
          clear c3
          replace H := Option.bind_eq_some_iff.mp H
          obtain ⟨⟨t153, t154⟩, A100, H⟩ := H
          replace H : (some (t153, true)) = some (r1, r2) := H
          have A10 := Aside0.mk A100
          clear A100
          simp only [Option.some.injEq, Prod.mk.injEq] at H
          obtain ⟨rfl, rfl⟩ := H
          go_wp2_with (first | ((with_reducible refine gate_callee (f := 31) rfl ?_); refine goesL_ (some 26) rfl rfl Tryd.func31 (by kernel_rfl) rfl #[.string a0] rfl (by (try simp only [List.map_toArray, List.map_cons, List.map_nil]); first | done | rfl | (simp only [List.length_drop, List.length_take]; rfl)) ?_; (with_reducible refine (strconv_Atoi.calls a0 t153 t154 _ ?side1 A10.out).mono ?_); (case side1 => exact Tryd.gw_below HG.out (by repeat (first | (with_reducible first | exact HB.out | apply below_alloc | apply pw_below_drewN | apply below_drew1) | exact HB.out))); rintro e w11 ⟨rfl, hb⟩; refine ⟨_, rfl, ?_⟩; have n0_ := Aside0.mk (below_step (by repeat (first | (with_reducible first | exact HB.out | apply below_alloc | apply pw_below_drewN | apply below_drew1) | exact HB.out)) hb); clear HB; have HB := n0_; clear n0_; (try clear hb); (try clear hb2); (try clear hk); (try clear hi); (try simp only [errW_none, errW_some])))
          go_ret2
          exact ⟨by first | rfl | (simp [errW_none, errW_some] <;> rfl) | (simp [*, errW_none, errW_some] <;> rfl), by repeat (first | (with_reducible first | exact HB.out | apply below_alloc | apply pw_below_drewN | apply below_drew1) | exact HB.out)⟩
  · rw [if_neg c2] at H
    have c2b0 : ((a0.size : Int) == 3) = false := beq_eq_false_iff_ne.mpr c2
    have c2b1 : ((a0.size : Int) != 3) = true := bne_iff_ne.mpr c2
    simp only [Option.some.injEq, Prod.mk.injEq] at H
    obtain ⟨rfl, rfl⟩ := H
    go_enter Tryd.func23, Tryd.ntmps23
    go_wp2
    go_ret2
    exact ⟨by first | rfl | (simp [errW_none, errW_some] <;> rfl) | (simp [*, errW_none, errW_some] <;> rfl), by repeat (first | (with_reducible first | exact HB.out | apply below_alloc | apply pw_below_drewN | apply below_drew1) | exact HB.out)⟩

/-! ### etchhouseref12_ReadSerial: function 9 -/
mutual
def etchhouseref12_ReadSerial.j0 : Nat → List ByteArray → Bool → Option (ByteArray × Int × Int × Int)
  | 0, _, _ => none
  | k + 1, x6, x36 => if x36 = true then (some ((⟨#[]⟩ : ByteArray), 0, 0, 10)) else (if 1 < (x6.length : Int) then ((etchhouseref12_digits.f k (rdOf ByteArray.empty x6 1)).bind fun bt164 => (if 2 < (x6.length : Int) then ((etchhouseref12_digits.f k (rdOf ByteArray.empty x6 2)).bind fun bt167 => (if bt164.2 = true then (etchhouseref12_ReadSerial.j1 k x6 bt164.1 bt167.1 (!bt167.2)) else (etchhouseref12_ReadSerial.j1 k x6 bt164.1 bt167.1 true))) else (none))) else (none))
def etchhouseref12_ReadSerial.j1 : Nat → List ByteArray → Int → Int → Bool → Option (ByteArray × Int × Int × Int)
  | 0, _, _, _, _ => none
  | k + 1, x6, x7, x9, x56 => if x56 = true then (some ((⟨#[]⟩ : ByteArray), 0, 0, 10)) else (if 0 < (x6.length : Int) then (if (rdOf ByteArray.empty x6 0).size + 1 ≤ 9223372036854775807 then (if 1 < (x6.length : Int) then (if ((rdOf ByteArray.empty x6 0) ++ (⟨#[46]⟩ : ByteArray)).size + (rdOf ByteArray.empty x6 1).size ≤ 9223372036854775807 then (if (((rdOf ByteArray.empty x6 0) ++ (⟨#[46]⟩ : ByteArray)) ++ (rdOf ByteArray.empty x6 1)).size + 1 ≤ 9223372036854775807 then (if 2 < (x6.length : Int) then (if ((((rdOf ByteArray.empty x6 0) ++ (⟨#[46]⟩ : ByteArray)) ++ (rdOf ByteArray.empty x6 1)) ++ (⟨#[46]⟩ : ByteArray)).size + (rdOf ByteArray.empty x6 2).size ≤ 9223372036854775807 then ((etchhouseref12_sign.f k (((((rdOf ByteArray.empty x6 0) ++ (⟨#[46]⟩ : ByteArray)) ++ (rdOf ByteArray.empty x6 1)) ++ (⟨#[46]⟩ : ByteArray)) ++ (rdOf ByteArray.empty x6 2))).bind fun t172 => (if 3 < (x6.length : Int) then (if t172.toList = (rdOf ByteArray.empty x6 3).toList then (some (rdOf ByteArray.empty x6 0, x7, x9, 0)) else (some ((⟨#[]⟩ : ByteArray), 0, 0, 15))) else (none))) else (none)) else (none)) else (none)) else (none)) else (none)) else (none)) else (none))
end
def etchhouseref12_ReadSerial.f (k : Nat) (a0 : ByteArray) : Option (ByteArray × Int × Int × Int) := (strings_Split.f a0 (⟨#[46]⟩ : ByteArray)).bind fun t155 => (if (t155.length : Int) = 4 then (if 0 < (t155.length : Int) then ((etchhouseref5_IsWord.f k (rdOf ByteArray.empty t155 0)).bind fun t159 => (if t159 = true then (if 3 < (t155.length : Int) then (if ((rdOf ByteArray.empty t155 3).size : Int) = 1 then ((strings_Index.f (⟨#[48, 49, 50, 51, 52, 53, 54, 55, 56, 57, 65, 66, 67, 68, 69, 70, 71, 72, 73, 74, 75, 76, 77, 78, 79, 80, 81, 82, 83, 84, 85, 86, 87, 88, 89, 90, 42]⟩ : ByteArray) (rdOf ByteArray.empty t155 3)).bind fun t162 => (etchhouseref12_ReadSerial.j0 k t155 (decide (t162 < 0)))) else (etchhouseref12_ReadSerial.j0 k t155 true)) else (none)) else (etchhouseref12_ReadSerial.j0 k t155 true))) else (none)) else (etchhouseref12_ReadSerial.j0 k t155 true))
theorem etchhouseref12_ReadSerial.mono_l : ∀ k, (∀ y0 y1, LeO (etchhouseref12_ReadSerial.j0 k y0 y1) (etchhouseref12_ReadSerial.j0 (k + 1) y0 y1)) ∧ (∀ y0 y1 y2 y3, LeO (etchhouseref12_ReadSerial.j1 k y0 y1 y2 y3) (etchhouseref12_ReadSerial.j1 (k + 1) y0 y1 y2 y3))
  | 0 => ⟨fun _ _ r h => by simp [etchhouseref12_ReadSerial.j0] at h, fun _ _ _ _ r h => by simp [etchhouseref12_ReadSerial.j1] at h⟩
  | k + 1 => by
    obtain ⟨ih0, ih1⟩ := etchhouseref12_ReadSerial.mono_l k
    refine ⟨?_, ?_⟩
    · intro y0 y1
      unfold etchhouseref12_ReadSerial.j0
      repeat' first
      | (with_reducible exact ih0 _ _)
      | (with_reducible exact ih1 _ _ _ _)
      | (with_reducible exact etchhouseref12_digits.mono _ _)
      | (with_reducible exact etchhouseref12_sign.mono _ _)
      | (with_reducible exact etchhouseref5_IsWord.mono _ _)
      | (with_reducible exact LeO.refl _)
      | (with_reducible exact LeO.none _)
      | (with_reducible refine LeO.ite ?_ ?_)
      | (with_reducible refine LeO.bind ?_ (fun _ => ?_))
      | exact ih0 _ _
      | exact ih1 _ _ _ _
      | exact etchhouseref12_digits.mono _ _
      | exact etchhouseref12_sign.mono _ _
      | exact etchhouseref5_IsWord.mono _ _
      | exact LeO.none _
      | refine LeO.ite ?_ ?_
      | refine LeO.bind ?_ (fun _ => ?_)
    · intro y0 y1 y2 y3
      unfold etchhouseref12_ReadSerial.j1
      repeat' first
      | (with_reducible exact ih0 _ _)
      | (with_reducible exact ih1 _ _ _ _)
      | (with_reducible exact etchhouseref12_digits.mono _ _)
      | (with_reducible exact etchhouseref12_sign.mono _ _)
      | (with_reducible exact etchhouseref5_IsWord.mono _ _)
      | (with_reducible exact LeO.refl _)
      | (with_reducible exact LeO.none _)
      | (with_reducible refine LeO.ite ?_ ?_)
      | (with_reducible refine LeO.bind ?_ (fun _ => ?_))
      | exact ih0 _ _
      | exact ih1 _ _ _ _
      | exact etchhouseref12_digits.mono _ _
      | exact etchhouseref12_sign.mono _ _
      | exact etchhouseref5_IsWord.mono _ _
      | exact LeO.none _
      | refine LeO.ite ?_ ?_
      | refine LeO.bind ?_ (fun _ => ?_)
theorem etchhouseref12_ReadSerial.mono : ∀ a0 k, LeO (etchhouseref12_ReadSerial.f k a0) (etchhouseref12_ReadSerial.f (k + 1) a0) := by
  intro a0 k
  obtain ⟨ih0, ih1⟩ := etchhouseref12_ReadSerial.mono_l k
  unfold etchhouseref12_ReadSerial.f
  repeat' first
      | (with_reducible exact ih0 _ _)
      | (with_reducible exact ih1 _ _ _ _)
      | (with_reducible exact etchhouseref12_digits.mono _ _)
      | (with_reducible exact etchhouseref12_sign.mono _ _)
      | (with_reducible exact etchhouseref5_IsWord.mono _ _)
      | (with_reducible exact LeO.refl _)
      | (with_reducible exact LeO.none _)
      | (with_reducible refine LeO.ite ?_ ?_)
      | (with_reducible refine LeO.bind ?_ (fun _ => ?_))
      | exact ih0 _ _
      | exact ih1 _ _ _ _
      | exact etchhouseref12_digits.mono _ _
      | exact etchhouseref12_sign.mono _ _
      | exact etchhouseref5_IsWord.mono _ _
      | exact LeO.none _
      | refine LeO.ite ?_ ?_
      | refine LeO.bind ?_ (fun _ => ?_)
set_option maxHeartbeats 8000000 in
set_option maxRecDepth 100000 in
theorem etchhouseref12_ReadSerial.calls (k : Nat) (a0 : ByteArray) (r1 : ByteArray) (r2 : Int) (r3 : Int) (r4 : Int) (w : World) (hG : Tryd.GW w) (h : etchhouseref12_ReadSerial.f k a0 = some (r1, r2, r3, r4)) :
    Calls Tryd.prog 9 #[.string a0] w fun e w' => e = .returned (.tuple #[.string r1, .int .i64 r2, .int .i64 r3, .int .i64 r4]) ∧ Below w.heap.size w w' := by
  have HG := Aside0.mk hG
  clear hG
  have HB := Aside0.mk (Below.refl w.heap.size w)
  have H : ((strings_Split.f a0 (⟨#[46]⟩ : ByteArray)).bind fun t155 => (if (t155.length : Int) = 4 then (if 0 < (t155.length : Int) then ((etchhouseref5_IsWord.f k (rdOf ByteArray.empty t155 0)).bind fun t159 => (if t159 = true then (if 3 < (t155.length : Int) then (if ((rdOf ByteArray.empty t155 3).size : Int) = 1 then ((strings_Index.f (⟨#[48, 49, 50, 51, 52, 53, 54, 55, 56, 57, 65, 66, 67, 68, 69, 70, 71, 72, 73, 74, 75, 76, 77, 78, 79, 80, 81, 82, 83, 84, 85, 86, 87, 88, 89, 90, 42]⟩ : ByteArray) (rdOf ByteArray.empty t155 3)).bind fun t162 => (etchhouseref12_ReadSerial.j0 k t155 (decide (t162 < 0)))) else (etchhouseref12_ReadSerial.j0 k t155 true)) else (none)) else (etchhouseref12_ReadSerial.j0 k t155 true))) else (none)) else (etchhouseref12_ReadSerial.j0 k t155 true))) = some (r1, r2, r3, r4) := h
  clear h
  replace H := Option.bind_eq_some_iff.mp H
  obtain ⟨t155, A20, H⟩ := H
  replace H : (if (t155.length : Int) = 4 then (if 0 < (t155.length : Int) then ((etchhouseref5_IsWord.f k (rdOf ByteArray.empty t155 0)).bind fun t159 => (if t159 = true then (if 3 < (t155.length : Int) then (if ((rdOf ByteArray.empty t155 3).size : Int) = 1 then ((strings_Index.f (⟨#[48, 49, 50, 51, 52, 53, 54, 55, 56, 57, 65, 66, 67, 68, 69, 70, 71, 72, 73, 74, 75, 76, 77, 78, 79, 80, 81, 82, 83, 84, 85, 86, 87, 88, 89, 90, 42]⟩ : ByteArray) (rdOf ByteArray.empty t155 3)).bind fun t162 => (etchhouseref12_ReadSerial.j0 k t155 (decide (t162 < 0)))) else (etchhouseref12_ReadSerial.j0 k t155 true)) else (none)) else (etchhouseref12_ReadSerial.j0 k t155 true))) else (none)) else (etchhouseref12_ReadSerial.j0 k t155 true)) = some (r1, r2, r3, r4) := H
  have A2 := Aside0.mk A20
  clear A20
  have HC3 := Aside0.mk H
  clear H
  go_enter Tryd.func9, Tryd.ntmps9
  go_upto_region 2 with (first | (go_at_call 18; (with_reducible refine (strings_Split.calls a0 (⟨#[46]⟩ : ByteArray) t155 _ ?side1 A2.out).mono ?_); (case side1 => exact Tryd.gw_below HG.out (by repeat (first | (with_reducible first | exact HB.out | apply below_alloc | apply pw_below_drewN | apply below_drew1) | exact HB.out))); rintro e w4 ⟨v156, rfl, ho0, hb⟩; have n0_ := Aside0.mk (Kd.R_lower ho0 (below_size (by repeat (first | (with_reducible first | exact HB.out | apply below_alloc | apply pw_below_drewN | apply below_drew1) | exact HB.out)))); have n1_ := Aside0.mk (below_step (by repeat (first | (with_reducible first | exact HB.out | apply below_alloc | apply pw_below_drewN | apply below_drew1) | exact HB.out)) hb); clear HB; have HO157 := n0_; have HB := n1_; clear n0_ n1_; (try clear hb); (try clear hb2); (try clear hk); (try clear hi); (try clear ho0)))
  repeat (go_quiet (first | (go_at_call 18; (with_reducible refine (strings_Split.calls a0 (⟨#[46]⟩ : ByteArray) t155 _ ?side1 A2.out).mono ?_); (case side1 => exact Tryd.gw_below HG.out (by repeat (first | (with_reducible first | exact HB.out | apply below_alloc | apply pw_below_drewN | apply below_drew1) | exact HB.out))); rintro e w4 ⟨v156, rfl, ho0, hb⟩; have n0_ := Aside0.mk (Kd.R_lower ho0 (below_size (by repeat (first | (with_reducible first | exact HB.out | apply below_alloc | apply pw_below_drewN | apply below_drew1) | exact HB.out)))); have n1_ := Aside0.mk (below_step (by repeat (first | (with_reducible first | exact HB.out | apply below_alloc | apply pw_below_drewN | apply below_drew1) | exact HB.out)) hb); clear HB; have HO157 := n0_; have HB := n1_; clear n0_ n1_; (try clear hb); (try clear hb2); (try clear hk); (try clear hi); (try clear ho0))); go_upto_region 2 with (first | (go_at_call 18; (with_reducible refine (strings_Split.calls a0 (⟨#[46]⟩ : ByteArray) t155 _ ?side1 A2.out).mono ?_); (case side1 => exact Tryd.gw_below HG.out (by repeat (first | (with_reducible first | exact HB.out | apply below_alloc | apply pw_below_drewN | apply below_drew1) | exact HB.out))); rintro e w4 ⟨v156, rfl, ho0, hb⟩; have n0_ := Aside0.mk (Kd.R_lower ho0 (below_size (by repeat (first | (with_reducible first | exact HB.out | apply below_alloc | apply pw_below_drewN | apply below_drew1) | exact HB.out)))); have n1_ := Aside0.mk (below_step (by repeat (first | (with_reducible first | exact HB.out | apply below_alloc | apply pw_below_drewN | apply below_drew1) | exact HB.out)) hb); clear HB; have HO157 := n0_; have HB := n1_; clear n0_ n1_; (try clear hb); (try clear hb2); (try clear hk); (try clear hi); (try clear ho0))))
  (try simp only [Act.put, List.setIfInBounds_toArray, List.set_cons_zero, List.set_cons_succ])
  go_cut [36] (fun v36 wc => ∃ (kq : Nat) (x36_2 : Bool), v36 = .bool x36_2 ∧ Aside0 (etchhouseref12_ReadSerial.j0 kq t155 x36_2 = some (r1, r2, r3, r4)) ∧ Aside0 (kq ≤ k) ∧ Aside0 (Kd.R Kd.string 9 wc w.heap.size (fun _ => True) v156 t155) ∧ Aside0 (Below w.heap.size w wc))
  case first =>
    have H := HC3.out
    clear HC3
    by_cases c5 : (t155.length : Int) = 4
    · rw [if_pos c5] at H
      have c5b0 : ((t155.length : Int) == 4) = true := beq_iff_eq.mpr c5
      have c5b1 : ((t155.length : Int) != 4) = false := bne_eq_false_iff_eq.mpr c5
      clear c5
      (first | rw [c5b0] | (simp only [i64_w, i32_w]; rw [c5b0]) | skip)
      by_cases c6 : 0 < (t155.length : Int)
      · rw [if_pos c6] at H
        have c6b0 : decide (0 < (t155.length : Int)) = true := decide_eq_true c6
        have c6b1 : decide (0 < t155.length) = true := decide_eq_true (by omega)
        clear c6
        replace H := Option.bind_eq_some_iff.mp H
        obtain ⟨t159, A70, H⟩ := H
        replace H : (if t159 = true then (if 3 < (t155.length : Int) then (if ((rdOf ByteArray.empty t155 3).size : Int) = 1 then ((strings_Index.f (⟨#[48, 49, 50, 51, 52, 53, 54, 55, 56, 57, 65, 66, 67, 68, 69, 70, 71, 72, 73, 74, 75, 76, 77, 78, 79, 80, 81, 82, 83, 84, 85, 86, 87, 88, 89, 90, 42]⟩ : ByteArray) (rdOf ByteArray.empty t155 3)).bind fun t162 => (etchhouseref12_ReadSerial.j0 k t155 (decide (t162 < 0)))) else (etchhouseref12_ReadSerial.j0 k t155 true)) else (none)) else (etchhouseref12_ReadSerial.j0 k t155 true)) = some (r1, r2, r3, r4) := H
        have A7 := Aside0.mk A70
        clear A70
        by_cases c8 : t159 = true
        · subst c8
          have H1 : (if 3 < (t155.length : Int) then (if ((rdOf ByteArray.empty t155 3).size : Int) = 1 then ((strings_Index.f (⟨#[48, 49, 50, 51, 52, 53, 54, 55, 56, 57, 65, 66, 67, 68, 69, 70, 71, 72, 73, 74, 75, 76, 77, 78, 79, 80, 81, 82, 83, 84, 85, 86, 87, 88, 89, 90, 42]⟩ : ByteArray) (rdOf ByteArray.empty t155 3)).bind fun t162 => (etchhouseref12_ReadSerial.j0 k t155 (decide (t162 < 0)))) else (etchhouseref12_ReadSerial.j0 k t155 true)) else (none)) = some (r1, r2, r3, r4) := by rw [if_pos rfl] at H; exact H
          clear H
          have H := H1
          clear H1
          by_cases c9 : 3 < (t155.length : Int)
          · rw [if_pos c9] at H
            have c9b0 : decide (3 < (t155.length : Int)) = true := decide_eq_true c9
            have c9b1 : decide (3 < t155.length) = true := decide_eq_true (by omega)
            clear c9
            by_cases c10 : ((rdOf ByteArray.empty t155 3).size : Int) = 1
            · rw [if_pos c10] at H
              have c10b0 : (((rdOf ByteArray.empty t155 3).size : Int) == 1) = true := beq_iff_eq.mpr c10
              have c10b1 : (((rdOf ByteArray.empty t155 3).size : Int) != 1) = false := bne_eq_false_iff_eq.mpr c10
              clear c10
              replace H := Option.bind_eq_some_iff.mp H
              obtain ⟨t162, A110, H⟩ := H
              replace H : (etchhouseref12_ReadSerial.j0 k t155 (decide (t162 < 0))) = some (r1, r2, r3, r4) := H
              have A11 := Aside0.mk A110
              clear A110
              have H' := Aside0.mk H
              clear H
              obtain ⟨Ao12, co12, eo12⟩ := Kd.R_slice HO157.out
              subst eo12
              have p158 : 0 ≤ (0 : Int) := (by omega)
              have q158 : 0 < (t155.length : Int) := of_decide_eq_true (by first | (with_reducible assumption) | assumption)
              obtain ⟨ad158, e158, hx158_0⟩ := Kd.at_string (Kd.R_reads' HO157.out).2.2 0 p158 q158
              cases e158
              have qi158 : (0 < t155.length) = True := eq_true (by omega)
              (try rw [show ((0 : Int)).toNat = 0 from rfl] at hx158_0)
              (try rw [Addr.add_zero'] at hx158_0)
              replace p158 := eq_true p158
              replace q158 := eq_true q158
              go_wp2_with (first | (go_at_call 14; (with_reducible refine (etchhouseref5_IsWord.calls k (rdOf ByteArray.empty t155 0) true _ ?side1 A7.out).mono ?_); (case side1 => exact Tryd.gw_below HG.out (by repeat (first | (with_reducible first | exact HB.out | apply below_alloc | apply pw_below_drewN | apply below_drew1) | exact HB.out))); rintro e w' ⟨rfl, ⟨nd, rfl⟩⟩; (try first | exact ⟨rfl, _, World.drewN_drewN _ _ _⟩ | exact ⟨rfl, _, Eq.trans (World.drewN_drewN _ _ _) (congrArg (World.drewN _) (Nat.add_assoc _ _ _))⟩); have p160 : 0 ≤ (3 : Int) := (by omega); have q160 : 3 < (t155.length : Int) := of_decide_eq_true (by first | (with_reducible assumption) | assumption); obtain ⟨ad160, e160, hx160_0⟩ := Kd.at_string (Kd.R_reads' HO157.out).2.2 3 p160 q160; obtain rfl : ad158 = ad160 := (by injection e160); (try simp only [show (3 : Int).toNat = 3 from rfl, Nat.reduceMul, Nat.reduceEqDiff, Go.Addr.add, ↓reduceIte] at hx160_0); have qi160 : (3 < t155.length) = True := eq_true (by omega); (try rw [show ((3 : Int)).toNat = 3 from rfl] at hx160_0); replace p160 := eq_true p160; replace q160 := eq_true q160; have p161 : 0 ≤ (3 : Int) := (by omega); have q161 : 3 < (t155.length : Int) := of_decide_eq_true (by first | (with_reducible assumption) | assumption); obtain ⟨ad161, e161, hx161_0⟩ := Kd.at_string (Kd.R_reads' HO157.out).2.2 3 p161 q161; obtain rfl : ad158 = ad161 := (by injection e161); (try simp only [show (3 : Int).toNat = 3 from rfl, Nat.reduceMul, Nat.reduceEqDiff, Go.Addr.add, ↓reduceIte] at hx161_0); have qi161 : (3 < t155.length) = True := eq_true (by omega); (try rw [show ((3 : Int)).toNat = 3 from rfl] at hx161_0); replace p161 := eq_true p161; replace q161 := eq_true q161) | (go_at_call 22; (with_reducible refine (strings_Index.calls (⟨#[48, 49, 50, 51, 52, 53, 54, 55, 56, 57, 65, 66, 67, 68, 69, 70, 71, 72, 73, 74, 75, 76, 77, 78, 79, 80, 81, 82, 83, 84, 85, 86, 87, 88, 89, 90, 42]⟩ : ByteArray) (rdOf ByteArray.empty t155 3) t162 _ ?side1 A11.out).mono ?_); (case side1 => exact Tryd.gw_below HG.out (by repeat (first | (with_reducible first | exact HB.out | apply below_alloc | apply pw_below_drewN | apply below_drew1) | exact HB.out))); rintro e w' ⟨rfl, ⟨nd, rfl⟩⟩; (try first | exact ⟨rfl, _, World.drewN_drewN _ _ _⟩ | exact ⟨rfl, _, Eq.trans (World.drewN_drewN _ _ _) (congrArg (World.drewN _) (Nat.add_assoc _ _ _))⟩)))
              repeat (go_quiet (first | (go_at_call 14; (with_reducible refine (etchhouseref5_IsWord.calls k (rdOf ByteArray.empty t155 0) true _ ?side1 A7.out).mono ?_); (case side1 => exact Tryd.gw_below HG.out (by repeat (first | (with_reducible first | exact HB.out | apply below_alloc | apply pw_below_drewN | apply below_drew1) | exact HB.out))); rintro e w' ⟨rfl, ⟨nd, rfl⟩⟩; (try first | exact ⟨rfl, _, World.drewN_drewN _ _ _⟩ | exact ⟨rfl, _, Eq.trans (World.drewN_drewN _ _ _) (congrArg (World.drewN _) (Nat.add_assoc _ _ _))⟩); have p160 : 0 ≤ (3 : Int) := (by omega); have q160 : 3 < (t155.length : Int) := of_decide_eq_true (by first | (with_reducible assumption) | assumption); obtain ⟨ad160, e160, hx160_0⟩ := Kd.at_string (Kd.R_reads' HO157.out).2.2 3 p160 q160; obtain rfl : ad158 = ad160 := (by injection e160); (try simp only [show (3 : Int).toNat = 3 from rfl, Nat.reduceMul, Nat.reduceEqDiff, Go.Addr.add, ↓reduceIte] at hx160_0); have qi160 : (3 < t155.length) = True := eq_true (by omega); (try rw [show ((3 : Int)).toNat = 3 from rfl] at hx160_0); replace p160 := eq_true p160; replace q160 := eq_true q160; have p161 : 0 ≤ (3 : Int) := (by omega); have q161 : 3 < (t155.length : Int) := of_decide_eq_true (by first | (with_reducible assumption) | assumption); obtain ⟨ad161, e161, hx161_0⟩ := Kd.at_string (Kd.R_reads' HO157.out).2.2 3 p161 q161; obtain rfl : ad158 = ad161 := (by injection e161); (try simp only [show (3 : Int).toNat = 3 from rfl, Nat.reduceMul, Nat.reduceEqDiff, Go.Addr.add, ↓reduceIte] at hx161_0); have qi161 : (3 < t155.length) = True := eq_true (by omega); (try rw [show ((3 : Int)).toNat = 3 from rfl] at hx161_0); replace p161 := eq_true p161; replace q161 := eq_true q161) | (go_at_call 22; (with_reducible refine (strings_Index.calls (⟨#[48, 49, 50, 51, 52, 53, 54, 55, 56, 57, 65, 66, 67, 68, 69, 70, 71, 72, 73, 74, 75, 76, 77, 78, 79, 80, 81, 82, 83, 84, 85, 86, 87, 88, 89, 90, 42]⟩ : ByteArray) (rdOf ByteArray.empty t155 3) t162 _ ?side1 A11.out).mono ?_); (case side1 => exact Tryd.gw_below HG.out (by repeat (first | (with_reducible first | exact HB.out | apply below_alloc | apply pw_below_drewN | apply below_drew1) | exact HB.out))); rintro e w' ⟨rfl, ⟨nd, rfl⟩⟩; (try first | exact ⟨rfl, _, World.drewN_drewN _ _ _⟩ | exact ⟨rfl, _, Eq.trans (World.drewN_drewN _ _ _) (congrArg (World.drewN _) (Nat.add_assoc _ _ _))⟩))); try go_wp2_with (first | (go_at_call 14; (with_reducible refine (etchhouseref5_IsWord.calls k (rdOf ByteArray.empty t155 0) true _ ?side1 A7.out).mono ?_); (case side1 => exact Tryd.gw_below HG.out (by repeat (first | (with_reducible first | exact HB.out | apply below_alloc | apply pw_below_drewN | apply below_drew1) | exact HB.out))); rintro e w' ⟨rfl, ⟨nd, rfl⟩⟩; (try first | exact ⟨rfl, _, World.drewN_drewN _ _ _⟩ | exact ⟨rfl, _, Eq.trans (World.drewN_drewN _ _ _) (congrArg (World.drewN _) (Nat.add_assoc _ _ _))⟩); have p160 : 0 ≤ (3 : Int) := (by omega); have q160 : 3 < (t155.length : Int) := of_decide_eq_true (by first | (with_reducible assumption) | assumption); obtain ⟨ad160, e160, hx160_0⟩ := Kd.at_string (Kd.R_reads' HO157.out).2.2 3 p160 q160; obtain rfl : ad158 = ad160 := (by injection e160); (try simp only [show (3 : Int).toNat = 3 from rfl, Nat.reduceMul, Nat.reduceEqDiff, Go.Addr.add, ↓reduceIte] at hx160_0); have qi160 : (3 < t155.length) = True := eq_true (by omega); (try rw [show ((3 : Int)).toNat = 3 from rfl] at hx160_0); replace p160 := eq_true p160; replace q160 := eq_true q160; have p161 : 0 ≤ (3 : Int) := (by omega); have q161 : 3 < (t155.length : Int) := of_decide_eq_true (by first | (with_reducible assumption) | assumption); obtain ⟨ad161, e161, hx161_0⟩ := Kd.at_string (Kd.R_reads' HO157.out).2.2 3 p161 q161; obtain rfl : ad158 = ad161 := (by injection e161); (try simp only [show (3 : Int).toNat = 3 from rfl, Nat.reduceMul, Nat.reduceEqDiff, Go.Addr.add, ↓reduceIte] at hx161_0); have qi161 : (3 < t155.length) = True := eq_true (by omega); (try rw [show ((3 : Int)).toNat = 3 from rfl] at hx161_0); replace p161 := eq_true p161; replace q161 := eq_true q161) | (go_at_call 22; (with_reducible refine (strings_Index.calls (⟨#[48, 49, 50, 51, 52, 53, 54, 55, 56, 57, 65, 66, 67, 68, 69, 70, 71, 72, 73, 74, 75, 76, 77, 78, 79, 80, 81, 82, 83, 84, 85, 86, 87, 88, 89, 90, 42]⟩ : ByteArray) (rdOf ByteArray.empty t155 3) t162 _ ?side1 A11.out).mono ?_); (case side1 => exact Tryd.gw_below HG.out (by repeat (first | (with_reducible first | exact HB.out | apply below_alloc | apply pw_below_drewN | apply below_drew1) | exact HB.out))); rintro e w' ⟨rfl, ⟨nd, rfl⟩⟩; (try first | exact ⟨rfl, _, World.drewN_drewN _ _ _⟩ | exact ⟨rfl, _, Eq.trans (World.drewN_drewN _ _ _) (congrArg (World.drewN _) (Nat.add_assoc _ _ _))⟩))))
              go_meet
              case rel => exact ⟨_, (decide (t162 < 0)), (by first | rfl | (simp; done) | (simp [*]; done)), H', ⟨by first | omega | exact Nat.le_refl _⟩, ⟨by (with_reducible repeat (first | apply Kd.R_alloc | apply Kd.R_drewN | apply Kd.R_drew)); exact HO157.out⟩, ⟨by repeat (first | (with_reducible first | exact HB.out | apply below_alloc | apply pw_below_drewN | apply below_drew1) | exact HB.out)⟩⟩
            · rw [if_neg c10] at H
              have c10b0 : (((rdOf ByteArray.empty t155 3).size : Int) == 1) = false := beq_eq_false_iff_ne.mpr c10
              have c10b1 : (((rdOf ByteArray.empty t155 3).size : Int) != 1) = true := bne_iff_ne.mpr c10
              have H' := Aside0.mk H
              clear H
              obtain ⟨Ao13, co13, eo13⟩ := Kd.R_slice HO157.out
              subst eo13
              have p158 : 0 ≤ (0 : Int) := (by omega)
              have q158 : 0 < (t155.length : Int) := of_decide_eq_true (by first | (with_reducible assumption) | assumption)
              obtain ⟨ad158, e158, hx158_0⟩ := Kd.at_string (Kd.R_reads' HO157.out).2.2 0 p158 q158
              cases e158
              have qi158 : (0 < t155.length) = True := eq_true (by omega)
              (try rw [show ((0 : Int)).toNat = 0 from rfl] at hx158_0)
              (try rw [Addr.add_zero'] at hx158_0)
              replace p158 := eq_true p158
              replace q158 := eq_true q158
              go_wp2_with (first | (go_at_call 14; (with_reducible refine (etchhouseref5_IsWord.calls k (rdOf ByteArray.empty t155 0) true _ ?side1 A7.out).mono ?_); (case side1 => exact Tryd.gw_below HG.out (by repeat (first | (with_reducible first | exact HB.out | apply below_alloc | apply pw_below_drewN | apply below_drew1) | exact HB.out))); rintro e w' ⟨rfl, ⟨nd, rfl⟩⟩; (try first | exact ⟨rfl, _, World.drewN_drewN _ _ _⟩ | exact ⟨rfl, _, Eq.trans (World.drewN_drewN _ _ _) (congrArg (World.drewN _) (Nat.add_assoc _ _ _))⟩); have p160 : 0 ≤ (3 : Int) := (by omega); have q160 : 3 < (t155.length : Int) := of_decide_eq_true (by first | (with_reducible assumption) | assumption); obtain ⟨ad160, e160, hx160_0⟩ := Kd.at_string (Kd.R_reads' HO157.out).2.2 3 p160 q160; obtain rfl : ad158 = ad160 := (by injection e160); (try simp only [show (3 : Int).toNat = 3 from rfl, Nat.reduceMul, Nat.reduceEqDiff, Go.Addr.add, ↓reduceIte] at hx160_0); have qi160 : (3 < t155.length) = True := eq_true (by omega); (try rw [show ((3 : Int)).toNat = 3 from rfl] at hx160_0); replace p160 := eq_true p160; replace q160 := eq_true q160))
              repeat (go_quiet (first | (go_at_call 14; (with_reducible refine (etchhouseref5_IsWord.calls k (rdOf ByteArray.empty t155 0) true _ ?side1 A7.out).mono ?_); (case side1 => exact Tryd.gw_below HG.out (by repeat (first | (with_reducible first | exact HB.out | apply below_alloc | apply pw_below_drewN | apply below_drew1) | exact HB.out))); rintro e w' ⟨rfl, ⟨nd, rfl⟩⟩; (try first | exact ⟨rfl, _, World.drewN_drewN _ _ _⟩ | exact ⟨rfl, _, Eq.trans (World.drewN_drewN _ _ _) (congrArg (World.drewN _) (Nat.add_assoc _ _ _))⟩); have p160 : 0 ≤ (3 : Int) := (by omega); have q160 : 3 < (t155.length : Int) := of_decide_eq_true (by first | (with_reducible assumption) | assumption); obtain ⟨ad160, e160, hx160_0⟩ := Kd.at_string (Kd.R_reads' HO157.out).2.2 3 p160 q160; obtain rfl : ad158 = ad160 := (by injection e160); (try simp only [show (3 : Int).toNat = 3 from rfl, Nat.reduceMul, Nat.reduceEqDiff, Go.Addr.add, ↓reduceIte] at hx160_0); have qi160 : (3 < t155.length) = True := eq_true (by omega); (try rw [show ((3 : Int)).toNat = 3 from rfl] at hx160_0); replace p160 := eq_true p160; replace q160 := eq_true q160)); try go_wp2_with (first | (go_at_call 14; (with_reducible refine (etchhouseref5_IsWord.calls k (rdOf ByteArray.empty t155 0) true _ ?side1 A7.out).mono ?_); (case side1 => exact Tryd.gw_below HG.out (by repeat (first | (with_reducible first | exact HB.out | apply below_alloc | apply pw_below_drewN | apply below_drew1) | exact HB.out))); rintro e w' ⟨rfl, ⟨nd, rfl⟩⟩; (try first | exact ⟨rfl, _, World.drewN_drewN _ _ _⟩ | exact ⟨rfl, _, Eq.trans (World.drewN_drewN _ _ _) (congrArg (World.drewN _) (Nat.add_assoc _ _ _))⟩); have p160 : 0 ≤ (3 : Int) := (by omega); have q160 : 3 < (t155.length : Int) := of_decide_eq_true (by first | (with_reducible assumption) | assumption); obtain ⟨ad160, e160, hx160_0⟩ := Kd.at_string (Kd.R_reads' HO157.out).2.2 3 p160 q160; obtain rfl : ad158 = ad160 := (by injection e160); (try simp only [show (3 : Int).toNat = 3 from rfl, Nat.reduceMul, Nat.reduceEqDiff, Go.Addr.add, ↓reduceIte] at hx160_0); have qi160 : (3 < t155.length) = True := eq_true (by omega); (try rw [show ((3 : Int)).toNat = 3 from rfl] at hx160_0); replace p160 := eq_true p160; replace q160 := eq_true q160)))
              go_meet
              case rel => exact ⟨_, (true), (by first | rfl | (simp; done) | (simp [*]; done)), H', ⟨by first | omega | exact Nat.le_refl _⟩, ⟨by (with_reducible repeat (first | apply Kd.R_alloc | apply Kd.R_drewN | apply Kd.R_drew)); exact HO157.out⟩, ⟨by repeat (first | (with_reducible first | exact HB.out | apply below_alloc | apply pw_below_drewN | apply below_drew1) | exact HB.out)⟩⟩
          · rw [if_neg c9] at H
            exact absurd H (by simp)
        · replace c8 := Bool.eq_false_iff.mpr c8
          subst c8
          have H1 : (etchhouseref12_ReadSerial.j0 k t155 true) = some (r1, r2, r3, r4) := by rw [if_neg (show ¬ (false = true) by decide)] at H; exact H
          clear H
          have H := H1
          clear H1
          have H' := Aside0.mk H
          clear H
          obtain ⟨Ao14, co14, eo14⟩ := Kd.R_slice HO157.out
          subst eo14
          have p158 : 0 ≤ (0 : Int) := (by omega)
          have q158 : 0 < (t155.length : Int) := of_decide_eq_true (by first | (with_reducible assumption) | assumption)
          obtain ⟨ad158, e158, hx158_0⟩ := Kd.at_string (Kd.R_reads' HO157.out).2.2 0 p158 q158
          cases e158
          have qi158 : (0 < t155.length) = True := eq_true (by omega)
          (try rw [show ((0 : Int)).toNat = 0 from rfl] at hx158_0)
          (try rw [Addr.add_zero'] at hx158_0)
          replace p158 := eq_true p158
          replace q158 := eq_true q158
          go_wp2_with (first | (go_at_call 14; (with_reducible refine (etchhouseref5_IsWord.calls k (rdOf ByteArray.empty t155 0) false _ ?side1 A7.out).mono ?_); (case side1 => exact Tryd.gw_below HG.out (by repeat (first | (with_reducible first | exact HB.out | apply below_alloc | apply pw_below_drewN | apply below_drew1) | exact HB.out))); rintro e w' ⟨rfl, ⟨nd, rfl⟩⟩; (try first | exact ⟨rfl, _, World.drewN_drewN _ _ _⟩ | exact ⟨rfl, _, Eq.trans (World.drewN_drewN _ _ _) (congrArg (World.drewN _) (Nat.add_assoc _ _ _))⟩)))
          repeat (go_quiet (first | (go_at_call 14; (with_reducible refine (etchhouseref5_IsWord.calls k (rdOf ByteArray.empty t155 0) false _ ?side1 A7.out).mono ?_); (case side1 => exact Tryd.gw_below HG.out (by repeat (first | (with_reducible first | exact HB.out | apply below_alloc | apply pw_below_drewN | apply below_drew1) | exact HB.out))); rintro e w' ⟨rfl, ⟨nd, rfl⟩⟩; (try first | exact ⟨rfl, _, World.drewN_drewN _ _ _⟩ | exact ⟨rfl, _, Eq.trans (World.drewN_drewN _ _ _) (congrArg (World.drewN _) (Nat.add_assoc _ _ _))⟩))); try go_wp2_with (first | (go_at_call 14; (with_reducible refine (etchhouseref5_IsWord.calls k (rdOf ByteArray.empty t155 0) false _ ?side1 A7.out).mono ?_); (case side1 => exact Tryd.gw_below HG.out (by repeat (first | (with_reducible first | exact HB.out | apply below_alloc | apply pw_below_drewN | apply below_drew1) | exact HB.out))); rintro e w' ⟨rfl, ⟨nd, rfl⟩⟩; (try first | exact ⟨rfl, _, World.drewN_drewN _ _ _⟩ | exact ⟨rfl, _, Eq.trans (World.drewN_drewN _ _ _) (congrArg (World.drewN _) (Nat.add_assoc _ _ _))⟩))))
          go_meet
          case rel => exact ⟨_, (true), (by first | rfl | (simp; done) | (simp [*]; done)), H', ⟨by first | omega | exact Nat.le_refl _⟩, ⟨by (with_reducible repeat (first | apply Kd.R_alloc | apply Kd.R_drewN | apply Kd.R_drew)); exact HO157.out⟩, ⟨by repeat (first | (with_reducible first | exact HB.out | apply below_alloc | apply pw_below_drewN | apply below_drew1) | exact HB.out)⟩⟩
      · rw [if_neg c6] at H
        exact absurd H (by simp)
    · rw [if_neg c5] at H
      have c5b0 : ((t155.length : Int) == 4) = false := beq_eq_false_iff_ne.mpr c5
      have c5b1 : ((t155.length : Int) != 4) = true := bne_iff_ne.mpr c5
      (first | rw [c5b0] | (simp only [i64_w, i32_w]; rw [c5b0]) | skip)
      have H' := Aside0.mk H
      clear H
      obtain ⟨Ao15, co15, eo15⟩ := Kd.R_slice HO157.out
      subst eo15
      go_wp2
      repeat (go_quiet (fail); try go_wp2)
      go_meet
      case rel => exact ⟨_, (true), (by first | rfl | (simp; done) | (simp [*]; done)), H', ⟨by first | omega | exact Nat.le_refl _⟩, ⟨by (with_reducible repeat (first | apply Kd.R_alloc | apply Kd.R_drewN | apply Kd.R_drew)); exact HO157.out⟩, ⟨by repeat (first | (with_reducible first | exact HB.out | apply below_alloc | apply pw_below_drewN | apply below_drew1) | exact HB.out)⟩⟩
  case rest =>
    clear HC3
    try clear c1
    try clear p1
    try clear q1
    try clear hx1
    try clear qi1
    try clear p2
    try clear c5
    try clear c5b0
    try clear c5b1
    try clear c6
    try clear c6b0
    try clear c6b1
    try clear c8
    try clear c9
    try clear c9b0
    try clear c9b1
    try clear c10
    try clear c10b0
    try clear c10b1
    try clear p15
    try clear q15
    try clear hx15
    try clear qi15
    try clear hx158_0
    try clear hx160_0
    try clear hx161_0
    try clear p158
    try clear p160
    try clear p161
    try clear q158
    try clear q160
    try clear q161
    obtain ⟨kq, x36_2, rfl, HA, HJ2, HO_6, HB⟩ := hcut
    cases kq with
    | zero => exact absurd HA.out (by simp [etchhouseref12_ReadSerial.j0])
    | succ kj2 =>
      have H := HA.out
      clear HA
      simp only [etchhouseref12_ReadSerial.j0] at H
      by_cases c16 : x36_2 = true
      · subst c16
        have H1 : (some ((⟨#[]⟩ : ByteArray), 0, 0, 10)) = some (r1, r2, r3, r4) := by rw [if_pos rfl] at H; exact H
        clear H
        have H := H1
        clear H1
        simp only [Option.some.injEq, Prod.mk.injEq] at H
        obtain ⟨rfl, rfl, rfl, rfl⟩ := H
        go_wp2
        repeat (go_quiet (fail); try go_wp2)
        refine bodyPost_ret (results_list (rs := [.tmp 2, .tmp 3, .tmp 4, .tmp 5]) rfl (by simp) (.tmp (.tmp (.tmp (.tmp .nil))))) rfl ?_
        exact ⟨by first | rfl | (simp [errW_none, errW_some] <;> rfl) | (simp [*, errW_none, errW_some] <;> rfl), by repeat (first | (with_reducible first | exact HB.out | apply below_alloc | apply pw_below_drewN | apply below_drew1) | exact HB.out)⟩
      · replace c16 := Bool.eq_false_iff.mpr c16
        subst c16
        have H1 : (if 1 < (t155.length : Int) then ((etchhouseref12_digits.f kj2 (rdOf ByteArray.empty t155 1)).bind fun bt164 => (if 2 < (t155.length : Int) then ((etchhouseref12_digits.f kj2 (rdOf ByteArray.empty t155 2)).bind fun bt167 => (if bt164.2 = true then (etchhouseref12_ReadSerial.j1 kj2 t155 bt164.1 bt167.1 (!bt167.2)) else (etchhouseref12_ReadSerial.j1 kj2 t155 bt164.1 bt167.1 true))) else (none))) else (none)) = some (r1, r2, r3, r4) := by rw [if_neg (show ¬ (false = true) by decide)] at H; exact H
        clear H
        have H := H1
        clear H1
        by_cases c17 : 1 < (t155.length : Int)
        · rw [if_pos c17] at H
          have c17b0 : decide (1 < (t155.length : Int)) = true := decide_eq_true c17
          have c17b1 : decide (1 < t155.length) = true := decide_eq_true (by omega)
          clear c17
          replace H := Option.bind_eq_some_iff.mp H
          obtain ⟨⟨t164, t165⟩, A180, H⟩ := H
          replace H : (if 2 < (t155.length : Int) then ((etchhouseref12_digits.f kj2 (rdOf ByteArray.empty t155 2)).bind fun bt167 => (if t165 = true then (etchhouseref12_ReadSerial.j1 kj2 t155 t164 bt167.1 (!bt167.2)) else (etchhouseref12_ReadSerial.j1 kj2 t155 t164 bt167.1 true))) else (none)) = some (r1, r2, r3, r4) := H
          have A18 := Aside0.mk A180
          clear A180
          by_cases c19 : 2 < (t155.length : Int)
          · rw [if_pos c19] at H
            have c19b0 : decide (2 < (t155.length : Int)) = true := decide_eq_true c19
            have c19b1 : decide (2 < t155.length) = true := decide_eq_true (by omega)
            clear c19
            replace H := Option.bind_eq_some_iff.mp H
            obtain ⟨⟨t167, t168⟩, A200, H⟩ := H
            replace H : (if t165 = true then (etchhouseref12_ReadSerial.j1 kj2 t155 t164 t167 (!t168)) else (etchhouseref12_ReadSerial.j1 kj2 t155 t164 t167 true)) = some (r1, r2, r3, r4) := H
            have A20 := Aside0.mk A200
            clear A200
            have HC21 := Aside0.mk H
            clear H
            obtain ⟨Ao22, co22, eo22⟩ := Kd.R_slice HO_6.out
            subst eo22
            have p163 : 0 ≤ (1 : Int) := (by omega)
            have q163 : 1 < (t155.length : Int) := of_decide_eq_true (by first | (with_reducible assumption) | assumption)
            obtain ⟨ad163, e163, hx163_0⟩ := Kd.at_string (Kd.R_reads' HO_6.out).2.2 1 p163 q163
            cases e163
            (try simp only [show (1 : Int).toNat = 1 from rfl, Nat.reduceMul, Nat.reduceEqDiff, Go.Addr.add, ↓reduceIte] at hx163_0)
            have qi163 : (1 < t155.length) = True := eq_true (by omega)
            (try rw [show ((1 : Int)).toNat = 1 from rfl] at hx163_0)
            replace p163 := eq_true p163
            replace q163 := eq_true q163
            go_upto_region 6 with (first | (go_at_call 23; (with_reducible refine (etchhouseref12_digits.calls kj2 (rdOf ByteArray.empty t155 1) t164 t165 _ ?side1 A18.out).mono ?_); (case side1 => exact Tryd.gw_below HG.out (by repeat (first | (with_reducible first | exact HB.out | apply below_alloc | apply pw_below_drewN | apply below_drew1) | exact HB.out))); rintro e w23 ⟨rfl, hb⟩; have n0_ := Aside0.mk (Kd.R_below (by (with_reducible repeat (first | apply Kd.R_alloc | apply Kd.R_drewN | apply Kd.R_drew)); exact HO_6.out) hb); have n1_ := Aside0.mk (below_step (by repeat (first | (with_reducible first | exact HB.out | apply below_alloc | apply pw_below_drewN | apply below_drew1) | exact HB.out)) hb); clear HO_6; clear HB; have HO_6 := n0_; have HB := n1_; clear n0_ n1_; (try clear hb); (try clear hb2); (try clear hk); (try clear hi); have p166 : 0 ≤ (2 : Int) := (by omega); have q166 : 2 < (t155.length : Int) := of_decide_eq_true (by first | (with_reducible assumption) | assumption); obtain ⟨ad166, e166, hx166_0⟩ := Kd.at_string (Kd.R_reads' HO_6.out).2.2 2 p166 q166; obtain rfl : ad163 = ad166 := (by injection e166); (try simp only [show (2 : Int).toNat = 2 from rfl, Nat.reduceMul, Nat.reduceEqDiff, Go.Addr.add, ↓reduceIte] at hx166_0); have qi166 : (2 < t155.length) = True := eq_true (by omega); (try rw [show ((2 : Int)).toNat = 2 from rfl] at hx166_0); replace p166 := eq_true p166; replace q166 := eq_true q166) | (go_at_call 23; (with_reducible refine (etchhouseref12_digits.calls kj2 (rdOf ByteArray.empty t155 2) t167 t168 _ ?side1 A20.out).mono ?_); (case side1 => exact Tryd.gw_below HG.out (by repeat (first | (with_reducible first | exact HB.out | apply below_alloc | apply pw_below_drewN | apply below_drew1) | exact HB.out))); rintro e w24 ⟨rfl, hb⟩; have n0_ := Aside0.mk (Kd.R_below (by (with_reducible repeat (first | apply Kd.R_alloc | apply Kd.R_drewN | apply Kd.R_drew)); exact HO_6.out) hb); have n1_ := Aside0.mk (below_step (by repeat (first | (with_reducible first | exact HB.out | apply below_alloc | apply pw_below_drewN | apply below_drew1) | exact HB.out)) hb); clear HO_6; clear HB; have HO_6 := n0_; have HB := n1_; clear n0_ n1_; (try clear hb); (try clear hb2); (try clear hk); (try clear hi)))
            repeat (go_quiet (first | (go_at_call 23; (with_reducible refine (etchhouseref12_digits.calls kj2 (rdOf ByteArray.empty t155 1) t164 t165 _ ?side1 A18.out).mono ?_); (case side1 => exact Tryd.gw_below HG.out (by repeat (first | (with_reducible first | exact HB.out | apply below_alloc | apply pw_below_drewN | apply below_drew1) | exact HB.out))); rintro e w23 ⟨rfl, hb⟩; have n0_ := Aside0.mk (Kd.R_below (by (with_reducible repeat (first | apply Kd.R_alloc | apply Kd.R_drewN | apply Kd.R_drew)); exact HO_6.out) hb); have n1_ := Aside0.mk (below_step (by repeat (first | (with_reducible first | exact HB.out | apply below_alloc | apply pw_below_drewN | apply below_drew1) | exact HB.out)) hb); clear HO_6; clear HB; have HO_6 := n0_; have HB := n1_; clear n0_ n1_; (try clear hb); (try clear hb2); (try clear hk); (try clear hi); have p166 : 0 ≤ (2 : Int) := (by omega); have q166 : 2 < (t155.length : Int) := of_decide_eq_true (by first | (with_reducible assumption) | assumption); obtain ⟨ad166, e166, hx166_0⟩ := Kd.at_string (Kd.R_reads' HO_6.out).2.2 2 p166 q166; obtain rfl : ad163 = ad166 := (by injection e166); (try simp only [show (2 : Int).toNat = 2 from rfl, Nat.reduceMul, Nat.reduceEqDiff, Go.Addr.add, ↓reduceIte] at hx166_0); have qi166 : (2 < t155.length) = True := eq_true (by omega); (try rw [show ((2 : Int)).toNat = 2 from rfl] at hx166_0); replace p166 := eq_true p166; replace q166 := eq_true q166) | (go_at_call 23; (with_reducible refine (etchhouseref12_digits.calls kj2 (rdOf ByteArray.empty t155 2) t167 t168 _ ?side1 A20.out).mono ?_); (case side1 => exact Tryd.gw_below HG.out (by repeat (first | (with_reducible first | exact HB.out | apply below_alloc | apply pw_below_drewN | apply below_drew1) | exact HB.out))); rintro e w24 ⟨rfl, hb⟩; have n0_ := Aside0.mk (Kd.R_below (by (with_reducible repeat (first | apply Kd.R_alloc | apply Kd.R_drewN | apply Kd.R_drew)); exact HO_6.out) hb); have n1_ := Aside0.mk (below_step (by repeat (first | (with_reducible first | exact HB.out | apply below_alloc | apply pw_below_drewN | apply below_drew1) | exact HB.out)) hb); clear HO_6; clear HB; have HO_6 := n0_; have HB := n1_; clear n0_ n1_; (try clear hb); (try clear hb2); (try clear hk); (try clear hi))); go_upto_region 6 with (first | (go_at_call 23; (with_reducible refine (etchhouseref12_digits.calls kj2 (rdOf ByteArray.empty t155 1) t164 t165 _ ?side1 A18.out).mono ?_); (case side1 => exact Tryd.gw_below HG.out (by repeat (first | (with_reducible first | exact HB.out | apply below_alloc | apply pw_below_drewN | apply below_drew1) | exact HB.out))); rintro e w23 ⟨rfl, hb⟩; have n0_ := Aside0.mk (Kd.R_below (by (with_reducible repeat (first | apply Kd.R_alloc | apply Kd.R_drewN | apply Kd.R_drew)); exact HO_6.out) hb); have n1_ := Aside0.mk (below_step (by repeat (first | (with_reducible first | exact HB.out | apply below_alloc | apply pw_below_drewN | apply below_drew1) | exact HB.out)) hb); clear HO_6; clear HB; have HO_6 := n0_; have HB := n1_; clear n0_ n1_; (try clear hb); (try clear hb2); (try clear hk); (try clear hi); have p166 : 0 ≤ (2 : Int) := (by omega); have q166 : 2 < (t155.length : Int) := of_decide_eq_true (by first | (with_reducible assumption) | assumption); obtain ⟨ad166, e166, hx166_0⟩ := Kd.at_string (Kd.R_reads' HO_6.out).2.2 2 p166 q166; obtain rfl : ad163 = ad166 := (by injection e166); (try simp only [show (2 : Int).toNat = 2 from rfl, Nat.reduceMul, Nat.reduceEqDiff, Go.Addr.add, ↓reduceIte] at hx166_0); have qi166 : (2 < t155.length) = True := eq_true (by omega); (try rw [show ((2 : Int)).toNat = 2 from rfl] at hx166_0); replace p166 := eq_true p166; replace q166 := eq_true q166) | (go_at_call 23; (with_reducible refine (etchhouseref12_digits.calls kj2 (rdOf ByteArray.empty t155 2) t167 t168 _ ?side1 A20.out).mono ?_); (case side1 => exact Tryd.gw_below HG.out (by repeat (first | (with_reducible first | exact HB.out | apply below_alloc | apply pw_below_drewN | apply below_drew1) | exact HB.out))); rintro e w24 ⟨rfl, hb⟩; have n0_ := Aside0.mk (Kd.R_below (by (with_reducible repeat (first | apply Kd.R_alloc | apply Kd.R_drewN | apply Kd.R_drew)); exact HO_6.out) hb); have n1_ := Aside0.mk (below_step (by repeat (first | (with_reducible first | exact HB.out | apply below_alloc | apply pw_below_drewN | apply below_drew1) | exact HB.out)) hb); clear HO_6; clear HB; have HO_6 := n0_; have HB := n1_; clear n0_ n1_; (try clear hb); (try clear hb2); (try clear hk); (try clear hi))))
            (try simp only [Act.put, List.setIfInBounds_toArray, List.set_cons_zero, List.set_cons_succ])
            go_cut [56] (fun v56 wc => ∃ (kq : Nat) (x56_20 : Bool), v56 = .bool x56_20 ∧ Aside0 (etchhouseref12_ReadSerial.j1 kq t155 t164 t167 x56_20 = some (r1, r2, r3, r4)) ∧ Aside0 (kq ≤ kj2) ∧ Aside0 (Kd.R Kd.string 9 wc w.heap.size (fun _ => True) (.slice (some ad163) t155.length co22) t155) ∧ Aside0 (Below w.heap.size w wc))
            case first =>
              have H := HC21.out
              clear HC21
              by_cases c25 : t165 = true
              · subst c25
                have H1 : (etchhouseref12_ReadSerial.j1 kj2 t155 t164 t167 (!t168)) = some (r1, r2, r3, r4) := by rw [if_pos rfl] at H; exact H
                clear H
                have H := H1
                clear H1
                have H' := Aside0.mk H
                clear H
                go_wp2
                repeat (go_quiet (fail); try go_wp2)
                go_meet
                case rel => exact ⟨_, (!t168), (by first | rfl | (simp; done) | (simp [*]; done)), H', ⟨by have := HJ2.out; first | omega | exact Nat.le_refl _⟩, ⟨by (with_reducible repeat (first | apply Kd.R_alloc | apply Kd.R_drewN | apply Kd.R_drew)); exact HO_6.out⟩, ⟨by repeat (first | (with_reducible first | exact HB.out | apply below_alloc | apply pw_below_drewN | apply below_drew1) | exact HB.out)⟩⟩
              · replace c25 := Bool.eq_false_iff.mpr c25
                subst c25
                have H1 : (etchhouseref12_ReadSerial.j1 kj2 t155 t164 t167 true) = some (r1, r2, r3, r4) := by rw [if_neg (show ¬ (false = true) by decide)] at H; exact H
                clear H
                have H := H1
                clear H1
                have H' := Aside0.mk H
                clear H
                go_wp2
                repeat (go_quiet (fail); try go_wp2)
                go_meet
                case rel => exact ⟨_, (true), (by first | rfl | (simp; done) | (simp [*]; done)), H', ⟨by have := HJ2.out; first | omega | exact Nat.le_refl _⟩, ⟨by (with_reducible repeat (first | apply Kd.R_alloc | apply Kd.R_drewN | apply Kd.R_drew)); exact HO_6.out⟩, ⟨by repeat (first | (with_reducible first | exact HB.out | apply below_alloc | apply pw_below_drewN | apply below_drew1) | exact HB.out)⟩⟩
            case rest =>
              clear HC21
              try clear c1
              try clear p1
              try clear q1
              try clear hx1
              try clear qi1
              try clear c2
              try clear p2
              try clear c5
              try clear c5b0
              try clear c5b1
              try clear c6
              try clear c6b0
              try clear c6b1
              try clear c8
              try clear c9
              try clear c9b0
              try clear c9b1
              try clear c10
              try clear c10b0
              try clear c10b1
              try clear p15
              try clear q15
              try clear hx15
              try clear qi15
              try clear c16
              try clear p16
              try clear q16
              try clear hx16
              try clear qi16
              try clear c17
              try clear c17b0
              try clear c17b1
              try clear c19
              try clear c19b0
              try clear c19b1
              try clear c25
              try clear hx158_0
              try clear hx160_0
              try clear hx161_0
              try clear hx163_0
              try clear hx166_0
              try clear p1
              try clear p15
              try clear p158
              try clear p160
              try clear p161
              try clear p163
              try clear p166
              try clear p2
              try clear q1
              try clear q15
              try clear q158
              try clear q160
              try clear q161
              try clear q163
              try clear q166
              obtain ⟨kq, x56_20, rfl, HA, HJ20, HO_6, HB⟩ := hcut
              cases kq with
              | zero => exact absurd HA.out (by simp [etchhouseref12_ReadSerial.j1])
              | succ kj20 =>
                have H := HA.out
                clear HA
                simp only [etchhouseref12_ReadSerial.j1] at H
                by_cases c26 : x56_20 = true
                · subst c26
                  have H1 : (some ((⟨#[]⟩ : ByteArray), 0, 0, 10)) = some (r1, r2, r3, r4) := by rw [if_pos rfl] at H; exact H
                  clear H
                  have H := H1
                  clear H1
                  simp only [Option.some.injEq, Prod.mk.injEq] at H
                  obtain ⟨rfl, rfl, rfl, rfl⟩ := H
                  go_wp2
                  repeat (go_quiet (fail); try go_wp2)
                  refine bodyPost_ret (results_list (rs := [.tmp 2, .tmp 3, .tmp 4, .tmp 5]) rfl (by simp) (.tmp (.tmp (.tmp (.tmp .nil))))) rfl ?_
                  exact ⟨by first | rfl | (simp [errW_none, errW_some] <;> rfl) | (simp [*, errW_none, errW_some] <;> rfl), by repeat (first | (with_reducible first | exact HB.out | apply below_alloc | apply pw_below_drewN | apply below_drew1) | exact HB.out)⟩
                · replace c26 := Bool.eq_false_iff.mpr c26
                  subst c26
                  have H1 : (if 0 < (t155.length : Int) then (if (rdOf ByteArray.empty t155 0).size + 1 ≤ 9223372036854775807 then (if 1 < (t155.length : Int) then (if ((rdOf ByteArray.empty t155 0) ++ (⟨#[46]⟩ : ByteArray)).size + (rdOf ByteArray.empty t155 1).size ≤ 9223372036854775807 then (if (((rdOf ByteArray.empty t155 0) ++ (⟨#[46]⟩ : ByteArray)) ++ (rdOf ByteArray.empty t155 1)).size + 1 ≤ 9223372036854775807 then (if 2 < (t155.length : Int) then (if ((((rdOf ByteArray.empty t155 0) ++ (⟨#[46]⟩ : ByteArray)) ++ (rdOf ByteArray.empty t155 1)) ++ (⟨#[46]⟩ : ByteArray)).size + (rdOf ByteArray.empty t155 2).size ≤ 9223372036854775807 then ((etchhouseref12_sign.f kj20 (((((rdOf ByteArray.empty t155 0) ++ (⟨#[46]⟩ : ByteArray)) ++ (rdOf ByteArray.empty t155 1)) ++ (⟨#[46]⟩ : ByteArray)) ++ (rdOf ByteArray.empty t155 2))).bind fun t172 => (if 3 < (t155.length : Int) then (if t172.toList = (rdOf ByteArray.empty t155 3).toList then (some (rdOf ByteArray.empty t155 0, t164, t167, 0)) else (some ((⟨#[]⟩ : ByteArray), 0, 0, 15))) else (none))) else (none)) else (none)) else (none)) else (none)) else (none)) else (none)) else (none)) = some (r1, r2, r3, r4) := by rw [if_neg (show ¬ (false = true) by decide)] at H; exact H
                  clear H
                  have H := H1
                  clear H1
                  by_cases c27 : 0 < (t155.length : Int)
                  · rw [if_pos c27] at H
                    have c27b0 : decide (0 < (t155.length : Int)) = true := decide_eq_true c27
                    have c27b1 : decide (0 < t155.length) = true := decide_eq_true (by omega)
                    clear c27
                    by_cases c28 : (rdOf ByteArray.empty t155 0).size + 1 ≤ 9223372036854775807
                    · rw [if_pos c28] at H
                      have c28b0 := eq_true c28
                      have c28b1 : decide ((rdOf ByteArray.empty t155 0).size + 1 ≤ 9223372036854775807) = true := decide_eq_true c28
                      try have c28b2 : (9223372036854775807 < (rdOf ByteArray.empty t155 0).size + 1) = False := eq_false (Nat.not_lt.2 c28)
                      by_cases c29 : 1 < (t155.length : Int)
                      · rw [if_pos c29] at H
                        have c29b0 : decide (1 < (t155.length : Int)) = true := decide_eq_true c29
                        have c29b1 : decide (1 < t155.length) = true := decide_eq_true (by omega)
                        clear c29
                        by_cases c30 : ((rdOf ByteArray.empty t155 0) ++ (⟨#[46]⟩ : ByteArray)).size + (rdOf ByteArray.empty t155 1).size ≤ 9223372036854775807
                        · rw [if_pos c30] at H
                          have c30b0 := eq_true c30
                          have c30b1 : decide (((rdOf ByteArray.empty t155 0) ++ (⟨#[46]⟩ : ByteArray)).size + (rdOf ByteArray.empty t155 1).size ≤ 9223372036854775807) = true := decide_eq_true c30
                          try have c30b2 : (9223372036854775807 < ((rdOf ByteArray.empty t155 0) ++ (⟨#[46]⟩ : ByteArray)).size + (rdOf ByteArray.empty t155 1).size) = False := eq_false (Nat.not_lt.2 c30)
                          try have c30b3 : (9223372036854775807 < (rdOf ByteArray.empty t155 0).size + 1 + (rdOf ByteArray.empty t155 1).size) = False := eq_false (Nat.not_lt.2 (by have e_ : ((rdOf ByteArray.empty t155 0) ++ (⟨#[46]⟩ : ByteArray)).size + (rdOf ByteArray.empty t155 1).size = (rdOf ByteArray.empty t155 0).size + 1 + (rdOf ByteArray.empty t155 1).size := (by simp only [ByteArray.size_append]; rfl); have h_ := c30; rw [e_] at h_; exact h_))
                          by_cases c31 : (((rdOf ByteArray.empty t155 0) ++ (⟨#[46]⟩ : ByteArray)) ++ (rdOf ByteArray.empty t155 1)).size + 1 ≤ 9223372036854775807
                          · rw [if_pos c31] at H
                            have c31b0 := eq_true c31
                            have c31b1 : decide ((((rdOf ByteArray.empty t155 0) ++ (⟨#[46]⟩ : ByteArray)) ++ (rdOf ByteArray.empty t155 1)).size + 1 ≤ 9223372036854775807) = true := decide_eq_true c31
                            try have c31b2 : (9223372036854775807 < (((rdOf ByteArray.empty t155 0) ++ (⟨#[46]⟩ : ByteArray)) ++ (rdOf ByteArray.empty t155 1)).size + 1) = False := eq_false (Nat.not_lt.2 c31)
                            try have c31b3 : (9223372036854775807 < (rdOf ByteArray.empty t155 0).size + 1 + (rdOf ByteArray.empty t155 1).size + 1) = False := eq_false (Nat.not_lt.2 (by have e_ : (((rdOf ByteArray.empty t155 0) ++ (⟨#[46]⟩ : ByteArray)) ++ (rdOf ByteArray.empty t155 1)).size + 1 = (rdOf ByteArray.empty t155 0).size + 1 + (rdOf ByteArray.empty t155 1).size + 1 := (by simp only [ByteArray.size_append]; rfl); have h_ := c31; rw [e_] at h_; exact h_))
                            by_cases c32 : 2 < (t155.length : Int)
                            · rw [if_pos c32] at H
                              have c32b0 : decide (2 < (t155.length : Int)) = true := decide_eq_true c32
                              have c32b1 : decide (2 < t155.length) = true := decide_eq_true (by omega)
                              clear c32
                              by_cases c33 : ((((rdOf ByteArray.empty t155 0) ++ (⟨#[46]⟩ : ByteArray)) ++ (rdOf ByteArray.empty t155 1)) ++ (⟨#[46]⟩ : ByteArray)).size + (rdOf ByteArray.empty t155 2).size ≤ 9223372036854775807
                              · rw [if_pos c33] at H
                                have c33b0 := eq_true c33
                                have c33b1 : decide (((((rdOf ByteArray.empty t155 0) ++ (⟨#[46]⟩ : ByteArray)) ++ (rdOf ByteArray.empty t155 1)) ++ (⟨#[46]⟩ : ByteArray)).size + (rdOf ByteArray.empty t155 2).size ≤ 9223372036854775807) = true := decide_eq_true c33
                                try have c33b2 : (9223372036854775807 < ((((rdOf ByteArray.empty t155 0) ++ (⟨#[46]⟩ : ByteArray)) ++ (rdOf ByteArray.empty t155 1)) ++ (⟨#[46]⟩ : ByteArray)).size + (rdOf ByteArray.empty t155 2).size) = False := eq_false (Nat.not_lt.2 c33)
                                try have c33b3 : (9223372036854775807 < (rdOf ByteArray.empty t155 0).size + 1 + (rdOf ByteArray.empty t155 1).size + 1 + (rdOf ByteArray.empty t155 2).size) = False := eq_false (Nat.not_lt.2 (by have e_ : ((((rdOf ByteArray.empty t155 0) ++ (⟨#[46]⟩ : ByteArray)) ++ (rdOf ByteArray.empty t155 1)) ++ (⟨#[46]⟩ : ByteArray)).size + (rdOf ByteArray.empty t155 2).size = (rdOf ByteArray.empty t155 0).size + 1 + (rdOf ByteArray.empty t155 1).size + 1 + (rdOf ByteArray.empty t155 2).size := (by simp only [ByteArray.size_append]; rfl); have h_ := c33; rw [e_] at h_; exact h_))
                                replace H := Option.bind_eq_some_iff.mp H
                                obtain ⟨t172, A340, H⟩ := H
                                replace H : (if 3 < (t155.length : Int) then (if t172.toList = (rdOf ByteArray.empty t155 3).toList then (some (rdOf ByteArray.empty t155 0, t164, t167, 0)) else (some ((⟨#[]⟩ : ByteArray), 0, 0, 15))) else (none)) = some (r1, r2, r3, r4) := H
                                have A34 := Aside0.mk A340
                                clear A340
                                by_cases c35 : 3 < (t155.length : Int)
                                · rw [if_pos c35] at H
                                  have c35b0 : decide (3 < (t155.length : Int)) = true := decide_eq_true c35
                                  have c35b1 : decide (3 < t155.length) = true := decide_eq_true (by omega)
                                  clear c35
                                  by_cases c36 : t172.toList = (rdOf ByteArray.empty t155 3).toList
                                  · rw [if_pos c36] at H
                                    have c36b0 : (t172.toList == (rdOf ByteArray.empty t155 3).toList) = true := beq_iff_eq.mpr c36
                                    have c36b1 : (t172.toList != (rdOf ByteArray.empty t155 3).toList) = false := bne_eq_false_iff_eq.mpr c36
                                    clear c36
                                    simp only [Option.some.injEq, Prod.mk.injEq] at H
                                    obtain ⟨rfl, rfl, rfl, rfl⟩ := H
                                    have p169 : 0 ≤ (0 : Int) := (by omega)
                                    have q169 : 0 < (t155.length : Int) := of_decide_eq_true (by first | (with_reducible assumption) | assumption)
                                    obtain ⟨ad169, e169, hx169_0⟩ := Kd.at_string (Kd.R_reads' HO_6.out).2.2 0 p169 q169
                                    obtain rfl : ad163 = ad169 := (by injection e169)
                                    have qi169 : (0 < t155.length) = True := eq_true (by omega)
                                    (try rw [show ((0 : Int)).toNat = 0 from rfl] at hx169_0)
                                    (try rw [Addr.add_zero'] at hx169_0)
                                    replace p169 := eq_true p169
                                    replace q169 := eq_true q169
                                    have p170 : 0 ≤ (1 : Int) := (by omega)
                                    have q170 : 1 < (t155.length : Int) := of_decide_eq_true (by first | (with_reducible assumption) | assumption)
                                    obtain ⟨ad170, e170, hx170_0⟩ := Kd.at_string (Kd.R_reads' HO_6.out).2.2 1 p170 q170
                                    obtain rfl : ad163 = ad170 := (by injection e170)
                                    (try simp only [show (1 : Int).toNat = 1 from rfl, Nat.reduceMul, Nat.reduceEqDiff, Go.Addr.add, ↓reduceIte] at hx170_0)
                                    have qi170 : (1 < t155.length) = True := eq_true (by omega)
                                    (try rw [show ((1 : Int)).toNat = 1 from rfl] at hx170_0)
                                    replace p170 := eq_true p170
                                    replace q170 := eq_true q170
                                    have p171 : 0 ≤ (2 : Int) := (by omega)
                                    have q171 : 2 < (t155.length : Int) := of_decide_eq_true (by first | (with_reducible assumption) | assumption)
                                    obtain ⟨ad171, e171, hx171_0⟩ := Kd.at_string (Kd.R_reads' HO_6.out).2.2 2 p171 q171
                                    obtain rfl : ad163 = ad171 := (by injection e171)
                                    (try simp only [show (2 : Int).toNat = 2 from rfl, Nat.reduceMul, Nat.reduceEqDiff, Go.Addr.add, ↓reduceIte] at hx171_0)
                                    have qi171 : (2 < t155.length) = True := eq_true (by omega)
                                    (try rw [show ((2 : Int)).toNat = 2 from rfl] at hx171_0)
                                    replace p171 := eq_true p171
                                    replace q171 := eq_true q171
                                    go_wp2_with (first | (go_at_call 17; (with_reducible refine (etchhouseref12_sign.calls kj20 (((((rdOf ByteArray.empty t155 0) ++ (⟨#[46]⟩ : ByteArray)) ++ (rdOf ByteArray.empty t155 1)) ++ (⟨#[46]⟩ : ByteArray)) ++ (rdOf ByteArray.empty t155 2)) t172 _ ?side1 A34.out).mono ?_); (case side1 => exact Tryd.gw_below HG.out (by repeat (first | (with_reducible first | exact HB.out | apply below_alloc | apply pw_below_drewN | apply below_drew1) | exact HB.out))); rintro e w' ⟨rfl, ⟨nd, rfl⟩⟩; (try first | exact ⟨rfl, _, World.drewN_drewN _ _ _⟩ | exact ⟨rfl, _, Eq.trans (World.drewN_drewN _ _ _) (congrArg (World.drewN _) (Nat.add_assoc _ _ _))⟩); have p173 : 0 ≤ (3 : Int) := (by omega); have q173 : 3 < (t155.length : Int) := of_decide_eq_true (by first | (with_reducible assumption) | assumption); obtain ⟨ad173, e173, hx173_0⟩ := Kd.at_string (Kd.R_reads' HO_6.out).2.2 3 p173 q173; obtain rfl : ad163 = ad173 := (by injection e173); (try simp only [show (3 : Int).toNat = 3 from rfl, Nat.reduceMul, Nat.reduceEqDiff, Go.Addr.add, ↓reduceIte] at hx173_0); have qi173 : (3 < t155.length) = True := eq_true (by omega); (try rw [show ((3 : Int)).toNat = 3 from rfl] at hx173_0); replace p173 := eq_true p173; replace q173 := eq_true q173; have p174 : 0 ≤ (0 : Int) := (by omega); have q174 : 0 < (t155.length : Int) := of_decide_eq_true (by first | (with_reducible assumption) | assumption); obtain ⟨ad174, e174, hx174_0⟩ := Kd.at_string (Kd.R_reads' HO_6.out).2.2 0 p174 q174; obtain rfl : ad163 = ad174 := (by injection e174); have qi174 : (0 < t155.length) = True := eq_true (by omega); (try rw [show ((0 : Int)).toNat = 0 from rfl] at hx174_0); (try rw [Addr.add_zero'] at hx174_0); replace p174 := eq_true p174; replace q174 := eq_true q174))
                                    repeat (go_quiet (first | (go_at_call 17; (with_reducible refine (etchhouseref12_sign.calls kj20 (((((rdOf ByteArray.empty t155 0) ++ (⟨#[46]⟩ : ByteArray)) ++ (rdOf ByteArray.empty t155 1)) ++ (⟨#[46]⟩ : ByteArray)) ++ (rdOf ByteArray.empty t155 2)) t172 _ ?side1 A34.out).mono ?_); (case side1 => exact Tryd.gw_below HG.out (by repeat (first | (with_reducible first | exact HB.out | apply below_alloc | apply pw_below_drewN | apply below_drew1) | exact HB.out))); rintro e w' ⟨rfl, ⟨nd, rfl⟩⟩; (try first | exact ⟨rfl, _, World.drewN_drewN _ _ _⟩ | exact ⟨rfl, _, Eq.trans (World.drewN_drewN _ _ _) (congrArg (World.drewN _) (Nat.add_assoc _ _ _))⟩); have p173 : 0 ≤ (3 : Int) := (by omega); have q173 : 3 < (t155.length : Int) := of_decide_eq_true (by first | (with_reducible assumption) | assumption); obtain ⟨ad173, e173, hx173_0⟩ := Kd.at_string (Kd.R_reads' HO_6.out).2.2 3 p173 q173; obtain rfl : ad163 = ad173 := (by injection e173); (try simp only [show (3 : Int).toNat = 3 from rfl, Nat.reduceMul, Nat.reduceEqDiff, Go.Addr.add, ↓reduceIte] at hx173_0); have qi173 : (3 < t155.length) = True := eq_true (by omega); (try rw [show ((3 : Int)).toNat = 3 from rfl] at hx173_0); replace p173 := eq_true p173; replace q173 := eq_true q173; have p174 : 0 ≤ (0 : Int) := (by omega); have q174 : 0 < (t155.length : Int) := of_decide_eq_true (by first | (with_reducible assumption) | assumption); obtain ⟨ad174, e174, hx174_0⟩ := Kd.at_string (Kd.R_reads' HO_6.out).2.2 0 p174 q174; obtain rfl : ad163 = ad174 := (by injection e174); have qi174 : (0 < t155.length) = True := eq_true (by omega); (try rw [show ((0 : Int)).toNat = 0 from rfl] at hx174_0); (try rw [Addr.add_zero'] at hx174_0); replace p174 := eq_true p174; replace q174 := eq_true q174)); try go_wp2_with (first | (go_at_call 17; (with_reducible refine (etchhouseref12_sign.calls kj20 (((((rdOf ByteArray.empty t155 0) ++ (⟨#[46]⟩ : ByteArray)) ++ (rdOf ByteArray.empty t155 1)) ++ (⟨#[46]⟩ : ByteArray)) ++ (rdOf ByteArray.empty t155 2)) t172 _ ?side1 A34.out).mono ?_); (case side1 => exact Tryd.gw_below HG.out (by repeat (first | (with_reducible first | exact HB.out | apply below_alloc | apply pw_below_drewN | apply below_drew1) | exact HB.out))); rintro e w' ⟨rfl, ⟨nd, rfl⟩⟩; (try first | exact ⟨rfl, _, World.drewN_drewN _ _ _⟩ | exact ⟨rfl, _, Eq.trans (World.drewN_drewN _ _ _) (congrArg (World.drewN _) (Nat.add_assoc _ _ _))⟩); have p173 : 0 ≤ (3 : Int) := (by omega); have q173 : 3 < (t155.length : Int) := of_decide_eq_true (by first | (with_reducible assumption) | assumption); obtain ⟨ad173, e173, hx173_0⟩ := Kd.at_string (Kd.R_reads' HO_6.out).2.2 3 p173 q173; obtain rfl : ad163 = ad173 := (by injection e173); (try simp only [show (3 : Int).toNat = 3 from rfl, Nat.reduceMul, Nat.reduceEqDiff, Go.Addr.add, ↓reduceIte] at hx173_0); have qi173 : (3 < t155.length) = True := eq_true (by omega); (try rw [show ((3 : Int)).toNat = 3 from rfl] at hx173_0); replace p173 := eq_true p173; replace q173 := eq_true q173; have p174 : 0 ≤ (0 : Int) := (by omega); have q174 : 0 < (t155.length : Int) := of_decide_eq_true (by first | (with_reducible assumption) | assumption); obtain ⟨ad174, e174, hx174_0⟩ := Kd.at_string (Kd.R_reads' HO_6.out).2.2 0 p174 q174; obtain rfl : ad163 = ad174 := (by injection e174); have qi174 : (0 < t155.length) = True := eq_true (by omega); (try rw [show ((0 : Int)).toNat = 0 from rfl] at hx174_0); (try rw [Addr.add_zero'] at hx174_0); replace p174 := eq_true p174; replace q174 := eq_true q174)))
                                    refine bodyPost_ret (results_list (rs := [.tmp 2, .tmp 3, .tmp 4, .tmp 5]) rfl (by simp) (.tmp (.tmp (.tmp (.tmp .nil))))) rfl ?_
                                    exact ⟨by first | rfl | (simp [errW_none, errW_some] <;> rfl) | (simp [*, errW_none, errW_some] <;> rfl), by repeat (first | (with_reducible first | exact HB.out | apply below_alloc | apply pw_below_drewN | apply below_drew1) | exact HB.out)⟩
                                  · rw [if_neg c36] at H
                                    have c36b0 : (t172.toList == (rdOf ByteArray.empty t155 3).toList) = false := beq_eq_false_iff_ne.mpr c36
                                    have c36b1 : (t172.toList != (rdOf ByteArray.empty t155 3).toList) = true := bne_iff_ne.mpr c36
                                    simp only [Option.some.injEq, Prod.mk.injEq] at H
                                    obtain ⟨rfl, rfl, rfl, rfl⟩ := H
                                    have p169 : 0 ≤ (0 : Int) := (by omega)
                                    have q169 : 0 < (t155.length : Int) := of_decide_eq_true (by first | (with_reducible assumption) | assumption)
                                    obtain ⟨ad169, e169, hx169_0⟩ := Kd.at_string (Kd.R_reads' HO_6.out).2.2 0 p169 q169
                                    obtain rfl : ad163 = ad169 := (by injection e169)
                                    have qi169 : (0 < t155.length) = True := eq_true (by omega)
                                    (try rw [show ((0 : Int)).toNat = 0 from rfl] at hx169_0)
                                    (try rw [Addr.add_zero'] at hx169_0)
                                    replace p169 := eq_true p169
                                    replace q169 := eq_true q169
                                    have p170 : 0 ≤ (1 : Int) := (by omega)
                                    have q170 : 1 < (t155.length : Int) := of_decide_eq_true (by first | (with_reducible assumption) | assumption)
                                    obtain ⟨ad170, e170, hx170_0⟩ := Kd.at_string (Kd.R_reads' HO_6.out).2.2 1 p170 q170
                                    obtain rfl : ad163 = ad170 := (by injection e170)
                                    (try simp only [show (1 : Int).toNat = 1 from rfl, Nat.reduceMul, Nat.reduceEqDiff, Go.Addr.add, ↓reduceIte] at hx170_0)
                                    have qi170 : (1 < t155.length) = True := eq_true (by omega)
                                    (try rw [show ((1 : Int)).toNat = 1 from rfl] at hx170_0)
                                    replace p170 := eq_true p170
                                    replace q170 := eq_true q170
                                    have p171 : 0 ≤ (2 : Int) := (by omega)
                                    have q171 : 2 < (t155.length : Int) := of_decide_eq_true (by first | (with_reducible assumption) | assumption)
                                    obtain ⟨ad171, e171, hx171_0⟩ := Kd.at_string (Kd.R_reads' HO_6.out).2.2 2 p171 q171
                                    obtain rfl : ad163 = ad171 := (by injection e171)
                                    (try simp only [show (2 : Int).toNat = 2 from rfl, Nat.reduceMul, Nat.reduceEqDiff, Go.Addr.add, ↓reduceIte] at hx171_0)
                                    have qi171 : (2 < t155.length) = True := eq_true (by omega)
                                    (try rw [show ((2 : Int)).toNat = 2 from rfl] at hx171_0)
                                    replace p171 := eq_true p171
                                    replace q171 := eq_true q171
                                    go_wp2_with (first | (go_at_call 17; (with_reducible refine (etchhouseref12_sign.calls kj20 (((((rdOf ByteArray.empty t155 0) ++ (⟨#[46]⟩ : ByteArray)) ++ (rdOf ByteArray.empty t155 1)) ++ (⟨#[46]⟩ : ByteArray)) ++ (rdOf ByteArray.empty t155 2)) t172 _ ?side1 A34.out).mono ?_); (case side1 => exact Tryd.gw_below HG.out (by repeat (first | (with_reducible first | exact HB.out | apply below_alloc | apply pw_below_drewN | apply below_drew1) | exact HB.out))); rintro e w' ⟨rfl, ⟨nd, rfl⟩⟩; (try first | exact ⟨rfl, _, World.drewN_drewN _ _ _⟩ | exact ⟨rfl, _, Eq.trans (World.drewN_drewN _ _ _) (congrArg (World.drewN _) (Nat.add_assoc _ _ _))⟩); have p173 : 0 ≤ (3 : Int) := (by omega); have q173 : 3 < (t155.length : Int) := of_decide_eq_true (by first | (with_reducible assumption) | assumption); obtain ⟨ad173, e173, hx173_0⟩ := Kd.at_string (Kd.R_reads' HO_6.out).2.2 3 p173 q173; obtain rfl : ad163 = ad173 := (by injection e173); (try simp only [show (3 : Int).toNat = 3 from rfl, Nat.reduceMul, Nat.reduceEqDiff, Go.Addr.add, ↓reduceIte] at hx173_0); have qi173 : (3 < t155.length) = True := eq_true (by omega); (try rw [show ((3 : Int)).toNat = 3 from rfl] at hx173_0); replace p173 := eq_true p173; replace q173 := eq_true q173))
                                    repeat (go_quiet (first | (go_at_call 17; (with_reducible refine (etchhouseref12_sign.calls kj20 (((((rdOf ByteArray.empty t155 0) ++ (⟨#[46]⟩ : ByteArray)) ++ (rdOf ByteArray.empty t155 1)) ++ (⟨#[46]⟩ : ByteArray)) ++ (rdOf ByteArray.empty t155 2)) t172 _ ?side1 A34.out).mono ?_); (case side1 => exact Tryd.gw_below HG.out (by repeat (first | (with_reducible first | exact HB.out | apply below_alloc | apply pw_below_drewN | apply below_drew1) | exact HB.out))); rintro e w' ⟨rfl, ⟨nd, rfl⟩⟩; (try first | exact ⟨rfl, _, World.drewN_drewN _ _ _⟩ | exact ⟨rfl, _, Eq.trans (World.drewN_drewN _ _ _) (congrArg (World.drewN _) (Nat.add_assoc _ _ _))⟩); have p173 : 0 ≤ (3 : Int) := (by omega); have q173 : 3 < (t155.length : Int) := of_decide_eq_true (by first | (with_reducible assumption) | assumption); obtain ⟨ad173, e173, hx173_0⟩ := Kd.at_string (Kd.R_reads' HO_6.out).2.2 3 p173 q173; obtain rfl : ad163 = ad173 := (by injection e173); (try simp only [show (3 : Int).toNat = 3 from rfl, Nat.reduceMul, Nat.reduceEqDiff, Go.Addr.add, ↓reduceIte] at hx173_0); have qi173 : (3 < t155.length) = True := eq_true (by omega); (try rw [show ((3 : Int)).toNat = 3 from rfl] at hx173_0); replace p173 := eq_true p173; replace q173 := eq_true q173)); try go_wp2_with (first | (go_at_call 17; (with_reducible refine (etchhouseref12_sign.calls kj20 (((((rdOf ByteArray.empty t155 0) ++ (⟨#[46]⟩ : ByteArray)) ++ (rdOf ByteArray.empty t155 1)) ++ (⟨#[46]⟩ : ByteArray)) ++ (rdOf ByteArray.empty t155 2)) t172 _ ?side1 A34.out).mono ?_); (case side1 => exact Tryd.gw_below HG.out (by repeat (first | (with_reducible first | exact HB.out | apply below_alloc | apply pw_below_drewN | apply below_drew1) | exact HB.out))); rintro e w' ⟨rfl, ⟨nd, rfl⟩⟩; (try first | exact ⟨rfl, _, World.drewN_drewN _ _ _⟩ | exact ⟨rfl, _, Eq.trans (World.drewN_drewN _ _ _) (congrArg (World.drewN _) (Nat.add_assoc _ _ _))⟩); have p173 : 0 ≤ (3 : Int) := (by omega); have q173 : 3 < (t155.length : Int) := of_decide_eq_true (by first | (with_reducible assumption) | assumption); obtain ⟨ad173, e173, hx173_0⟩ := Kd.at_string (Kd.R_reads' HO_6.out).2.2 3 p173 q173; obtain rfl : ad163 = ad173 := (by injection e173); (try simp only [show (3 : Int).toNat = 3 from rfl, Nat.reduceMul, Nat.reduceEqDiff, Go.Addr.add, ↓reduceIte] at hx173_0); have qi173 : (3 < t155.length) = True := eq_true (by omega); (try rw [show ((3 : Int)).toNat = 3 from rfl] at hx173_0); replace p173 := eq_true p173; replace q173 := eq_true q173)))
                                    refine bodyPost_ret (results_list (rs := [.tmp 2, .tmp 3, .tmp 4, .tmp 5]) rfl (by simp) (.tmp (.tmp (.tmp (.tmp .nil))))) rfl ?_
                                    exact ⟨by first | rfl | (simp [errW_none, errW_some] <;> rfl) | (simp [*, errW_none, errW_some] <;> rfl), by repeat (first | (with_reducible first | exact HB.out | apply below_alloc | apply pw_below_drewN | apply below_drew1) | exact HB.out)⟩
                                · rw [if_neg c35] at H
                                  exact absurd H (by simp)
                              · rw [if_neg c33] at H
                                exact absurd H (by simp)
                            · rw [if_neg c32] at H
                              exact absurd H (by simp)
                          · rw [if_neg c31] at H
                            exact absurd H (by simp)
                        · rw [if_neg c30] at H
                          exact absurd H (by simp)
                      · rw [if_neg c29] at H
                        exact absurd H (by simp)
                    · rw [if_neg c28] at H
                      exact absurd H (by simp)
                  · rw [if_neg c27] at H
                    exact absurd H (by simp)
          · rw [if_neg c19] at H
            exact absurd H (by simp)
        · rw [if_neg c17] at H
          exact absurd H (by simp)

/-! ### stringslite_HasPrefix: function 33 -/
def stringslite_HasPrefix.f (a0 : ByteArray) (a1 : ByteArray) : Option (Bool) := if (a0.size : Int) ≥ (a1.size : Int) then (if 0 ≤ (a1.size : Int) then (if (a1.size : Int) ≤ (a0.size : Int) then (some ((a0.extract 0 ((a1.size : Int) : Int).toNat).toList == a1.toList)) else (none)) else (none)) else (some false)
set_option maxHeartbeats 8000000 in
set_option maxRecDepth 100000 in
theorem stringslite_HasPrefix.calls (a0 : ByteArray) (a1 : ByteArray) (r : Bool) (w : World) (hG : Tryd.GW w) (h : stringslite_HasPrefix.f a0 a1 = some r) :
    Calls Tryd.prog 33 #[.string a0, .string a1] w fun e w' => e = .returned (.bool r) ∧ Drawn0 w w' := by
  have HG := Aside0.mk hG
  clear hG
  have H : (if (a0.size : Int) ≥ (a1.size : Int) then (if 0 ≤ (a1.size : Int) then (if (a1.size : Int) ≤ (a0.size : Int) then (some ((a0.extract 0 ((a1.size : Int) : Int).toNat).toList == a1.toList)) else (none)) else (none)) else (some false)) = some r := h
  clear h
  by_cases c3 : (a0.size : Int) ≥ (a1.size : Int)
  · rw [if_pos c3] at H
    have c3b0 : decide ((a1.size : Int) ≤ (a0.size : Int)) = true := decide_eq_true c3
    have c3b1 : decide (a1.size ≤ a0.size) = true := decide_eq_true (Int.ofNat_le.mp c3)
    clear c3
    by_cases c4 : 0 ≤ (a1.size : Int)
    · rw [if_pos c4] at H
      have c4b0 := eq_true c4
      have c4b1 : decide (0 ≤ (a1.size : Int)) = true := decide_eq_true c4
      clear c4
      by_cases c5 : (a1.size : Int) ≤ (a0.size : Int)
      · rw [if_pos c5] at H
        have c5b0 := eq_true c5
        have c5b1 : decide ((a1.size : Int) ≤ (a0.size : Int)) = true := decide_eq_true c5
        clear c5
        obtain rfl := Option.some.inj H
        go_enter Tryd.func33, Tryd.ntmps33
        go_wp2
        go_ret
        exact ⟨by first | rfl | (simp; done) | (simp [*]; done), by repeat (first | exact Drawn0.refl _ | apply Drawn0.step)⟩
      · rw [if_neg c5] at H
        exact absurd H (by simp)
    · rw [if_neg c4] at H
      exact absurd H (by simp)
  · rw [if_neg c3] at H
    have c3b0 : decide ((a1.size : Int) ≤ (a0.size : Int)) = false := decide_eq_false c3
    have c3b1 : decide (a1.size ≤ a0.size) = false := decide_eq_false (fun h => c3 (Int.ofNat_le.mpr h))
    clear c3
    obtain rfl := Option.some.inj H
    go_enter Tryd.func33, Tryd.ntmps33
    go_wp2
    go_ret
    exact ⟨by first | rfl | (simp; done) | (simp [*]; done), by repeat (first | exact Drawn0.refl _ | apply Drawn0.step)⟩

/-! ### strings_HasPrefix: function 24 -/
def strings_HasPrefix.f (a0 : ByteArray) (a1 : ByteArray) : Option (Bool) := (stringslite_HasPrefix.f a0 a1).bind fun t175 => (some t175)
set_option maxHeartbeats 8000000 in
set_option maxRecDepth 100000 in
theorem strings_HasPrefix.calls (a0 : ByteArray) (a1 : ByteArray) (r : Bool) (w : World) (hG : Tryd.GW w) (h : strings_HasPrefix.f a0 a1 = some r) :
    Calls Tryd.prog 24 #[.string a0, .string a1] w fun e w' => e = .returned (.bool r) ∧ Drawn0 w w' := by
  have HG := Aside0.mk hG
  clear hG
  have H : ((stringslite_HasPrefix.f a0 a1).bind fun t175 => (some t175)) = some r := h
  clear h
  replace H := Option.bind_eq_some_iff.mp H
  obtain ⟨t175, A30, H⟩ := H
  replace H : (some t175) = some r := H
  have A3 := Aside0.mk A30
  clear A30
  obtain rfl := Option.some.inj H
  go_enter Tryd.func24, Tryd.ntmps24
  go_wp2_with (first | ((with_reducible refine gate_callee (f := 33) rfl ?_); refine goesL_ (some 7) rfl rfl Tryd.func33 (by kernel_rfl) rfl #[.string a0, .string a1] rfl (by (try simp only [List.map_toArray, List.map_cons, List.map_nil]); first | done | rfl | (simp only [List.length_drop, List.length_take]; rfl)) ?_; (with_reducible refine (stringslite_HasPrefix.calls a0 a1 t175 _ ?side1 A3.out).mono ?_); (case side1 => repeat (first | exact HG.out | apply Tryd.gw_drewN | apply Tryd.gw_drew)); rintro e w' ⟨rfl, ⟨nd, rfl⟩⟩; refine ⟨_, rfl, ?_⟩))
  go_ret
  exact ⟨by first | rfl | (simp; done) | (simp [*]; done), by repeat (first | exact Drawn0.refl _ | apply Drawn0.step)⟩

end Go.Proofs.YthfejpgofcbamaaDoor.PA
