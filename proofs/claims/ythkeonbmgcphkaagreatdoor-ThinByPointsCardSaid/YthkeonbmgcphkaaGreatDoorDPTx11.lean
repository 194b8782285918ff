-- Written by this session's own programs (wip/tools).
import Derived.Test.YthkeonbmgcphkaaGreatDoorDPTx0
import Derived.Test.YthkeonbmgcphkaaGreatDoorDPTx10
namespace Go.Proofs.YthkeonbmgcphkaaGreatDoor.PT
open Go.RowKit Go.Proofs.YthkeonbmgcphkaaGreatDoorW.PrintWords Go.Proofs.YthkeonbmgcphkaaGreatDoorW.PrintLast Go.Proofs.YthkeonbmgcphkaaGreatDoorW.PrintMore
attribute [local go_sem] max2_int min2_int max_two min_two max_three min_three max_four min_four
set_option linter.unusedVariables false
set_option linter.unusedSimpArgs false
mutual
def shape_line_with_shape_Set_Less_1.l0 : Nat → List Int → List Int → List Int → Bool → Bool → Bool → Option (List Int)
  | 0, _, _, _, _, _, _ => none
  | k + 1, x0, x1, x7, x8, x9, x10 => if (x0.length : Int) > 0 then (shape_line_with_shape_Set_Less_1.j1 k x0 x1 x7 x8 x9 x10 true) else (shape_line_with_shape_Set_Less_1.j1 k x0 x1 x7 x8 x9 x10 (decide ((x1.length : Int) > 0)))
def shape_line_with_shape_Set_Less_1.j1 : Nat → List Int → List Int → List Int → Bool → Bool → Bool → Bool → Option (List Int)
  | 0, _, _, _, _, _, _, _ => none
  | k + 1, x0, x1, x7, x8, x9, x10, x20 => if x20 = true then (if (x1.length : Int) = 0 then (shape_line_with_shape_Set_Less_1.j2 k x0 x1 x7 x8 x9 x10 true) else (if (x0.length : Int) > 0 then (if 0 < (x0.length : Int) then (if 0 < (x1.length : Int) then (shape_line_with_shape_Set_Less_1.j2 k x0 x1 x7 x8 x9 x10 (decide ((rd x0 0) ≤ (rd x1 0)))) else (none)) else (none)) else (shape_line_with_shape_Set_Less_1.j2 k x0 x1 x7 x8 x9 x10 false))) else (some x7)
def shape_line_with_shape_Set_Less_1.j2 : Nat → List Int → List Int → List Int → Bool → Bool → Bool → Bool → Option (List Int)
  | 0, _, _, _, _, _, _, _ => none
  | k + 1, x0, x1, x7, x8, x9, x10, x37 => if x37 = true then (if 0 < (x0.length : Int) then (shape_line_with_shape_Set_Less_1.j3 k x0 x1 x7 x8 x9 x10 (rd x0 0)) else (none)) else (if 0 < (x1.length : Int) then (shape_line_with_shape_Set_Less_1.j3 k x0 x1 x7 x8 x9 x10 (rd x1 0)) else (none))
def shape_line_with_shape_Set_Less_1.j3 : Nat → List Int → List Int → List Int → Bool → Bool → Bool → Int → Option (List Int)
  | 0, _, _, _, _, _, _, _ => none
  | k + 1, x0, x1, x7, x8, x9, x10, x11 => if (x0.length : Int) > 0 then (if 0 < (x0.length : Int) then (shape_line_with_shape_Set_Less_1.j4 k x0 x1 x7 x8 x9 x10 x11 ((rd x0 0) == x11)) else (none)) else (shape_line_with_shape_Set_Less_1.j4 k x0 x1 x7 x8 x9 x10 x11 false)
def shape_line_with_shape_Set_Less_1.j4 : Nat → List Int → List Int → List Int → Bool → Bool → Bool → Int → Bool → Option (List Int)
  | 0, _, _, _, _, _, _, _, _ => none
  | k + 1, x0, x1, x7, x8, x9, x10, x11, x53 => if x53 = true then (if 1 ≤ (x0.length : Int) then (shape_line_with_shape_Set_Less_1.j5 k (x0.drop 1) x1 x7 (!x8) x9 x10 x11) else (none)) else (shape_line_with_shape_Set_Less_1.j5 k x0 x1 x7 x8 x9 x10 x11)
def shape_line_with_shape_Set_Less_1.j5 : Nat → List Int → List Int → List Int → Bool → Bool → Bool → Int → Option (List Int)
  | 0, _, _, _, _, _, _, _ => none
  | k + 1, x0, x1, x7, x8, x9, x10, x11 => if (x1.length : Int) > 0 then (if 0 < (x1.length : Int) then (shape_line_with_shape_Set_Less_1.j6 k x0 x1 x7 x8 x9 x10 x11 ((rd x1 0) == x11)) else (none)) else (shape_line_with_shape_Set_Less_1.j6 k x0 x1 x7 x8 x9 x10 x11 false)
def shape_line_with_shape_Set_Less_1.j6 : Nat → List Int → List Int → List Int → Bool → Bool → Bool → Int → Bool → Option (List Int)
  | 0, _, _, _, _, _, _, _, _ => none
  | k + 1, x0, x1, x7, x8, x9, x10, x11, x67 => if x67 = true then (if 1 ≤ (x1.length : Int) then ((some (x1.drop 1 : List Int)).bind fun y213 => ((shape_Set_Less_1.f x8 (!x9)).bind fun t218 => (if (t218 != x10) = true then (if x7.length < 17592186044416 then (shape_line_with_shape_Set_Less_1.l0 k x0 y213 (x7 ++ [x11]) x8 (!x9) t218) else (none)) else (shape_line_with_shape_Set_Less_1.l0 k x0 y213 x7 x8 (!x9) x10)))) else (none)) else ((shape_Set_Less_1.f x8 x9).bind fun t222 => (if (t222 != x10) = true then (if x7.length < 17592186044416 then (shape_line_with_shape_Set_Less_1.l0 k x0 x1 (x7 ++ [x11]) x8 x9 t222) else (none)) else (shape_line_with_shape_Set_Less_1.l0 k x0 x1 x7 x8 x9 x10)))
end
def shape_line_with_shape_Set_Less_1.f (k : Nat) (l0 : List Int) (l1 : List Int)  : Option (List Int) := shape_line_with_shape_Set_Less_1.l0 k l0 l1 ([] : List Int) false false false
set_option maxHeartbeats 8000000 in
set_option maxRecDepth 100000 in
theorem shape_line_with_shape_Set_Less_1.calls (k : Nat) (P0_ : Nat → Prop) (A0 : Option Addr) (c0 : Nat) (l0 : List Int) (P1_ : Nat → Prop) (A1 : Option Addr) (c1 : Nat) (l1 : List Int)  (r : List Int) (w : World) (hG : Tryz.GW w) (hs0 : Kd.V (Kd.int .i64) 3 w w.heap.size (fun k_ => P0_ k_) (.slice A0 l0.length c0) l0) (hs1 : Kd.V (Kd.int .i64) 3 w w.heap.size (fun k_ => P1_ k_) (.slice A1 l1.length c1) l1) (h : shape_line_with_shape_Set_Less_1.f k l0 l1 = some r) :
    Calls Tryz.prog 132 #[.slice A0 l0.length c0, .slice A1 l1.length c1, .func (.func 97) #[] #[]] w fun e w' => ∃ v0_ : Value, e = .returned (v0_) ∧ Kd.R (Kd.int .i64) 3 w' w.heap.size (fun k_ => (w.heap.size ≤ k_)) v0_ r ∧ Below w.heap.size w w' := by
  have HO0 := Aside0.mk (show Kd.V (Kd.int .i64) 3 w w.heap.size (fun k_ => ((P0_ k_ ∨ P1_ k_) ∨ w.heap.size ≤ k_)) (.slice A0 l0.length c0) l0 from Kd.V_mono hs0 (fun k_ hk => .inl (.inl hk)))
  have HO1 := Aside0.mk (show Kd.V (Kd.int .i64) 3 w w.heap.size (fun k_ => ((P0_ k_ ∨ P1_ k_) ∨ w.heap.size ≤ k_)) (.slice A1 l1.length c1) l1 from Kd.V_mono hs1 (fun k_ hk => .inl (.inr hk)))
  have HG := Aside0.mk hG
  clear hG
  have HB := Aside0.mk (Below.refl w.heap.size w)
  have H : (shape_line_with_shape_Set_Less_1.l0 k l0 l1 ([] : List Int) false false false) = some r := h
  clear h
  have H' := Aside0.mk H
  clear H
  go_enter Tryz.func132, Tryz.ntmps132
  go_wp2
  repeat (go_quiet (fail); try go_wp2)
  go_loopg [0, 1, 7, 8, 9, 10] k (fun kq v0 v1 v7 v8 v9 v10 w' => ∃ (x0_1 : List Int) (x1_1 : List Int) (x7_1 : List Int) (x8_1 : Bool) (x9_1 : Bool) (x10_1 : Bool), v8 = .bool x8_1 ∧ v9 = .bool x9_1 ∧ v10 = .bool x10_1 ∧ Aside0 (shape_line_with_shape_Set_Less_1.l0 kq x0_1 x1_1 x7_1 x8_1 x9_1 x10_1 = some r) ∧ Aside0 (kq ≤ k) ∧ Aside0 (Kd.V (Kd.int .i64) 3 w' w.heap.size (fun k_ => ((P0_ k_ ∨ P1_ k_) ∨ w.heap.size ≤ k_) ∧ some k_ ≠ (v7 : Value).ownBlock) v0 x0_1) ∧ Aside0 (Kd.V (Kd.int .i64) 3 w' w.heap.size (fun k_ => ((P0_ k_ ∨ P1_ k_) ∨ w.heap.size ≤ k_) ∧ some k_ ≠ (v7 : Value).ownBlock) v1 x1_1) ∧ Aside0 (Kd.R (Kd.int .i64) 3 w' w.heap.size (fun k_ => (w.heap.size ≤ k_)) v7 x7_1) ∧ Aside0 (Below w.heap.size w w'))
  case atStart => exact ⟨(l0), (l1), (([] : List Int)), (false), (false), (false), (by first | rfl | (simp; done) | (simp [*]; done)), (by first | rfl | (simp; done) | (simp [*]; done)), (by first | rfl | (simp; done) | (simp [*]; done)), H', ⟨Nat.le_refl _⟩, ⟨by (with_reducible repeat (first | apply Kd.V_alloc | apply Kd.V_drewN | apply Kd.V_drew)); exact Kd.V_mono HO0.out (fun _ hk => ⟨hk, (by simp [Value.ownBlock])⟩)⟩, ⟨by (with_reducible repeat (first | apply Kd.V_alloc | apply Kd.V_drewN | apply Kd.V_drew)); exact Kd.V_mono HO1.out (fun _ hk => ⟨hk, (by simp [Value.ownBlock])⟩)⟩, ⟨by first | exact Kd.R_nil _ _ _ _ _ | exact Kd.N_nil _ _ _ _ _ | exact Kd.V_nil _ _ _ _ _ | exact Kd.Q_nil _ _ _ _ _ | exact Kd.S_nil _ _ _ _ _⟩, ⟨bl_⟩⟩
  case round =>
    clear H'
    try clear c1
    try clear p2
    obtain ⟨x0_1, x1_1, x7_1, x8_1, x9_1, x10_1, rfl, rfl, rfl, HA, HK1, HO_0, HO_1, HO_7, HB⟩ := hrel
    cases gk with
    | zero => exact absurd HA.out (by simp [shape_line_with_shape_Set_Less_1.l0])
    | succ k1 =>
      have H := HA.out
      clear HA
      simp only [shape_line_with_shape_Set_Less_1.l0] at H
      have HC4 := Aside0.mk H
      clear H
      go_upto_region 3 with (fail)
      repeat (go_quiet (fail); go_upto_region 3 with (fail))
      go_cut [20] (fun v20 wc => ∃ (kq : Nat) (x20_3 : Bool), v20 = .bool x20_3 ∧ Aside0 (shape_line_with_shape_Set_Less_1.j1 kq x0_1 x1_1 x7_1 x8_1 x9_1 x10_1 x20_3 = some r) ∧ Aside0 (kq ≤ k1) ∧ Aside0 (Kd.V (Kd.int .i64) 3 wc w.heap.size (fun k_ => ((P0_ k_ ∨ P1_ k_) ∨ w.heap.size ≤ k_) ∧ some k_ ≠ (u7 : Value).ownBlock) u0 x0_1) ∧ Aside0 (Kd.V (Kd.int .i64) 3 wc w.heap.size (fun k_ => ((P0_ k_ ∨ P1_ k_) ∨ w.heap.size ≤ k_) ∧ some k_ ≠ (u7 : Value).ownBlock) u1 x1_1) ∧ Aside0 (Kd.R (Kd.int .i64) 3 wc w.heap.size (fun k_ => (w.heap.size ≤ k_)) u7 x7_1) ∧ Aside0 (Below w.heap.size w wc))
      case first =>
        have H := HC4.out
        clear HC4
        by_cases c5 : (x0_1.length : Int) > 0
        · rw [if_pos c5] at H
          have c5b0 : decide (0 < (x0_1.length : Int)) = true := decide_eq_true c5
          have c5b1 : decide (0 < x0_1.length) = true := decide_eq_true (by omega)
          clear c5
          (first | rw [c5b0] | (simp only [i64_w, i32_w]; rw [c5b0]) | skip)
          have H' := Aside0.mk H
          clear H
          obtain ⟨Ao6, co6, eo6⟩ := Kd.V_slice HO_0.out
          subst eo6
          go_wp2
          repeat (go_quiet (fail); try go_wp2)
          go_meet
          case rel => exact ⟨_, (true), (by first | rfl | (simp; done) | (simp [*]; done)), H', ⟨by have := HK1.out; first | omega | exact Nat.le_refl _⟩, ⟨by (with_reducible repeat (first | apply Kd.V_alloc | apply Kd.V_drewN | apply Kd.V_drew)); exact HO_0.out⟩, ⟨by (with_reducible repeat (first | apply Kd.V_alloc | apply Kd.V_drewN | apply Kd.V_drew)); exact HO_1.out⟩, ⟨by (with_reducible repeat (first | apply Kd.R_alloc | apply Kd.R_drewN | apply Kd.R_drew)); exact HO_7.out⟩, ⟨bl_⟩⟩
        · rw [if_neg c5] at H
          have c5b0 : decide (0 < (x0_1.length : Int)) = false := decide_eq_false c5
          have c5b1 : decide (0 < x0_1.length) = false := decide_eq_false (by omega)
          clear c5
          (first | rw [c5b0] | (simp only [i64_w, i32_w]; rw [c5b0]) | skip)
          have H' := Aside0.mk H
          clear H
          obtain ⟨Ao7, co7, eo7⟩ := Kd.V_slice HO_0.out
          subst eo7
          obtain ⟨Ao8, co8, eo8⟩ := Kd.V_slice HO_1.out
          subst eo8
          go_wp2
          repeat (go_quiet (fail); try go_wp2)
          go_meet
          case rel => exact ⟨_, (decide ((x1_1.length : Int) > 0)), (by first | rfl | (simp; done) | (simp [*]; done)), H', ⟨by have := HK1.out; first | omega | exact Nat.le_refl _⟩, ⟨by (with_reducible repeat (first | apply Kd.V_alloc | apply Kd.V_drewN | apply Kd.V_drew)); exact HO_0.out⟩, ⟨by (with_reducible repeat (first | apply Kd.V_alloc | apply Kd.V_drewN | apply Kd.V_drew)); exact HO_1.out⟩, ⟨by (with_reducible repeat (first | apply Kd.R_alloc | apply Kd.R_drewN | apply Kd.R_drew)); exact HO_7.out⟩, ⟨bl_⟩⟩
      case rest =>
        clear HC4
        try clear c1
        try clear p2
        try clear c5
        try clear c5b0
        try clear c5b1
        try clear p2
        obtain ⟨kq, x20_3, rfl, HA, HJ3, HO_0, HO_1, HO_7, HB⟩ := hcut
        cases kq with
        | zero => exact absurd HA.out (by simp [shape_line_with_shape_Set_Less_1.j1])
        | succ kj3 =>
          have H := HA.out
          clear HA
          simp only [shape_line_with_shape_Set_Less_1.j1] at H
          by_cases c9 : x20_3 = true
          · subst c9
            rw [if_pos rfl] at H
            have HC10 := Aside0.mk H
            clear H
            go_upto_region 5 with (fail)
            repeat (go_quiet (fail); go_upto_region 5 with (fail))
            go_cut [37] (fun v37 wc => ∃ (kq : Nat) (x37_9 : Bool), v37 = .bool x37_9 ∧ Aside0 (shape_line_with_shape_Set_Less_1.j2 kq x0_1 x1_1 x7_1 x8_1 x9_1 x10_1 x37_9 = some r) ∧ Aside0 (kq ≤ kj3) ∧ Aside0 (Kd.V (Kd.int .i64) 3 wc w.heap.size (fun k_ => ((P0_ k_ ∨ P1_ k_) ∨ w.heap.size ≤ k_) ∧ some k_ ≠ (u7 : Value).ownBlock) u0 x0_1) ∧ Aside0 (Kd.V (Kd.int .i64) 3 wc w.heap.size (fun k_ => ((P0_ k_ ∨ P1_ k_) ∨ w.heap.size ≤ k_) ∧ some k_ ≠ (u7 : Value).ownBlock) u1 x1_1) ∧ Aside0 (Kd.R (Kd.int .i64) 3 wc w.heap.size (fun k_ => (w.heap.size ≤ k_)) u7 x7_1) ∧ Aside0 (Below w.heap.size w wc))
            case first =>
              have H := HC10.out
              clear HC10
              by_cases c11 : (x1_1.length : Int) = 0
              · rw [if_pos c11] at H
                have c11b0 : ((x1_1.length : Int) == 0) = true := beq_iff_eq.mpr c11
                have c11b1 : ((x1_1.length : Int) != 0) = false := bne_eq_false_iff_eq.mpr c11
                clear c11
                (first | rw [c11b0] | (simp only [i64_w, i32_w]; rw [c11b0]) | skip)
                have H' := Aside0.mk H
                clear H
                obtain ⟨Ao12, co12, eo12⟩ := Kd.V_slice HO_1.out
                subst eo12
                go_wp2
                repeat (go_quiet (fail); try go_wp2)
                go_meet
                case rel => exact ⟨_, (true), (by first | rfl | (simp; done) | (simp [*]; done)), H', ⟨by have := HK1.out; have := HJ3.out; first | omega | exact Nat.le_refl _⟩, ⟨by (with_reducible repeat (first | apply Kd.V_alloc | apply Kd.V_drewN | apply Kd.V_drew)); exact HO_0.out⟩, ⟨by (with_reducible repeat (first | apply Kd.V_alloc | apply Kd.V_drewN | apply Kd.V_drew)); exact HO_1.out⟩, ⟨by (with_reducible repeat (first | apply Kd.R_alloc | apply Kd.R_drewN | apply Kd.R_drew)); exact HO_7.out⟩, ⟨bl_⟩⟩
              · rw [if_neg c11] at H
                have c11b0 : ((x1_1.length : Int) == 0) = false := beq_eq_false_iff_ne.mpr c11
                have c11b1 : ((x1_1.length : Int) != 0) = true := bne_iff_ne.mpr c11
                have c11b2 : ¬ (x1_1 = []) := fun h_ => c11 (by rw [h_]; rfl)
                (first | rw [c11b0] | (simp only [i64_w, i32_w]; rw [c11b0]) | skip)
                by_cases c13 : (x0_1.length : Int) > 0
                · rw [if_pos c13] at H
                  have c13b0 : decide (0 < (x0_1.length : Int)) = true := decide_eq_true c13
                  have c13b1 : decide (0 < x0_1.length) = true := decide_eq_true (by omega)
                  clear c13
                  by_cases c14 : 0 < (x0_1.length : Int)
                  · rw [if_pos c14] at H
                    have c14b0 : decide (0 < (x0_1.length : Int)) = true := decide_eq_true c14
                    have c14b1 : decide (0 < x0_1.length) = true := decide_eq_true (by omega)
                    clear c14
                    by_cases c15 : 0 < (x1_1.length : Int)
                    · rw [if_pos c15] at H
                      have c15b0 : decide (0 < (x1_1.length : Int)) = true := decide_eq_true c15
                      have c15b1 : decide (0 < x1_1.length) = true := decide_eq_true (by omega)
                      clear c15
                      have H' := Aside0.mk H
                      clear H
                      obtain ⟨Ao16, co16, eo16⟩ := Kd.V_slice HO_1.out
                      subst eo16
                      obtain ⟨Ao17, co17, eo17⟩ := Kd.V_slice HO_0.out
                      subst eo17
                      have p202 : 0 ≤ (0 : Int) := (by omega)
                      have q202 : 0 < (x0_1.length : Int) := dt_
                      obtain ⟨ad202, e202, hx202_0⟩ := Kd.at_int (Kd.V_reads' HO_0.out).2.2 0 p202 q202
                      cases e202
                      have qi202 : (0 < x0_1.length) = True := eq_true (by omega)
                      (try rw [show ((0 : Int)).toNat = 0 from rfl] at hx202_0)
                      (try rw [Addr.add_zero'] at hx202_0)
                      replace p202 := eq_true p202
                      replace q202 := eq_true q202
                      have p203 : 0 ≤ (0 : Int) := (by omega)
                      have q203 : 0 < (x1_1.length : Int) := dt_
                      obtain ⟨ad203, e203, hx203_0⟩ := Kd.at_int (Kd.V_reads' HO_1.out).2.2 0 p203 q203
                      cases e203
                      have qi203 : (0 < x1_1.length) = True := eq_true (by omega)
                      (try rw [show ((0 : Int)).toNat = 0 from rfl] at hx203_0)
                      (try rw [Addr.add_zero'] at hx203_0)
                      replace p203 := eq_true p203
                      replace q203 := eq_true q203
                      go_wp2
                      repeat (go_quiet (fail); try go_wp2)
                      go_meet
                      case rel => exact ⟨_, (decide ((rd x0_1 0) ≤ (rd x1_1 0))), (by first | rfl | (simp; done) | (simp [*]; done)), H', ⟨by have := HK1.out; have := HJ3.out; first | omega | exact Nat.le_refl _⟩, ⟨by (with_reducible repeat (first | apply Kd.V_alloc | apply Kd.V_drewN | apply Kd.V_drew)); exact HO_0.out⟩, ⟨by (with_reducible repeat (first | apply Kd.V_alloc | apply Kd.V_drewN | apply Kd.V_drew)); exact HO_1.out⟩, ⟨by (with_reducible repeat (first | apply Kd.R_alloc | apply Kd.R_drewN | apply Kd.R_drew)); exact HO_7.out⟩, ⟨bl_⟩⟩
                    · rw [if_neg c15] at H
                      exact absurd H (by simp)
                  · rw [if_neg c14] at H
                    exact absurd H (by simp)
                · rw [if_neg c13] at H
                  have c13b0 : decide (0 < (x0_1.length : Int)) = false := decide_eq_false c13
                  have c13b1 : decide (0 < x0_1.length) = false := decide_eq_false (by omega)
                  clear c13
                  have H' := Aside0.mk H
                  clear H
                  obtain ⟨Ao18, co18, eo18⟩ := Kd.V_slice HO_1.out
                  subst eo18
                  obtain ⟨Ao19, co19, eo19⟩ := Kd.V_slice HO_0.out
                  subst eo19
                  go_wp2
                  repeat (go_quiet (fail); try go_wp2)
                  go_meet
                  case rel => exact ⟨_, (false), (by first | rfl | (simp; done) | (simp [*]; done)), H', ⟨by have := HK1.out; have := HJ3.out; first | omega | exact Nat.le_refl _⟩, ⟨by (with_reducible repeat (first | apply Kd.V_alloc | apply Kd.V_drewN | apply Kd.V_drew)); exact HO_0.out⟩, ⟨by (with_reducible repeat (first | apply Kd.V_alloc | apply Kd.V_drewN | apply Kd.V_drew)); exact HO_1.out⟩, ⟨by (with_reducible repeat (first | apply Kd.R_alloc | apply Kd.R_drewN | apply Kd.R_drew)); exact HO_7.out⟩, ⟨bl_⟩⟩
            case rest =>
              clear HC10
              try clear c1
              try clear p2
              try clear q2
              try clear hx2
              try clear qi2
              try clear c5
              try clear c5b0
              try clear c5b1
              try clear c9
              try clear c10
              try clear c11
              try clear c11b0
              try clear c11b1
              try clear c11b2
              try clear c13
              try clear c13b0
              try clear c13b1
              try clear c14
              try clear c14b0
              try clear c14b1
              try clear c15
              try clear c15b0
              try clear c15b1
              try clear hx202_0
              try clear hx203_0
              try clear p2
              try clear p202
              try clear p203
              try clear q202
              try clear q203
              obtain ⟨kq, x37_9, rfl, HA, HJ9, HO_0, HO_1, HO_7, HB⟩ := hcut
              cases kq with
              | zero => exact absurd HA.out (by simp [shape_line_with_shape_Set_Less_1.j2])
              | succ kj9 =>
                have H := HA.out
                clear HA
                simp only [shape_line_with_shape_Set_Less_1.j2] at H
                have HC20 := Aside0.mk H
                clear H
                go_upto_if 37 with (fail)
                repeat (go_quiet (fail); go_upto_if 37 with (fail))
                go_cut [11] (fun v11 wc => ∃ (kq : Nat) (x11_19 : Int), v11 = .int .i64 x11_19 ∧ Aside0 (shape_line_with_shape_Set_Less_1.j3 kq x0_1 x1_1 x7_1 x8_1 x9_1 x10_1 x11_19 = some r) ∧ Aside0 (kq ≤ kj9) ∧ Aside0 (Kd.V (Kd.int .i64) 3 wc w.heap.size (fun k_ => ((P0_ k_ ∨ P1_ k_) ∨ w.heap.size ≤ k_) ∧ some k_ ≠ (u7 : Value).ownBlock) u0 x0_1) ∧ Aside0 (Kd.V (Kd.int .i64) 3 wc w.heap.size (fun k_ => ((P0_ k_ ∨ P1_ k_) ∨ w.heap.size ≤ k_) ∧ some k_ ≠ (u7 : Value).ownBlock) u1 x1_1) ∧ Aside0 (Kd.R (Kd.int .i64) 3 wc w.heap.size (fun k_ => (w.heap.size ≤ k_)) u7 x7_1) ∧ Aside0 (Below w.heap.size w wc))
                case first =>
                  have H := HC20.out
                  clear HC20
                  by_cases c21 : x37_9 = true
                  · subst c21
                    rw [if_pos rfl] at H
                    by_cases c22 : 0 < (x0_1.length : Int)
                    · rw [if_pos c22] at H
                      have c22b0 : decide (0 < (x0_1.length : Int)) = true := decide_eq_true c22
                      have c22b1 : decide (0 < x0_1.length) = true := decide_eq_true (by omega)
                      clear c22
                      (first | rw [c22b0] | (simp only [i64_w, i32_w]; rw [c22b0]) | skip)
                      have H' := Aside0.mk H
                      clear H
                      obtain ⟨Ao23, co23, eo23⟩ := Kd.V_slice HO_0.out
                      subst eo23
                      have p204 : 0 ≤ (0 : Int) := (by omega)
                      have q204 : 0 < (x0_1.length : Int) := dt_
                      obtain ⟨ad204, e204, hx204_0⟩ := Kd.at_int (Kd.V_reads' HO_0.out).2.2 0 p204 q204
                      cases e204
                      have qi204 : (0 < x0_1.length) = True := eq_true (by omega)
                      (try rw [show ((0 : Int)).toNat = 0 from rfl] at hx204_0)
                      (try rw [Addr.add_zero'] at hx204_0)
                      replace p204 := eq_true p204
                      replace q204 := eq_true q204
                      go_wp2
                      repeat (go_quiet (fail); try go_wp2)
                      go_meet
                      case rel => exact ⟨_, (rd x0_1 0), (by first | rfl | (simp; done) | (simp [*]; done)), H', ⟨by have := HK1.out; have := HJ3.out; have := HJ9.out; first | omega | exact Nat.le_refl _⟩, ⟨by (with_reducible repeat (first | apply Kd.V_alloc | apply Kd.V_drewN | apply Kd.V_drew)); exact HO_0.out⟩, ⟨by (with_reducible repeat (first | apply Kd.V_alloc | apply Kd.V_drewN | apply Kd.V_drew)); exact HO_1.out⟩, ⟨by (with_reducible repeat (first | apply Kd.R_alloc | apply Kd.R_drewN | apply Kd.R_drew)); exact HO_7.out⟩, ⟨bl_⟩⟩
                    · rw [if_neg c22] at H
                      exact absurd H (by simp)
                  · replace c21 := Bool.eq_false_iff.mpr c21
                    subst c21
                    rw [if_neg (show ¬ (false = true) by decide)] at H
                    by_cases c24 : 0 < (x1_1.length : Int)
                    · rw [if_pos c24] at H
                      have c24b0 : decide (0 < (x1_1.length : Int)) = true := decide_eq_true c24
                      have c24b1 : decide (0 < x1_1.length) = true := decide_eq_true (by omega)
                      clear c24
                      have H' := Aside0.mk H
                      clear H
                      obtain ⟨Ao25, co25, eo25⟩ := Kd.V_slice HO_1.out
                      subst eo25
                      have p205 : 0 ≤ (0 : Int) := (by omega)
                      have q205 : 0 < (x1_1.length : Int) := dt_
                      obtain ⟨ad205, e205, hx205_0⟩ := Kd.at_int (Kd.V_reads' HO_1.out).2.2 0 p205 q205
                      cases e205
                      have qi205 : (0 < x1_1.length) = True := eq_true (by omega)
                      (try rw [show ((0 : Int)).toNat = 0 from rfl] at hx205_0)
                      (try rw [Addr.add_zero'] at hx205_0)
                      replace p205 := eq_true p205
                      replace q205 := eq_true q205
                      go_wp2
                      repeat (go_quiet (fail); try go_wp2)
                      go_meet
                      case rel => exact ⟨_, (rd x1_1 0), (by first | rfl | (simp; done) | (simp [*]; done)), H', ⟨by have := HK1.out; have := HJ3.out; have := HJ9.out; first | omega | exact Nat.le_refl _⟩, ⟨by (with_reducible repeat (first | apply Kd.V_alloc | apply Kd.V_drewN | apply Kd.V_drew)); exact HO_0.out⟩, ⟨by (with_reducible repeat (first | apply Kd.V_alloc | apply Kd.V_drewN | apply Kd.V_drew)); exact HO_1.out⟩, ⟨by (with_reducible repeat (first | apply Kd.R_alloc | apply Kd.R_drewN | apply Kd.R_drew)); exact HO_7.out⟩, ⟨bl_⟩⟩
                    · rw [if_neg c24] at H
                      exact absurd H (by simp)
                case rest =>
                  clear HC20
                  try clear c1
                  try clear c2
                  try clear p2
                  try clear q2
                  try clear hx2
                  try clear qi2
                  try clear c5
                  try clear c5b0
                  try clear c5b1
                  try clear c9
                  try clear c10
                  try clear c11
                  try clear c11b0
                  try clear c11b1
                  try clear c11b2
                  try clear c13
                  try clear c13b0
                  try clear c13b1
                  try clear c14
                  try clear c14b0
                  try clear c14b1
                  try clear c15
                  try clear c15b0
                  try clear c15b1
                  try clear p20
                  try clear q20
                  try clear hx20
                  try clear qi20
                  try clear c21
                  try clear c22
                  try clear c22b0
                  try clear c22b1
                  try clear c24
                  try clear c24b0
                  try clear c24b1
                  try clear hx202_0
                  try clear hx203_0
                  try clear hx204_0
                  try clear hx205_0
                  try clear p2
                  try clear p202
                  try clear p203
                  try clear p204
                  try clear p205
                  try clear q2
                  try clear q202
                  try clear q203
                  try clear q204
                  try clear q205
                  obtain ⟨kq, x11_19, rfl, HA, HJ19, HO_0, HO_1, HO_7, HB⟩ := hcut
                  cases kq with
                  | zero => exact absurd HA.out (by simp [shape_line_with_shape_Set_Less_1.j3])
                  | succ kj19 =>
                    have H := HA.out
                    clear HA
                    simp only [shape_line_with_shape_Set_Less_1.j3] at H
                    have HC26 := Aside0.mk H
                    clear H
                    go_upto_region 8 with (fail)
                    repeat (go_quiet (fail); go_upto_region 8 with (fail))
                    go_cut [53] (fun v53 wc => ∃ (kq : Nat) (x53_25 : Bool), v53 = .bool x53_25 ∧ Aside0 (shape_line_with_shape_Set_Less_1.j4 kq x0_1 x1_1 x7_1 x8_1 x9_1 x10_1 x11_19 x53_25 = some r) ∧ Aside0 (kq ≤ kj19) ∧ Aside0 (Kd.V (Kd.int .i64) 3 wc w.heap.size (fun k_ => ((P0_ k_ ∨ P1_ k_) ∨ w.heap.size ≤ k_) ∧ some k_ ≠ (u7 : Value).ownBlock) u0 x0_1) ∧ Aside0 (Kd.V (Kd.int .i64) 3 wc w.heap.size (fun k_ => ((P0_ k_ ∨ P1_ k_) ∨ w.heap.size ≤ k_) ∧ some k_ ≠ (u7 : Value).ownBlock) u1 x1_1) ∧ Aside0 (Kd.R (Kd.int .i64) 3 wc w.heap.size (fun k_ => (w.heap.size ≤ k_)) u7 x7_1) ∧ Aside0 (Below w.heap.size w wc))
                    case first =>
                      have H := HC26.out
                      clear HC26
                      by_cases c27 : (x0_1.length : Int) > 0
                      · rw [if_pos c27] at H
                        have c27b0 : decide (0 < (x0_1.length : Int)) = true := decide_eq_true c27
                        have c27b1 : decide (0 < x0_1.length) = true := decide_eq_true (by omega)
                        clear c27
                        (first | rw [c27b0] | (simp only [i64_w, i32_w]; rw [c27b0]) | skip)
                        by_cases c28 : 0 < (x0_1.length : Int)
                        · rw [if_pos c28] at H
                          have c28b0 : decide (0 < (x0_1.length : Int)) = true := decide_eq_true c28
                          have c28b1 : decide (0 < x0_1.length) = true := decide_eq_true (by omega)
                          clear c28
                          have H' := Aside0.mk H
                          clear H
                          obtain ⟨Ao29, co29, eo29⟩ := Kd.V_slice HO_0.out
                          subst eo29
                          have p206 : 0 ≤ (0 : Int) := (by omega)
                          have q206 : 0 < (x0_1.length : Int) := dt_
                          obtain ⟨ad206, e206, hx206_0⟩ := Kd.at_int (Kd.V_reads' HO_0.out).2.2 0 p206 q206
                          cases e206
                          have qi206 : (0 < x0_1.length) = True := eq_true (by omega)
                          (try rw [show ((0 : Int)).toNat = 0 from rfl] at hx206_0)
                          (try rw [Addr.add_zero'] at hx206_0)
                          replace p206 := eq_true p206
                          replace q206 := eq_true q206
                          go_wp2
                          repeat (go_quiet (fail); try go_wp2)
                          go_meet
                          case rel => exact ⟨_, (((rd x0_1 0) == x11_19)), (by first | rfl | (simp; done) | (simp [*]; done)), H', ⟨by have := HK1.out; have := HJ3.out; have := HJ9.out; have := HJ19.out; first | omega | exact Nat.le_refl _⟩, ⟨by (with_reducible repeat (first | apply Kd.V_alloc | apply Kd.V_drewN | apply Kd.V_drew)); exact HO_0.out⟩, ⟨by (with_reducible repeat (first | apply Kd.V_alloc | apply Kd.V_drewN | apply Kd.V_drew)); exact HO_1.out⟩, ⟨by (with_reducible repeat (first | apply Kd.R_alloc | apply Kd.R_drewN | apply Kd.R_drew)); exact HO_7.out⟩, ⟨bl_⟩⟩
                        · rw [if_neg c28] at H
                          exact absurd H (by simp)
                      · rw [if_neg c27] at H
                        have c27b0 : decide (0 < (x0_1.length : Int)) = false := decide_eq_false c27
                        have c27b1 : decide (0 < x0_1.length) = false := decide_eq_false (by omega)
                        clear c27
                        (first | rw [c27b0] | (simp only [i64_w, i32_w]; rw [c27b0]) | skip)
                        have H' := Aside0.mk H
                        clear H
                        obtain ⟨Ao30, co30, eo30⟩ := Kd.V_slice HO_0.out
                        subst eo30
                        go_wp2
                        repeat (go_quiet (fail); try go_wp2)
                        go_meet
                        case rel => exact ⟨_, (false), (by first | rfl | (simp; done) | (simp [*]; done)), H', ⟨by have := HK1.out; have := HJ3.out; have := HJ9.out; have := HJ19.out; first | omega | exact Nat.le_refl _⟩, ⟨by (with_reducible repeat (first | apply Kd.V_alloc | apply Kd.V_drewN | apply Kd.V_drew)); exact HO_0.out⟩, ⟨by (with_reducible repeat (first | apply Kd.V_alloc | apply Kd.V_drewN | apply Kd.V_drew)); exact HO_1.out⟩, ⟨by (with_reducible repeat (first | apply Kd.R_alloc | apply Kd.R_drewN | apply Kd.R_drew)); exact HO_7.out⟩, ⟨bl_⟩⟩
                    case rest =>
                      clear HC26
                      try clear c1
                      try clear c2
                      try clear p2
                      try clear q2
                      try clear hx2
                      try clear qi2
                      try clear c5
                      try clear c5b0
                      try clear c5b1
                      try clear c9
                      try clear c10
                      try clear c11
                      try clear c11b0
                      try clear c11b1
                      try clear c11b2
                      try clear c13
                      try clear c13b0
                      try clear c13b1
                      try clear c14
                      try clear c14b0
                      try clear c14b1
                      try clear c15
                      try clear c15b0
                      try clear c15b1
                      try clear p20
                      try clear q20
                      try clear hx20
                      try clear qi20
                      try clear c21
                      try clear c22
                      try clear c22b0
                      try clear c22b1
                      try clear c24
                      try clear c24b0
                      try clear c24b1
                      try clear c27
                      try clear c27b0
                      try clear c27b1
                      try clear c28
                      try clear c28b0
                      try clear c28b1
                      try clear hx202_0
                      try clear hx203_0
                      try clear hx204_0
                      try clear hx205_0
                      try clear hx206_0
                      try clear p2
                      try clear p20
                      try clear p202
                      try clear p203
                      try clear p204
                      try clear p205
                      try clear p206
                      try clear q2
                      try clear q20
                      try clear q202
                      try clear q203
                      try clear q204
                      try clear q205
                      try clear q206
                      obtain ⟨kq, x53_25, rfl, HA, HJ25, HO_0, HO_1, HO_7, HB⟩ := hcut
                      cases kq with
                      | zero => exact absurd HA.out (by simp [shape_line_with_shape_Set_Less_1.j4])
                      | succ kj25 =>
                        have H := HA.out
                        clear HA
                        simp only [shape_line_with_shape_Set_Less_1.j4] at H
                        have HC31 := Aside0.mk H
                        clear H
                        go_upto_if 53 with (fail)
                        repeat (go_quiet (fail); go_upto_if 53 with (fail))
                        go_cut [0, 8] (fun v0 v8 wc => ∃ (kq : Nat) (x0_30 : List Int) (x8_30 : Bool), v8 = .bool x8_30 ∧ Aside0 (shape_line_with_shape_Set_Less_1.j5 kq x0_30 x1_1 x7_1 x8_30 x9_1 x10_1 x11_19 = some r) ∧ Aside0 (kq ≤ kj25) ∧ Aside0 (Kd.V (Kd.int .i64) 3 wc w.heap.size (fun k_ => ((P0_ k_ ∨ P1_ k_) ∨ w.heap.size ≤ k_) ∧ some k_ ≠ (u7 : Value).ownBlock) v0 x0_30) ∧ Aside0 (Kd.V (Kd.int .i64) 3 wc w.heap.size (fun k_ => ((P0_ k_ ∨ P1_ k_) ∨ w.heap.size ≤ k_) ∧ some k_ ≠ (u7 : Value).ownBlock) u1 x1_1) ∧ Aside0 (Kd.R (Kd.int .i64) 3 wc w.heap.size (fun k_ => (w.heap.size ≤ k_)) u7 x7_1) ∧ Aside0 (Below w.heap.size w wc))
                        case first =>
                          have H := HC31.out
                          clear HC31
                          by_cases c32 : x53_25 = true
                          · subst c32
                            rw [if_pos rfl] at H
                            by_cases c33 : 1 ≤ (x0_1.length : Int)
                            · rw [if_pos c33] at H
                              have c33b0 := eq_true c33
                              have c33b1 : decide (1 ≤ (x0_1.length : Int)) = true := decide_eq_true c33
                              clear c33
                              obtain ⟨y207, hy207⟩ : ∃ y_ : List Int, y_ = (x0_1.drop 1) := ⟨_, rfl⟩
                              replace H : (shape_line_with_shape_Set_Less_1.j5 kj25 y207 x1_1 x7_1 (!x8_1) x9_1 x10_1 x11_19) = some r := by first | (rw [hy207]; with_reducible exact H) | (have H2_ := (Option.bind_some _ _).symm.trans H; rw [hy207]; with_reducible exact H2_) | (have H2_ := (Option.bind_some _ _).symm.trans H; with_reducible exact H2_) | with_reducible exact H | (rw [hy207]; exact H) | exact H
                              have Ny207 := Aside0.mk hy207
                              clear hy207
                              have H' := Aside0.mk H
                              clear H
                              obtain ⟨Ao35, co35, eo35⟩ := Kd.V_slice HO_0.out
                              subst eo35
                              have q34 : (1 : Int) ≤ ((x0_1.length : Int) : Int) := dt_
                              obtain ⟨i034, hi034, _, hsz34, _⟩ := info_parts info3
                              have hroom34 : x0_1.length ≤ co35 := (Kd.V_reads' HO_0.out).2.1
                              have hC34 : Kd.F (Kd.int .i64) _ _ Ao35 x0_1.length x0_1 := (Kd.V_at (base := w.heap.size) HO_0.out).2.2
                              have hcut34 := cut_from (P := Tryz.prog) 72 3 .i64 Tryz.underlying72 hi034 1 hsz34 Ao35 x0_1.length co35 1 (by omega) q34
                              have hr34 := Kd.F_cut (m := (1 : Int).toNat) (c := co35) hC34 (by omega) hroom34
                              obtain ⟨A34, hA34⟩ : ∃ A1, A1 = (if co35 = (1 : Int).toNat then Ao35 else (Ao35 : Option Addr).map (·.add ((1 : Int).toNat * 1))) := ⟨_, rfl⟩
                              obtain ⟨c34, hc34⟩ : ∃ c1, c1 = co35 - (1 : Int).toNat := ⟨_, rfl⟩
                              have hy34 : y207.length = x0_1.length - (1 : Int).toNat := (by rw [Ny207.out, List.length_drop] <;> omega)
                              rw [show (x0_1).drop (1 : Int).toNat = y207 from Ny207.out.symm] at hr34
                              replace hr34 : Kd.F (Kd.int .i64) _ _ A34 y207.length y207 := (by rw [hA34]; exact hr34)
                              rw [← hy34, ← hA34, ← hc34] at hcut34
                              have HO211 := Aside0.mk (show Kd.V (Kd.int .i64) 3 _ w.heap.size _ (.slice A34 y207.length c34) y207 from Kd.V_mk (by rw [hy34, hc34]; exact Nat.sub_le_sub_right hroom34 _) hr34)
                              have HC211 := Aside0.mk (show y207.length ≤ c34 from by rw [hy34, hc34]; exact Nat.sub_le_sub_right hroom34 _)
                              clear hr34 hC34 hroom34 hi034 hsz34 hc34
                              have KY34 := Aside0.mk hy34
                              have KA34 := Aside0.mk hA34
                              clear hy34 hA34
                              replace q34 := eq_true q34
                              go_wp2
                              repeat (go_quiet (fail); try go_wp2)
                              go_meet
                              case rel => exact ⟨_, (y207), (!x8_1), (by first | rfl | (simp; done) | (simp [*]; done)), H', ⟨by have := HK1.out; have := HJ3.out; have := HJ9.out; have := HJ19.out; have := HJ25.out; first | omega | exact Nat.le_refl _⟩, ⟨by (with_reducible repeat (first | apply Kd.V_alloc | apply Kd.V_drewN | apply Kd.V_drew)); exact HO211.out⟩, ⟨by (with_reducible repeat (first | apply Kd.V_alloc | apply Kd.V_drewN | apply Kd.V_drew)); exact HO_1.out⟩, ⟨by (with_reducible repeat (first | apply Kd.R_alloc | apply Kd.R_drewN | apply Kd.R_drew)); exact HO_7.out⟩, ⟨bl_⟩⟩
                            · rw [if_neg c33] at H
                              exact absurd H (by simp)
                          · replace c32 := Bool.eq_false_iff.mpr c32
                            subst c32
                            rw [if_neg (show ¬ (false = true) by decide)] at H
                            have H' := Aside0.mk H
                            clear H
                            go_wp2
                            repeat (go_quiet (fail); try go_wp2)
                            go_meet
                            case rel => exact ⟨_, (x0_1), (x8_1), (by first | rfl | (simp; done) | (simp [*]; done)), H', ⟨by have := HK1.out; have := HJ3.out; have := HJ9.out; have := HJ19.out; have := HJ25.out; first | omega | exact Nat.le_refl _⟩, ⟨by (with_reducible repeat (first | apply Kd.V_alloc | apply Kd.V_drewN | apply Kd.V_drew)); exact HO_0.out⟩, ⟨by (with_reducible repeat (first | apply Kd.V_alloc | apply Kd.V_drewN | apply Kd.V_drew)); exact HO_1.out⟩, ⟨by (with_reducible repeat (first | apply Kd.R_alloc | apply Kd.R_drewN | apply Kd.R_drew)); exact HO_7.out⟩, ⟨bl_⟩⟩
                        case rest =>
                          clear HC31
                          try clear c1
                          try clear c2
                          try clear p2
                          try clear q2
                          try clear hx2
                          try clear qi2
                          try clear c3
                          try clear q3
                          try clear c5
                          try clear c5b0
                          try clear c5b1
                          try clear c9
                          try clear c10
                          try clear c11
                          try clear c11b0
                          try clear c11b1
                          try clear c11b2
                          try clear c13
                          try clear c13b0
                          try clear c13b1
                          try clear c14
                          try clear c14b0
                          try clear c14b1
                          try clear c15
                          try clear c15b0
                          try clear c15b1
                          try clear p20
                          try clear q20
                          try clear hx20
                          try clear qi20
                          try clear c21
                          try clear c22
                          try clear c22b0
                          try clear c22b1
                          try clear c24
                          try clear c24b0
                          try clear c24b1
                          try clear c27
                          try clear c27b0
                          try clear c27b1
                          try clear c28
                          try clear c28b0
                          try clear c28b1
                          try clear c32
                          try clear c33
                          try clear c33b0
                          try clear c33b1
                          try clear c34
                          try clear q34
                          try clear hx202_0
                          try clear hx203_0
                          try clear hx204_0
                          try clear hx205_0
                          try clear hx206_0
                          try clear p2
                          try clear p20
                          try clear p202
                          try clear p203
                          try clear p204
                          try clear p205
                          try clear p206
                          try clear q2
                          try clear q20
                          try clear q202
                          try clear q203
                          try clear q204
                          try clear q205
                          try clear q206
                          try clear q34
                          obtain ⟨kq, x0_30, x8_30, rfl, HA, HJ30, HO_0, HO_1, HO_7, HB⟩ := hcut
                          cases kq with
                          | zero => exact absurd HA.out (by simp [shape_line_with_shape_Set_Less_1.j5])
                          | succ kj30 =>
                            have H := HA.out
                            clear HA
                            simp only [shape_line_with_shape_Set_Less_1.j5] at H
                            have HC36 := Aside0.mk H
                            clear H
                            go_upto_region 10 with (fail)
                            repeat (go_quiet (fail); go_upto_region 10 with (fail))
                            go_cut [67] (fun v67 wc => ∃ (kq : Nat) (x67_35 : Bool), v67 = .bool x67_35 ∧ Aside0 (shape_line_with_shape_Set_Less_1.j6 kq x0_30 x1_1 x7_1 x8_30 x9_1 x10_1 x11_19 x67_35 = some r) ∧ Aside0 (kq ≤ kj30) ∧ Aside0 (Kd.V (Kd.int .i64) 3 wc w.heap.size (fun k_ => ((P0_ k_ ∨ P1_ k_) ∨ w.heap.size ≤ k_) ∧ some k_ ≠ (u7 : Value).ownBlock) u0 x0_30) ∧ Aside0 (Kd.V (Kd.int .i64) 3 wc w.heap.size (fun k_ => ((P0_ k_ ∨ P1_ k_) ∨ w.heap.size ≤ k_) ∧ some k_ ≠ (u7 : Value).ownBlock) u1 x1_1) ∧ Aside0 (Kd.R (Kd.int .i64) 3 wc w.heap.size (fun k_ => (w.heap.size ≤ k_)) u7 x7_1) ∧ Aside0 (Below w.heap.size w wc))
                            case first =>
                              have H := HC36.out
                              clear HC36
                              by_cases c37 : (x1_1.length : Int) > 0
                              · rw [if_pos c37] at H
                                have c37b0 : decide (0 < (x1_1.length : Int)) = true := decide_eq_true c37
                                have c37b1 : decide (0 < x1_1.length) = true := decide_eq_true (by omega)
                                clear c37
                                (first | rw [c37b0] | (simp only [i64_w, i32_w]; rw [c37b0]) | skip)
                                by_cases c38 : 0 < (x1_1.length : Int)
                                · rw [if_pos c38] at H
                                  have c38b0 : decide (0 < (x1_1.length : Int)) = true := decide_eq_true c38
                                  have c38b1 : decide (0 < x1_1.length) = true := decide_eq_true (by omega)
                                  clear c38
                                  have H' := Aside0.mk H
                                  clear H
                                  obtain ⟨Ao39, co39, eo39⟩ := Kd.V_slice HO_1.out
                                  subst eo39
                                  have p212 : 0 ≤ (0 : Int) := (by omega)
                                  have q212 : 0 < (x1_1.length : Int) := dt_
                                  obtain ⟨ad212, e212, hx212_0⟩ := Kd.at_int (Kd.V_reads' HO_1.out).2.2 0 p212 q212
                                  cases e212
                                  have qi212 : (0 < x1_1.length) = True := eq_true (by omega)
                                  (try rw [show ((0 : Int)).toNat = 0 from rfl] at hx212_0)
                                  (try rw [Addr.add_zero'] at hx212_0)
                                  replace p212 := eq_true p212
                                  replace q212 := eq_true q212
                                  go_wp2
                                  repeat (go_quiet (fail); try go_wp2)
                                  go_meet
                                  case rel => exact ⟨_, (((rd x1_1 0) == x11_19)), (by first | rfl | (simp; done) | (simp [*]; done)), H', ⟨by have := HK1.out; have := HJ3.out; have := HJ9.out; have := HJ19.out; have := HJ25.out; have := HJ30.out; first | omega | exact Nat.le_refl _⟩, ⟨by (with_reducible repeat (first | apply Kd.V_alloc | apply Kd.V_drewN | apply Kd.V_drew)); exact HO_0.out⟩, ⟨by (with_reducible repeat (first | apply Kd.V_alloc | apply Kd.V_drewN | apply Kd.V_drew)); exact HO_1.out⟩, ⟨by (with_reducible repeat (first | apply Kd.R_alloc | apply Kd.R_drewN | apply Kd.R_drew)); exact HO_7.out⟩, ⟨bl_⟩⟩
                                · rw [if_neg c38] at H
                                  exact absurd H (by simp)
                              · rw [if_neg c37] at H
                                have c37b0 : decide (0 < (x1_1.length : Int)) = false := decide_eq_false c37
                                have c37b1 : decide (0 < x1_1.length) = false := decide_eq_false (by omega)
                                clear c37
                                (first | rw [c37b0] | (simp only [i64_w, i32_w]; rw [c37b0]) | skip)
                                have H' := Aside0.mk H
                                clear H
                                obtain ⟨Ao40, co40, eo40⟩ := Kd.V_slice HO_1.out
                                subst eo40
                                go_wp2
                                repeat (go_quiet (fail); try go_wp2)
                                go_meet
                                case rel => exact ⟨_, (false), (by first | rfl | (simp; done) | (simp [*]; done)), H', ⟨by have := HK1.out; have := HJ3.out; have := HJ9.out; have := HJ19.out; have := HJ25.out; have := HJ30.out; first | omega | exact Nat.le_refl _⟩, ⟨by (with_reducible repeat (first | apply Kd.V_alloc | apply Kd.V_drewN | apply Kd.V_drew)); exact HO_0.out⟩, ⟨by (with_reducible repeat (first | apply Kd.V_alloc | apply Kd.V_drewN | apply Kd.V_drew)); exact HO_1.out⟩, ⟨by (with_reducible repeat (first | apply Kd.R_alloc | apply Kd.R_drewN | apply Kd.R_drew)); exact HO_7.out⟩, ⟨bl_⟩⟩
                            case rest =>
                              clear HC36
                              try clear c1
                              try clear c2
                              try clear p2
                              try clear q2
                              try clear hx2
                              try clear qi2
                              try clear c3
                              try clear q3
                              try clear c5
                              try clear c5b0
                              try clear c5b1
                              try clear c9
                              try clear c10
                              try clear c11
                              try clear c11b0
                              try clear c11b1
                              try clear c11b2
                              try clear c13
                              try clear c13b0
                              try clear c13b1
                              try clear c14
                              try clear c14b0
                              try clear c14b1
                              try clear c15
                              try clear c15b0
                              try clear c15b1
                              try clear p20
                              try clear q20
                              try clear hx20
                              try clear qi20
                              try clear c21
                              try clear p21
                              try clear q21
                              try clear hx21
                              try clear qi21
                              try clear c22
                              try clear c22b0
                              try clear c22b1
                              try clear c24
                              try clear c24b0
                              try clear c24b1
                              try clear c27
                              try clear c27b0
                              try clear c27b1
                              try clear c28
                              try clear c28b0
                              try clear c28b1
                              try clear c32
                              try clear c33
                              try clear c33b0
                              try clear c33b1
                              try clear c34
                              try clear q34
                              try clear c37
                              try clear c37b0
                              try clear c37b1
                              try clear c38
                              try clear c38b0
                              try clear c38b1
                              try clear hx202_0
                              try clear hx203_0
                              try clear hx204_0
                              try clear hx205_0
                              try clear hx206_0
                              try clear hx212_0
                              try clear p2
                              try clear p20
                              try clear p202
                              try clear p203
                              try clear p204
                              try clear p205
                              try clear p206
                              try clear p212
                              try clear q2
                              try clear q20
                              try clear q202
                              try clear q203
                              try clear q204
                              try clear q205
                              try clear q206
                              try clear q212
                              try clear q3
                              try clear q34
                              obtain ⟨kq, x67_35, rfl, HA, HJ35, HO_0, HO_1, HO_7, HB⟩ := hcut
                              cases kq with
                              | zero => exact absurd HA.out (by simp [shape_line_with_shape_Set_Less_1.j6])
                              | succ kj35 =>
                                have H := HA.out
                                clear HA
                                simp only [shape_line_with_shape_Set_Less_1.j6] at H
                                by_cases c41 : x67_35 = true
                                · subst c41
                                  rw [if_pos rfl] at H
                                  by_cases c42 : 1 ≤ (x1_1.length : Int)
                                  · rw [if_pos c42] at H
                                    have c42b0 := eq_true c42
                                    have c42b1 : decide (1 ≤ (x1_1.length : Int)) = true := decide_eq_true c42
                                    clear c42
                                    obtain ⟨y213, hy213⟩ : ∃ y_ : List Int, y_ = (x1_1.drop 1) := ⟨_, rfl⟩
                                    replace H : ((shape_Set_Less_1.f x8_30 (!x9_1)).bind fun t218 => (if (t218 != x10_1) = true then (if x7_1.length < 17592186044416 then (shape_line_with_shape_Set_Less_1.l0 kj35 x0_30 y213 (x7_1 ++ [x11_19]) x8_30 (!x9_1) t218) else (none)) else (shape_line_with_shape_Set_Less_1.l0 kj35 x0_30 y213 x7_1 x8_30 (!x9_1) x10_1))) = some r := by first | (rw [hy213]; with_reducible exact H) | (have H2_ := (Option.bind_some _ _).symm.trans H; rw [hy213]; with_reducible exact H2_) | (have H2_ := (Option.bind_some _ _).symm.trans H; with_reducible exact H2_) | with_reducible exact H | (rw [hy213]; exact H) | exact H
                                    have Ny213 := Aside0.mk hy213
                                    clear hy213
                                    replace H := Option.bind_eq_some_iff.mp H
                                    obtain ⟨t218, A430, H⟩ := H
                                    try dsimp only at H
                                    have A43 := Aside0.mk A430
                                    clear A430
                                    by_cases c44 : (t218 != x10_1) = true
                                    · rw [if_pos c44] at H
                                      have c44b0 : (t218 != x10_1) = true := c44
                                      (try (have c44b1 : decide (t218 = x10_1) = false := by simpa using c44))
                                      (try (have c44b2 : (t218 == x10_1) = false := by simpa using c44))
                                      (try (have c44b3 : ¬ (t218 = x10_1) := by simpa using c44))
                                      clear c44
                                      by_cases c45 : x7_1.length < 17592186044416
                                      · rw [if_pos c45] at H
                                        have LMc45 := Aside0.mk c45
                                        clear c45
                                        obtain ⟨y219, hy219⟩ : ∃ y_ : List Int, y_ = (x7_1 ++ [x11_19]) := ⟨_, rfl⟩
                                        replace H : (shape_line_with_shape_Set_Less_1.l0 kj35 x0_30 y213 y219 x8_30 (!x9_1) t218) = some r := by first | (rw [hy219]; with_reducible exact H) | (have H2_ := (Option.bind_some _ _).symm.trans H; rw [hy219]; with_reducible exact H2_) | (have H2_ := (Option.bind_some _ _).symm.trans H; with_reducible exact H2_) | with_reducible exact H | (rw [hy219]; exact H) | exact H
                                        have Ny219 := Aside0.mk hy219
                                        clear hy219
                                        have H' := Aside0.mk H
                                        clear H
                                        obtain ⟨Ao47, co47, eo47⟩ := Kd.V_slice HO_1.out
                                        subst eo47
                                        have q46 : (1 : Int) ≤ ((x1_1.length : Int) : Int) := dt_
                                        obtain ⟨i046, hi046, _, hsz46, _⟩ := info_parts info3
                                        have hroom46 : x1_1.length ≤ co47 := (Kd.V_reads' HO_1.out).2.1
                                        have hC46 : Kd.F (Kd.int .i64) _ _ Ao47 x1_1.length x1_1 := (Kd.V_at (base := w.heap.size) HO_1.out).2.2
                                        have hcut46 := cut_from (P := Tryz.prog) 72 3 .i64 Tryz.underlying72 hi046 1 hsz46 Ao47 x1_1.length co47 1 (by omega) q46
                                        have hr46 := Kd.F_cut (m := (1 : Int).toNat) (c := co47) hC46 (by omega) hroom46
                                        obtain ⟨A46, hA46⟩ : ∃ A1, A1 = (if co47 = (1 : Int).toNat then Ao47 else (Ao47 : Option Addr).map (·.add ((1 : Int).toNat * 1))) := ⟨_, rfl⟩
                                        obtain ⟨c46, hc46⟩ : ∃ c1, c1 = co47 - (1 : Int).toNat := ⟨_, rfl⟩
                                        have hy46 : y213.length = x1_1.length - (1 : Int).toNat := (by rw [Ny213.out, List.length_drop] <;> omega)
                                        rw [show (x1_1).drop (1 : Int).toNat = y213 from Ny213.out.symm] at hr46
                                        replace hr46 : Kd.F (Kd.int .i64) _ _ A46 y213.length y213 := (by rw [hA46]; exact hr46)
                                        rw [← hy46, ← hA46, ← hc46] at hcut46
                                        have HO217 := Aside0.mk (show Kd.V (Kd.int .i64) 3 _ w.heap.size _ (.slice A46 y213.length c46) y213 from Kd.V_mk (by rw [hy46, hc46]; exact Nat.sub_le_sub_right hroom46 _) hr46)
                                        have HC217 := Aside0.mk (show y213.length ≤ c46 from by rw [hy46, hc46]; exact Nat.sub_le_sub_right hroom46 _)
                                        clear hr46 hC46 hroom46 hi046 hsz46 hc46
                                        have KY46 := Aside0.mk hy46
                                        have KA46 := Aside0.mk hA46
                                        clear hy46 hA46
                                        replace q46 := eq_true q46
                                        go_wp2_with (first | (go_at_call 97; (with_reducible refine (shape_Set_Less_1.calls x8_30 (!x9_1) t218 _ ?side1 A43.out).mono ?_); (case side1 => exact gw_ HG.out); rintro e w' ⟨rfl, ⟨nd, rfl⟩⟩; (try first | exact ⟨rfl, _, World.drewN_drewN _ _ _⟩ | exact ⟨rfl, _, Eq.trans (World.drewN_drewN _ _ _) (congrArg (World.drewN _) (Nat.add_assoc _ _ _))⟩)) | ((with_reducible refine gate_builtin (b := .append) (xs := #[.tmp 79, .tmp 81]) rfl ?_); (try (refine gate_guard (by rfl) ?_; dsimp only)); at_builtin; refine Kd.R_append (Kd.int .i64) (w0 := w) w.heap.size rfl (.tmp 79) (.tmp 81) 72 3 (.int .i64 0) 8 rfl Tryz.underlying72 info3 rfl (by decide) (by omega) u7 x7_1 x11_19 [.int .i64 x11_19] (fun k_ => (w.heap.size ≤ k_)) (fun _ => False) rfl rfl ?aP (fun _ hk => hk.elim) ?aF ?aO ?aB ?aS ?aL ?_; (case aP => exact rfl); (case aB => exact bl_); (case aF => exact (fun k_ hk => (Nat.le_trans (below_size bl_) hk))); (case aO => exact (rr_ HO_7)); (case aS => exact (below_size bl_)); (case aL => have := LMc45.out; omega); intro v220 w48 ho hb hg hat; rw [← Ny219.out] at ho; have n0_ := Aside0.mk (Kd.V_afterv (ok := (fun k_ => ((P0_ k_ ∨ P1_ k_) ∨ w.heap.size ≤ k_))) (vv_ HO_0) hg hat); have n1_ := Aside0.mk (Kd.V_afterv (ok := (fun k_ => ((P0_ k_ ∨ P1_ k_) ∨ w.heap.size ≤ k_))) (vv_ HO_1) hg hat); have n2_ := Aside0.mk (Kd.V_afterv (ok := (fun k_ => ((P0_ k_ ∨ P1_ k_) ∨ w.heap.size ≤ k_))) (vv_ HO217) hg hat); have n3_ := Aside0.mk (hb); have n4_ := Aside0.mk (ho); clear HO_0; clear HO_1; clear HO217; clear HB; clear HO_7; have HO_0 := n0_; have HO_1 := n1_; have HO217 := n2_; have HB := n3_; have HO221 := n4_; clear n0_ n1_ n2_ n3_ n4_; clear ho hb hg hat))
                                        repeat (go_quiet (first | (go_at_call 97; (with_reducible refine (shape_Set_Less_1.calls x8_30 (!x9_1) t218 _ ?side1 A43.out).mono ?_); (case side1 => exact gw_ HG.out); rintro e w' ⟨rfl, ⟨nd, rfl⟩⟩; (try first | exact ⟨rfl, _, World.drewN_drewN _ _ _⟩ | exact ⟨rfl, _, Eq.trans (World.drewN_drewN _ _ _) (congrArg (World.drewN _) (Nat.add_assoc _ _ _))⟩)) | ((with_reducible refine gate_builtin (b := .append) (xs := #[.tmp 79, .tmp 81]) rfl ?_); (try (refine gate_guard (by rfl) ?_; dsimp only)); at_builtin; refine Kd.R_append (Kd.int .i64) (w0 := w) w.heap.size rfl (.tmp 79) (.tmp 81) 72 3 (.int .i64 0) 8 rfl Tryz.underlying72 info3 rfl (by decide) (by omega) u7 x7_1 x11_19 [.int .i64 x11_19] (fun k_ => (w.heap.size ≤ k_)) (fun _ => False) rfl rfl ?aP (fun _ hk => hk.elim) ?aF ?aO ?aB ?aS ?aL ?_; (case aP => exact rfl); (case aB => exact bl_); (case aF => exact (fun k_ hk => (Nat.le_trans (below_size bl_) hk))); (case aO => exact (rr_ HO_7)); (case aS => exact (below_size bl_)); (case aL => have := LMc45.out; omega); intro v220 w48 ho hb hg hat; rw [← Ny219.out] at ho; have n0_ := Aside0.mk (Kd.V_afterv (ok := (fun k_ => ((P0_ k_ ∨ P1_ k_) ∨ w.heap.size ≤ k_))) (vv_ HO_0) hg hat); have n1_ := Aside0.mk (Kd.V_afterv (ok := (fun k_ => ((P0_ k_ ∨ P1_ k_) ∨ w.heap.size ≤ k_))) (vv_ HO_1) hg hat); have n2_ := Aside0.mk (Kd.V_afterv (ok := (fun k_ => ((P0_ k_ ∨ P1_ k_) ∨ w.heap.size ≤ k_))) (vv_ HO217) hg hat); have n3_ := Aside0.mk (hb); have n4_ := Aside0.mk (ho); clear HO_0; clear HO_1; clear HO217; clear HB; clear HO_7; have HO_0 := n0_; have HO_1 := n1_; have HO217 := n2_; have HB := n3_; have HO221 := n4_; clear n0_ n1_ n2_ n3_ n4_; clear ho hb hg hat)); try go_wp2_with (first | (go_at_call 97; (with_reducible refine (shape_Set_Less_1.calls x8_30 (!x9_1) t218 _ ?side1 A43.out).mono ?_); (case side1 => exact gw_ HG.out); rintro e w' ⟨rfl, ⟨nd, rfl⟩⟩; (try first | exact ⟨rfl, _, World.drewN_drewN _ _ _⟩ | exact ⟨rfl, _, Eq.trans (World.drewN_drewN _ _ _) (congrArg (World.drewN _) (Nat.add_assoc _ _ _))⟩)) | ((with_reducible refine gate_builtin (b := .append) (xs := #[.tmp 79, .tmp 81]) rfl ?_); (try (refine gate_guard (by rfl) ?_; dsimp only)); at_builtin; refine Kd.R_append (Kd.int .i64) (w0 := w) w.heap.size rfl (.tmp 79) (.tmp 81) 72 3 (.int .i64 0) 8 rfl Tryz.underlying72 info3 rfl (by decide) (by omega) u7 x7_1 x11_19 [.int .i64 x11_19] (fun k_ => (w.heap.size ≤ k_)) (fun _ => False) rfl rfl ?aP (fun _ hk => hk.elim) ?aF ?aO ?aB ?aS ?aL ?_; (case aP => exact rfl); (case aB => exact bl_); (case aF => exact (fun k_ hk => (Nat.le_trans (below_size bl_) hk))); (case aO => exact (rr_ HO_7)); (case aS => exact (below_size bl_)); (case aL => have := LMc45.out; omega); intro v220 w48 ho hb hg hat; rw [← Ny219.out] at ho; have n0_ := Aside0.mk (Kd.V_afterv (ok := (fun k_ => ((P0_ k_ ∨ P1_ k_) ∨ w.heap.size ≤ k_))) (vv_ HO_0) hg hat); have n1_ := Aside0.mk (Kd.V_afterv (ok := (fun k_ => ((P0_ k_ ∨ P1_ k_) ∨ w.heap.size ≤ k_))) (vv_ HO_1) hg hat); have n2_ := Aside0.mk (Kd.V_afterv (ok := (fun k_ => ((P0_ k_ ∨ P1_ k_) ∨ w.heap.size ≤ k_))) (vv_ HO217) hg hat); have n3_ := Aside0.mk (hb); have n4_ := Aside0.mk (ho); clear HO_0; clear HO_1; clear HO217; clear HB; clear HO_7; have HO_0 := n0_; have HO_1 := n1_; have HO217 := n2_; have HB := n3_; have HO221 := n4_; clear n0_ n1_ n2_ n3_ n4_; clear ho hb hg hat)))
                                        go_roundg kj35
                                        case measure => have := HK1.out; have := HJ3.out; have := HJ9.out; have := HJ19.out; have := HJ25.out; have := HJ30.out; have := HJ35.out; omega
                                        case rel => exact ⟨(x0_30), (y213), (y219), (x8_30), (!x9_1), (t218), (by first | rfl | (simp; done) | (simp [*]; done)), (by first | rfl | (simp; done) | (simp [*]; done)), (by first | rfl | (simp; done) | (simp [*]; done)), H', ⟨by have := HK1.out; have := HJ3.out; have := HJ9.out; have := HJ19.out; have := HJ25.out; have := HJ30.out; have := HJ35.out; omega⟩, ⟨by (with_reducible repeat (first | apply Kd.V_alloc | apply Kd.V_drewN | apply Kd.V_drew)); exact HO_0.out⟩, ⟨by (with_reducible repeat (first | apply Kd.V_alloc | apply Kd.V_drewN | apply Kd.V_drew)); exact HO217.out⟩, ⟨by (with_reducible repeat (first | apply Kd.R_alloc | apply Kd.R_drewN | apply Kd.R_drew)); exact HO221.out⟩, ⟨bl_⟩⟩
                                      · rw [if_neg c45] at H
                                        exact absurd H (by simp)
                                    · rw [if_neg c44] at H
                                      have c44b0 : (t218 != x10_1) = false := by simpa using c44
                                      (try (have c44b1 : decide (t218 = x10_1) = true := by simpa using c44))
                                      (try (have c44b2 : (t218 == x10_1) = true := by simpa using c44))
                                      clear c44
                                      have H' := Aside0.mk H
                                      clear H
                                      obtain ⟨Ao50, co50, eo50⟩ := Kd.V_slice HO_1.out
                                      subst eo50
                                      have q49 : (1 : Int) ≤ ((x1_1.length : Int) : Int) := dt_
                                      obtain ⟨i049, hi049, _, hsz49, _⟩ := info_parts info3
                                      have hroom49 : x1_1.length ≤ co50 := (Kd.V_reads' HO_1.out).2.1
                                      have hC49 : Kd.F (Kd.int .i64) _ _ Ao50 x1_1.length x1_1 := (Kd.V_at (base := w.heap.size) HO_1.out).2.2
                                      have hcut49 := cut_from (P := Tryz.prog) 72 3 .i64 Tryz.underlying72 hi049 1 hsz49 Ao50 x1_1.length co50 1 (by omega) q49
                                      have hr49 := Kd.F_cut (m := (1 : Int).toNat) (c := co50) hC49 (by omega) hroom49
                                      obtain ⟨A49, hA49⟩ : ∃ A1, A1 = (if co50 = (1 : Int).toNat then Ao50 else (Ao50 : Option Addr).map (·.add ((1 : Int).toNat * 1))) := ⟨_, rfl⟩
                                      obtain ⟨c49, hc49⟩ : ∃ c1, c1 = co50 - (1 : Int).toNat := ⟨_, rfl⟩
                                      have hy49 : y213.length = x1_1.length - (1 : Int).toNat := (by rw [Ny213.out, List.length_drop] <;> omega)
                                      rw [show (x1_1).drop (1 : Int).toNat = y213 from Ny213.out.symm] at hr49
                                      replace hr49 : Kd.F (Kd.int .i64) _ _ A49 y213.length y213 := (by rw [hA49]; exact hr49)
                                      rw [← hy49, ← hA49, ← hc49] at hcut49
                                      have HO217 := Aside0.mk (show Kd.V (Kd.int .i64) 3 _ w.heap.size _ (.slice A49 y213.length c49) y213 from Kd.V_mk (by rw [hy49, hc49]; exact Nat.sub_le_sub_right hroom49 _) hr49)
                                      have HC217 := Aside0.mk (show y213.length ≤ c49 from by rw [hy49, hc49]; exact Nat.sub_le_sub_right hroom49 _)
                                      clear hr49 hC49 hroom49 hi049 hsz49 hc49
                                      have KY49 := Aside0.mk hy49
                                      have KA49 := Aside0.mk hA49
                                      clear hy49 hA49
                                      replace q49 := eq_true q49
                                      go_wp2_with (first | (go_at_call 97; (with_reducible refine (shape_Set_Less_1.calls x8_30 (!x9_1) t218 _ ?side1 A43.out).mono ?_); (case side1 => exact gw_ HG.out); rintro e w' ⟨rfl, ⟨nd, rfl⟩⟩; (try first | exact ⟨rfl, _, World.drewN_drewN _ _ _⟩ | exact ⟨rfl, _, Eq.trans (World.drewN_drewN _ _ _) (congrArg (World.drewN _) (Nat.add_assoc _ _ _))⟩)))
                                      repeat (go_quiet (first | (go_at_call 97; (with_reducible refine (shape_Set_Less_1.calls x8_30 (!x9_1) t218 _ ?side1 A43.out).mono ?_); (case side1 => exact gw_ HG.out); rintro e w' ⟨rfl, ⟨nd, rfl⟩⟩; (try first | exact ⟨rfl, _, World.drewN_drewN _ _ _⟩ | exact ⟨rfl, _, Eq.trans (World.drewN_drewN _ _ _) (congrArg (World.drewN _) (Nat.add_assoc _ _ _))⟩))); try go_wp2_with (first | (go_at_call 97; (with_reducible refine (shape_Set_Less_1.calls x8_30 (!x9_1) t218 _ ?side1 A43.out).mono ?_); (case side1 => exact gw_ HG.out); rintro e w' ⟨rfl, ⟨nd, rfl⟩⟩; (try first | exact ⟨rfl, _, World.drewN_drewN _ _ _⟩ | exact ⟨rfl, _, Eq.trans (World.drewN_drewN _ _ _) (congrArg (World.drewN _) (Nat.add_assoc _ _ _))⟩))))
                                      go_roundg kj35
                                      case measure => have := HK1.out; have := HJ3.out; have := HJ9.out; have := HJ19.out; have := HJ25.out; have := HJ30.out; have := HJ35.out; omega
                                      case rel => exact ⟨(x0_30), (y213), (x7_1), (x8_30), (!x9_1), (x10_1), (by first | rfl | (simp; done) | (simp [*]; done)), (by first | rfl | (simp; done) | (simp [*]; done)), (by first | rfl | (simp; done) | (simp [*]; done)), H', ⟨by have := HK1.out; have := HJ3.out; have := HJ9.out; have := HJ19.out; have := HJ25.out; have := HJ30.out; have := HJ35.out; omega⟩, ⟨by (with_reducible repeat (first | apply Kd.V_alloc | apply Kd.V_drewN | apply Kd.V_drew)); exact HO_0.out⟩, ⟨by (with_reducible repeat (first | apply Kd.V_alloc | apply Kd.V_drewN | apply Kd.V_drew)); exact HO217.out⟩, ⟨by (with_reducible repeat (first | apply Kd.R_alloc | apply Kd.R_drewN | apply Kd.R_drew)); exact HO_7.out⟩, ⟨bl_⟩⟩
                                  · rw [if_neg c42] at H
                                    exact absurd H (by simp)
                                · replace c41 := Bool.eq_false_iff.mpr c41
                                  subst c41
                                  rw [if_neg (show ¬ (false = true) by decide)] at H
                                  replace H := Option.bind_eq_some_iff.mp H
                                  obtain ⟨t222, A510, H⟩ := H
                                  try dsimp only at H
                                  have A51 := Aside0.mk A510
                                  clear A510
                                  by_cases c52 : (t222 != x10_1) = true
                                  · rw [if_pos c52] at H
                                    have c52b0 : (t222 != x10_1) = true := c52
                                    (try (have c52b1 : decide (t222 = x10_1) = false := by simpa using c52))
                                    (try (have c52b2 : (t222 == x10_1) = false := by simpa using c52))
                                    (try (have c52b3 : ¬ (t222 = x10_1) := by simpa using c52))
                                    clear c52
                                    by_cases c53 : x7_1.length < 17592186044416
                                    · rw [if_pos c53] at H
                                      have LMc53 := Aside0.mk c53
                                      clear c53
                                      obtain ⟨y223, hy223⟩ : ∃ y_ : List Int, y_ = (x7_1 ++ [x11_19]) := ⟨_, rfl⟩
                                      replace H : (shape_line_with_shape_Set_Less_1.l0 kj35 x0_30 x1_1 y223 x8_30 x9_1 t222) = some r := by first | (rw [hy223]; with_reducible exact H) | (have H2_ := (Option.bind_some _ _).symm.trans H; rw [hy223]; with_reducible exact H2_) | (have H2_ := (Option.bind_some _ _).symm.trans H; with_reducible exact H2_) | with_reducible exact H | (rw [hy223]; exact H) | exact H
                                      have Ny223 := Aside0.mk hy223
                                      clear hy223
                                      have H' := Aside0.mk H
                                      clear H
                                      go_wp2_with (first | (go_at_call 97; (with_reducible refine (shape_Set_Less_1.calls x8_30 x9_1 t222 _ ?side1 A51.out).mono ?_); (case side1 => exact gw_ HG.out); rintro e w' ⟨rfl, ⟨nd, rfl⟩⟩; (try first | exact ⟨rfl, _, World.drewN_drewN _ _ _⟩ | exact ⟨rfl, _, Eq.trans (World.drewN_drewN _ _ _) (congrArg (World.drewN _) (Nat.add_assoc _ _ _))⟩)) | ((with_reducible refine gate_builtin (b := .append) (xs := #[.tmp 79, .tmp 81]) rfl ?_); (try (refine gate_guard (by rfl) ?_; dsimp only)); at_builtin; refine Kd.R_append (Kd.int .i64) (w0 := w) w.heap.size rfl (.tmp 79) (.tmp 81) 72 3 (.int .i64 0) 8 rfl Tryz.underlying72 info3 rfl (by decide) (by omega) u7 x7_1 x11_19 [.int .i64 x11_19] (fun k_ => (w.heap.size ≤ k_)) (fun _ => False) rfl rfl ?aP (fun _ hk => hk.elim) ?aF ?aO ?aB ?aS ?aL ?_; (case aP => exact rfl); (case aB => exact bl_); (case aF => exact (fun k_ hk => (Nat.le_trans (below_size bl_) hk))); (case aO => exact (rr_ HO_7)); (case aS => exact (below_size bl_)); (case aL => have := LMc53.out; omega); intro v224 w54 ho hb hg hat; rw [← Ny223.out] at ho; have n0_ := Aside0.mk (Kd.V_afterv (ok := (fun k_ => ((P0_ k_ ∨ P1_ k_) ∨ w.heap.size ≤ k_))) (vv_ HO_0) hg hat); have n1_ := Aside0.mk (Kd.V_afterv (ok := (fun k_ => ((P0_ k_ ∨ P1_ k_) ∨ w.heap.size ≤ k_))) (vv_ HO_1) hg hat); have n2_ := Aside0.mk (hb); have n3_ := Aside0.mk (ho); clear HO_0; clear HO_1; clear HB; clear HO_7; have HO_0 := n0_; have HO_1 := n1_; have HB := n2_; have HO225 := n3_; clear n0_ n1_ n2_ n3_; clear ho hb hg hat))
                                      repeat (go_quiet (first | (go_at_call 97; (with_reducible refine (shape_Set_Less_1.calls x8_30 x9_1 t222 _ ?side1 A51.out).mono ?_); (case side1 => exact gw_ HG.out); rintro e w' ⟨rfl, ⟨nd, rfl⟩⟩; (try first | exact ⟨rfl, _, World.drewN_drewN _ _ _⟩ | exact ⟨rfl, _, Eq.trans (World.drewN_drewN _ _ _) (congrArg (World.drewN _) (Nat.add_assoc _ _ _))⟩)) | ((with_reducible refine gate_builtin (b := .append) (xs := #[.tmp 79, .tmp 81]) rfl ?_); (try (refine gate_guard (by rfl) ?_; dsimp only)); at_builtin; refine Kd.R_append (Kd.int .i64) (w0 := w) w.heap.size rfl (.tmp 79) (.tmp 81) 72 3 (.int .i64 0) 8 rfl Tryz.underlying72 info3 rfl (by decide) (by omega) u7 x7_1 x11_19 [.int .i64 x11_19] (fun k_ => (w.heap.size ≤ k_)) (fun _ => False) rfl rfl ?aP (fun _ hk => hk.elim) ?aF ?aO ?aB ?aS ?aL ?_; (case aP => exact rfl); (case aB => exact bl_); (case aF => exact (fun k_ hk => (Nat.le_trans (below_size bl_) hk))); (case aO => exact (rr_ HO_7)); (case aS => exact (below_size bl_)); (case aL => have := LMc53.out; omega); intro v224 w54 ho hb hg hat; rw [← Ny223.out] at ho; have n0_ := Aside0.mk (Kd.V_afterv (ok := (fun k_ => ((P0_ k_ ∨ P1_ k_) ∨ w.heap.size ≤ k_))) (vv_ HO_0) hg hat); have n1_ := Aside0.mk (Kd.V_afterv (ok := (fun k_ => ((P0_ k_ ∨ P1_ k_) ∨ w.heap.size ≤ k_))) (vv_ HO_1) hg hat); have n2_ := Aside0.mk (hb); have n3_ := Aside0.mk (ho); clear HO_0; clear HO_1; clear HB; clear HO_7; have HO_0 := n0_; have HO_1 := n1_; have HB := n2_; have HO225 := n3_; clear n0_ n1_ n2_ n3_; clear ho hb hg hat)); try go_wp2_with (first | (go_at_call 97; (with_reducible refine (shape_Set_Less_1.calls x8_30 x9_1 t222 _ ?side1 A51.out).mono ?_); (case side1 => exact gw_ HG.out); rintro e w' ⟨rfl, ⟨nd, rfl⟩⟩; (try first | exact ⟨rfl, _, World.drewN_drewN _ _ _⟩ | exact ⟨rfl, _, Eq.trans (World.drewN_drewN _ _ _) (congrArg (World.drewN _) (Nat.add_assoc _ _ _))⟩)) | ((with_reducible refine gate_builtin (b := .append) (xs := #[.tmp 79, .tmp 81]) rfl ?_); (try (refine gate_guard (by rfl) ?_; dsimp only)); at_builtin; refine Kd.R_append (Kd.int .i64) (w0 := w) w.heap.size rfl (.tmp 79) (.tmp 81) 72 3 (.int .i64 0) 8 rfl Tryz.underlying72 info3 rfl (by decide) (by omega) u7 x7_1 x11_19 [.int .i64 x11_19] (fun k_ => (w.heap.size ≤ k_)) (fun _ => False) rfl rfl ?aP (fun _ hk => hk.elim) ?aF ?aO ?aB ?aS ?aL ?_; (case aP => exact rfl); (case aB => exact bl_); (case aF => exact (fun k_ hk => (Nat.le_trans (below_size bl_) hk))); (case aO => exact (rr_ HO_7)); (case aS => exact (below_size bl_)); (case aL => have := LMc53.out; omega); intro v224 w54 ho hb hg hat; rw [← Ny223.out] at ho; have n0_ := Aside0.mk (Kd.V_afterv (ok := (fun k_ => ((P0_ k_ ∨ P1_ k_) ∨ w.heap.size ≤ k_))) (vv_ HO_0) hg hat); have n1_ := Aside0.mk (Kd.V_afterv (ok := (fun k_ => ((P0_ k_ ∨ P1_ k_) ∨ w.heap.size ≤ k_))) (vv_ HO_1) hg hat); have n2_ := Aside0.mk (hb); have n3_ := Aside0.mk (ho); clear HO_0; clear HO_1; clear HB; clear HO_7; have HO_0 := n0_; have HO_1 := n1_; have HB := n2_; have HO225 := n3_; clear n0_ n1_ n2_ n3_; clear ho hb hg hat)))
                                      go_roundg kj35
                                      case measure => have := HK1.out; have := HJ3.out; have := HJ9.out; have := HJ19.out; have := HJ25.out; have := HJ30.out; have := HJ35.out; omega
                                      case rel => exact ⟨(x0_30), (x1_1), (y223), (x8_30), (x9_1), (t222), (by first | rfl | (simp; done) | (simp [*]; done)), (by first | rfl | (simp; done) | (simp [*]; done)), (by first | rfl | (simp; done) | (simp [*]; done)), H', ⟨by have := HK1.out; have := HJ3.out; have := HJ9.out; have := HJ19.out; have := HJ25.out; have := HJ30.out; have := HJ35.out; omega⟩, ⟨by (with_reducible repeat (first | apply Kd.V_alloc | apply Kd.V_drewN | apply Kd.V_drew)); exact HO_0.out⟩, ⟨by (with_reducible repeat (first | apply Kd.V_alloc | apply Kd.V_drewN | apply Kd.V_drew)); exact HO_1.out⟩, ⟨by (with_reducible repeat (first | apply Kd.R_alloc | apply Kd.R_drewN | apply Kd.R_drew)); exact HO225.out⟩, ⟨bl_⟩⟩
                                    · rw [if_neg c53] at H
                                      exact absurd H (by simp)
                                  · rw [if_neg c52] at H
                                    have c52b0 : (t222 != x10_1) = false := by simpa using c52
                                    (try (have c52b1 : decide (t222 = x10_1) = true := by simpa using c52))
                                    (try (have c52b2 : (t222 == x10_1) = true := by simpa using c52))
                                    clear c52
                                    have H' := Aside0.mk H
                                    clear H
                                    go_wp2_with (first | (go_at_call 97; (with_reducible refine (shape_Set_Less_1.calls x8_30 x9_1 t222 _ ?side1 A51.out).mono ?_); (case side1 => exact gw_ HG.out); rintro e w' ⟨rfl, ⟨nd, rfl⟩⟩; (try first | exact ⟨rfl, _, World.drewN_drewN _ _ _⟩ | exact ⟨rfl, _, Eq.trans (World.drewN_drewN _ _ _) (congrArg (World.drewN _) (Nat.add_assoc _ _ _))⟩)))
                                    repeat (go_quiet (first | (go_at_call 97; (with_reducible refine (shape_Set_Less_1.calls x8_30 x9_1 t222 _ ?side1 A51.out).mono ?_); (case side1 => exact gw_ HG.out); rintro e w' ⟨rfl, ⟨nd, rfl⟩⟩; (try first | exact ⟨rfl, _, World.drewN_drewN _ _ _⟩ | exact ⟨rfl, _, Eq.trans (World.drewN_drewN _ _ _) (congrArg (World.drewN _) (Nat.add_assoc _ _ _))⟩))); try go_wp2_with (first | (go_at_call 97; (with_reducible refine (shape_Set_Less_1.calls x8_30 x9_1 t222 _ ?side1 A51.out).mono ?_); (case side1 => exact gw_ HG.out); rintro e w' ⟨rfl, ⟨nd, rfl⟩⟩; (try first | exact ⟨rfl, _, World.drewN_drewN _ _ _⟩ | exact ⟨rfl, _, Eq.trans (World.drewN_drewN _ _ _) (congrArg (World.drewN _) (Nat.add_assoc _ _ _))⟩))))
                                    go_roundg kj35
                                    case measure => have := HK1.out; have := HJ3.out; have := HJ9.out; have := HJ19.out; have := HJ25.out; have := HJ30.out; have := HJ35.out; omega
                                    case rel => exact ⟨(x0_30), (x1_1), (x7_1), (x8_30), (x9_1), (x10_1), (by first | rfl | (simp; done) | (simp [*]; done)), (by first | rfl | (simp; done) | (simp [*]; done)), (by first | rfl | (simp; done) | (simp [*]; done)), H', ⟨by have := HK1.out; have := HJ3.out; have := HJ9.out; have := HJ19.out; have := HJ25.out; have := HJ30.out; have := HJ35.out; omega⟩, ⟨by (with_reducible repeat (first | apply Kd.V_alloc | apply Kd.V_drewN | apply Kd.V_drew)); exact HO_0.out⟩, ⟨by (with_reducible repeat (first | apply Kd.V_alloc | apply Kd.V_drewN | apply Kd.V_drew)); exact HO_1.out⟩, ⟨by (with_reducible repeat (first | apply Kd.R_alloc | apply Kd.R_drewN | apply Kd.R_drew)); exact HO_7.out⟩, ⟨bl_⟩⟩
          · replace c9 := Bool.eq_false_iff.mpr c9
            subst c9
            rw [if_neg (show ¬ (false = true) by decide)] at H
            obtain rfl := Option.some.inj H
            go_wp2
            repeat (go_quiet (fail); try go_wp2)
            go_ret
            exact ⟨_, by first | rfl | (simp [errW_none, errW_some] <;> rfl) | (simp [*, errW_none, errW_some] <;> rfl), rr_ HO_7, bl_⟩
end Go.Proofs.YthkeonbmgcphkaaGreatDoor.PT
