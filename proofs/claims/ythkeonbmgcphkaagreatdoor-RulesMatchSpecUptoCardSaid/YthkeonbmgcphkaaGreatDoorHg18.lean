import Derived.Test.YthkeonbmgcphkaaGreatDoorHg6
import Derived.Test.YthkeonbmgcphkaaGreatDoorHg8
import Derived.Test.YthkeonbmgcphkaaGreatDoorHg3
namespace Go.Proofs.YthkeonbmgcphkaaGreatDoor.PM
open Go.RowKit Go.Proofs.YthkeonbmgcphkaaGreatDoorW.PrintWords Go.Proofs.YthkeonbmgcphkaaGreatDoorW.PrintLast Go.Proofs.YthkeonbmgcphkaaGreatDoorW.PrintMore
attribute [local go_sem] max2_int min2_int max_two min_two max_three min_three max_four min_four
set_option linter.unusedVariables false
set_option maxHeartbeats 8000000
set_option maxRecDepth 100000
set_option linter.unusedSimpArgs false
def dG.f (a0 : Int) (a1 : Int) (a2 : Int) : Option (Bool) := if a0 ≥ a1 then (some (decide (a0 ≤ a2))) else (some false)
theorem dG.calls (a0 : Int) (a1 : Int) (a2 : Int) (r : Bool) (w : World) (hG : Tryz.GW w) (h : dG.f a0 a1 a2 = some r) :
 Calls Tryz.prog 40 #[.int .i64 a0, .int .i64 a1, .int .i64 a2] w fun e w' => e = .returned (.bool r) ∧ Drawn0 w w' := by
 have HG := am_ hG
 clear hG
 have H : (if a0 ≥ a1 then (some (decide (a0 ≤ a2))) else (some false)) = some r := h
 clear h
 by_cases c4 : a0 ≥ a1
 · rw [if_pos c4] at H
   have c4b0 : decide (a1 ≤ a0) = true := decide_eq_true c4
   clear c4
   obtain rfl := sj_ H
   go_enter Tryz.func40, Tryz.ntmps40
   go_wp2
   go_ret
   exact ⟨ra_, dr_⟩
 rw [if_neg c4] at H
 have c4b0 : decide (a1 ≤ a0) = false := decide_eq_false c4
 clear c4
 obtain rfl := sj_ H
 go_enter Tryz.func40, Tryz.ntmps40
 go_wp2
 go_ret
 exact ⟨ra_, dr_⟩
def aZ.f (a0 : Int) : Option (Bool) := (dG.f a0 0 100000).bind fun t196 => (some t196)
theorem aZ.calls (a0 : Int) (r : Bool) (w : World) (hG : Tryz.GW w) (h : aZ.f a0 = some r) :
 Calls Tryz.prog 38 #[.int .i64 a0] w fun e w' => e = .returned (.bool r) ∧ Drawn0 w w' := by
 have HG := am_ hG
 clear hG
 have H : ((dG.f a0 0 100000).bind fun t196 => (some t196)) = some r := h
 clear h
 obtain ⟨t196, A2, H⟩ := bs_ H
 obtain rfl := sj_ H
 go_enter Tryz.func38, Tryz.ntmps38
 go_wp2_with (first | ((with_reducible refine gf_ 40 rfl ?_); refine gl_ (some 4) Tryz.func40 #[.int .i64 a0, .int .i64 0, .int .i64 100000] ?_; refine (dG.calls a0 0 100000 t196 _ gd_ A2.out).mono ?_; rintro e w' ⟨rfl, ⟨nd, rfl⟩⟩; refine ⟨_, rfl, ?_⟩))
 go_ret
 exact ⟨ra_, dr_⟩
def eQ.f (a0 : Int) (a1 : Int) (a2 : Int) : Option (Bool) := if a0 ≥ a1 then (some (decide (a0 ≤ a2))) else (some false)
theorem eQ.calls (a0 : Int) (a1 : Int) (a2 : Int) (r : Bool) (w : World) (hG : Tryz.GW w) (h : eQ.f a0 a1 a2 = some r) :
 Calls Tryz.prog 115 #[.int .i64 a0, .int .i64 a1, .int .i64 a2] w fun e w' => e = .returned (.bool r) ∧ Drawn0 w w' := by
 have HG := am_ hG
 clear hG
 have H : (if a0 ≥ a1 then (some (decide (a0 ≤ a2))) else (some false)) = some r := h
 clear h
 by_cases c4 : a0 ≥ a1
 · rw [if_pos c4] at H
   have c4b0 : decide (a1 ≤ a0) = true := decide_eq_true c4
   clear c4
   obtain rfl := sj_ H
   go_enter Tryz.func115, Tryz.ntmps115
   go_wp2
   go_ret
   exact ⟨ra_, dr_⟩
 rw [if_neg c4] at H
 have c4b0 : decide (a1 ≤ a0) = false := decide_eq_false c4
 clear c4
 obtain rfl := sj_ H
 go_enter Tryz.func115, Tryz.ntmps115
 go_wp2
 go_ret
 exact ⟨ra_, dr_⟩
def aY.l0 : Nat → ByteArray → Int → Option (Bool)
 | 0, _, _ => none
 | k + 1, x0, x3 => if x3 < (x0.size : Int) then (if 0 ≤ x3 then (if (bt x0 x3) ≥ 97 then (if (bt x0 x3) ≤ 122 then (aY.l0 k x0 (wrap64 (x3 + 1))) else (if (bt x0 x3) ≥ 65 then (if (bt x0 x3) ≤ 90 then (aY.l0 k x0 (wrap64 (x3 + 1))) else (if (bt x0 x3) ≥ 48 then (if ((bt x0 x3) ≤ 57) then (aY.l0 k x0 (wrap64 (x3 + 1))) else ((strings_IndexByte.f (⟨#[95, 43, 45, 35]⟩ : ByteArray) (bt x0 x3)).bind fun t197 => (if t197 < 0 then (some false) else (aY.l0 k x0 (wrap64 (x3 + 1)))))) else ((strings_IndexByte.f (⟨#[95, 43, 45, 35]⟩ : ByteArray) (bt x0 x3)).bind fun t198 => (if t198 < 0 then (some false) else (aY.l0 k x0 (wrap64 (x3 + 1))))))) else (if (bt x0 x3) ≥ 48 then (if ((bt x0 x3) ≤ 57) then (aY.l0 k x0 (wrap64 (x3 + 1))) else ((strings_IndexByte.f (⟨#[95, 43, 45, 35]⟩ : ByteArray) (bt x0 x3)).bind fun t199 => (if t199 < 0 then (some false) else (aY.l0 k x0 (wrap64 (x3 + 1)))))) else ((strings_IndexByte.f (⟨#[95, 43, 45, 35]⟩ : ByteArray) (bt x0 x3)).bind fun t200 => (if t200 < 0 then (some false) else (aY.l0 k x0 (wrap64 (x3 + 1)))))))) else (if (bt x0 x3) ≥ 65 then (if (bt x0 x3) ≤ 90 then (aY.l0 k x0 (wrap64 (x3 + 1))) else (if (bt x0 x3) ≥ 48 then (if ((bt x0 x3) ≤ 57) then (aY.l0 k x0 (wrap64 (x3 + 1))) else ((strings_IndexByte.f (⟨#[95, 43, 45, 35]⟩ : ByteArray) (bt x0 x3)).bind fun t201 => (if t201 < 0 then (some false) else (aY.l0 k x0 (wrap64 (x3 + 1)))))) else ((strings_IndexByte.f (⟨#[95, 43, 45, 35]⟩ : ByteArray) (bt x0 x3)).bind fun t202 => (if t202 < 0 then (some false) else (aY.l0 k x0 (wrap64 (x3 + 1))))))) else (if (bt x0 x3) ≥ 48 then (if ((bt x0 x3) ≤ 57) then (aY.l0 k x0 (wrap64 (x3 + 1))) else ((strings_IndexByte.f (⟨#[95, 43, 45, 35]⟩ : ByteArray) (bt x0 x3)).bind fun t203 => (if t203 < 0 then (some false) else (aY.l0 k x0 (wrap64 (x3 + 1)))))) else ((strings_IndexByte.f (⟨#[95, 43, 45, 35]⟩ : ByteArray) (bt x0 x3)).bind fun t204 => (if t204 < 0 then (some false) else (aY.l0 k x0 (wrap64 (x3 + 1)))))))) else (none)) else ((eQ.f (x0.size : Int) 1 40).bind fun t205 => (some t205))
def aY.f (k : Nat) (a0 : ByteArray) : Option (Bool) := aY.l0 k a0 0
theorem aY.calls (k : Nat) (a0 : ByteArray) (r : Bool) (w : World) (hG : Tryz.GW w) (h : aY.f k a0 = some r) :
 Calls Tryz.prog 70 #[.string a0] w fun e w' => e = .returned (.bool r) ∧ Drawn0 w w' := by
 have HG := am_ hG
 clear hG
 have H : (aY.l0 k a0 0) = some r := h
 clear h
 replace H := am_ H
 go_enter Tryz.func70, Tryz.ntmps70
 go_wp2
 go_loopg [3] k (fun kq v3 w' => ∃ (x3_1 : Int), v3 = .int .i64 x3_1 ∧ Aside0 (aY.l0 kq a0 x3_1 = some r) ∧ Aside0 (kq ≤ k) ∧ Drawn0 w w')
 case atStart => exact ⟨(0), ra_, H, ⟨Nat.le_refl _⟩, dr_⟩
 case round =>
  clear H
  obtain ⟨x3_1, rfl, HA, HK1, ⟨m1, rfl⟩⟩ := hrel
  cases gk with
  | zero => exact absurd HA.out (by simp [aY.l0])
  | succ k1 =>
   have H := HA.out
   clear HA
   simp only [aY.l0] at H
   by_cases c2 : x3_1 < (a0.size : Int)
   rotate_left
   · rw [if_neg c2] at H
     have c2b0 := decide_eq_false c2
     clear c2
     obtain ⟨t205, A35, H⟩ := bs_ H
     obtain rfl := sj_ H
     go_wp2_with (first | ((with_reducible refine gf_ 115 rfl ?_); refine gl_ (some 44) Tryz.func115 #[.int .i64 (a0.size : Int), .int .i64 1, .int .i64 40] ?_; refine (eQ.calls (a0.size : Int) 1 40 t205 _ gd_ A35.out).mono ?_; rintro e w' ⟨rfl, ⟨nd, rfl⟩⟩; refine ⟨_, rfl, ?_⟩))
     go_ret
     exact ⟨ra_, dr_⟩
   rw [if_pos c2] at H
   have c2b0 := decide_eq_true c2
   clear c2
   obtain ⟨c3b0, H⟩ := ifd_ H
   by_cases c5 : (bt a0 x3_1) ≥ 97
   rotate_left
   · rw [if_neg c5] at H
     have c5b0 : decide (97 ≤ (bt a0 x3_1)) = false := decide_eq_false c5
     clear c5
     by_cases c21 : (bt a0 x3_1) ≥ 65
     rotate_left
     · rw [if_neg c21] at H
       have c21b0 : decide (65 ≤ (bt a0 x3_1)) = false := decide_eq_false c21
       clear c21
       by_cases c29 : (bt a0 x3_1) ≥ 48
       rotate_left
       · rw [if_neg c29] at H
         have c29b0 : decide (48 ≤ (bt a0 x3_1)) = false := decide_eq_false c29
         clear c29
         obtain ⟨t204, A33, H⟩ := bs_ H
         by_cases c34 : t204 < 0
         · rw [if_pos c34] at H
           have c34b0 := decide_eq_true c34
           clear c34
           obtain rfl := sj_ H
           have p4 := pt_ x3_1
           have q4 := qt_ x3_1 a0.size
           have hx4 := bt_at a0 x3_1
           go_wp2_with (first | (go_at_call 112; refine (strings_IndexByte.calls (⟨#[95, 43, 45, 35]⟩ : ByteArray) (bt a0 x3_1) t204 _ gd_ A33.out).mono ?_; rintro e w' ⟨rfl, ⟨nd, rfl⟩⟩))
           go_ret
           exact ⟨ra_, dr_⟩
         rw [if_neg c34] at H
         have c34b0 := decide_eq_false c34
         clear c34
         replace H := am_ H
         have p4 := pt_ x3_1
         have q4 := qt_ x3_1 a0.size
         have hx4 := bt_at a0 x3_1
         go_wp2_with (first | (go_at_call 112; refine (strings_IndexByte.calls (⟨#[95, 43, 45, 35]⟩ : ByteArray) (bt a0 x3_1) t204 _ gd_ A33.out).mono ?_; rintro e w' ⟨rfl, ⟨nd, rfl⟩⟩))
         go_roundg k1
         case measure => have := HK1.out; omega
         case rel => exact ⟨(wrap64 (x3_1 + 1)), ra_, H, ⟨by have := HK1.out; omega⟩, dr_⟩
       rw [if_pos c29] at H
       have c29b0 : decide (48 ≤ (bt a0 x3_1)) = true := decide_eq_true c29
       clear c29
       by_cases c30 : ((bt a0 x3_1) ≤ 57)
       · rw [if_pos c30] at H
         have c30b0 : decide ((bt a0 x3_1) ≤ 57) = true := decide_eq_true c30
         clear c30
         replace H := am_ H
         have p4 := pt_ x3_1
         have q4 := qt_ x3_1 a0.size
         have hx4 := bt_at a0 x3_1
         go_wp2
         go_roundg k1
         case measure => have := HK1.out; omega
         case rel => exact ⟨(wrap64 (x3_1 + 1)), ra_, H, ⟨by have := HK1.out; omega⟩, dr_⟩
       rw [if_neg c30] at H
       have c30b0 : decide ((bt a0 x3_1) ≤ 57) = false := decide_eq_false c30
       clear c30
       obtain ⟨t203, A31, H⟩ := bs_ H
       by_cases c32 : t203 < 0
       · rw [if_pos c32] at H
         have c32b0 := decide_eq_true c32
         clear c32
         obtain rfl := sj_ H
         have p4 := pt_ x3_1
         have q4 := qt_ x3_1 a0.size
         have hx4 := bt_at a0 x3_1
         go_wp2_with (first | (go_at_call 112; refine (strings_IndexByte.calls (⟨#[95, 43, 45, 35]⟩ : ByteArray) (bt a0 x3_1) t203 _ gd_ A31.out).mono ?_; rintro e w' ⟨rfl, ⟨nd, rfl⟩⟩))
         go_ret
         exact ⟨ra_, dr_⟩
       rw [if_neg c32] at H
       have c32b0 := decide_eq_false c32
       clear c32
       replace H := am_ H
       have p4 := pt_ x3_1
       have q4 := qt_ x3_1 a0.size
       have hx4 := bt_at a0 x3_1
       go_wp2_with (first | (go_at_call 112; refine (strings_IndexByte.calls (⟨#[95, 43, 45, 35]⟩ : ByteArray) (bt a0 x3_1) t203 _ gd_ A31.out).mono ?_; rintro e w' ⟨rfl, ⟨nd, rfl⟩⟩))
       go_roundg k1
       case measure => have := HK1.out; omega
       case rel => exact ⟨(wrap64 (x3_1 + 1)), ra_, H, ⟨by have := HK1.out; omega⟩, dr_⟩
     rw [if_pos c21] at H
     have c21b0 : decide (65 ≤ (bt a0 x3_1)) = true := decide_eq_true c21
     clear c21
     by_cases c22 : (bt a0 x3_1) ≤ 90
     · rw [if_pos c22] at H
       have c22b0 := decide_eq_true c22
       clear c22
       replace H := am_ H
       have p4 := pt_ x3_1
       have q4 := qt_ x3_1 a0.size
       have hx4 := bt_at a0 x3_1
       go_wp2
       go_roundg k1
       case measure => have := HK1.out; omega
       case rel => exact ⟨(wrap64 (x3_1 + 1)), ra_, H, ⟨by have := HK1.out; omega⟩, dr_⟩
     rw [if_neg c22] at H
     have c22b0 := decide_eq_false c22
     clear c22
     by_cases c23 : (bt a0 x3_1) ≥ 48
     rotate_left
     · rw [if_neg c23] at H
       have c23b0 : decide (48 ≤ (bt a0 x3_1)) = false := decide_eq_false c23
       clear c23
       obtain ⟨t202, A27, H⟩ := bs_ H
       by_cases c28 : t202 < 0
       · rw [if_pos c28] at H
         have c28b0 := decide_eq_true c28
         clear c28
         obtain rfl := sj_ H
         have p4 := pt_ x3_1
         have q4 := qt_ x3_1 a0.size
         have hx4 := bt_at a0 x3_1
         go_wp2_with (first | (go_at_call 112; refine (strings_IndexByte.calls (⟨#[95, 43, 45, 35]⟩ : ByteArray) (bt a0 x3_1) t202 _ gd_ A27.out).mono ?_; rintro e w' ⟨rfl, ⟨nd, rfl⟩⟩))
         go_ret
         exact ⟨ra_, dr_⟩
       rw [if_neg c28] at H
       have c28b0 := decide_eq_false c28
       clear c28
       replace H := am_ H
       have p4 := pt_ x3_1
       have q4 := qt_ x3_1 a0.size
       have hx4 := bt_at a0 x3_1
       go_wp2_with (first | (go_at_call 112; refine (strings_IndexByte.calls (⟨#[95, 43, 45, 35]⟩ : ByteArray) (bt a0 x3_1) t202 _ gd_ A27.out).mono ?_; rintro e w' ⟨rfl, ⟨nd, rfl⟩⟩))
       go_roundg k1
       case measure => have := HK1.out; omega
       case rel => exact ⟨(wrap64 (x3_1 + 1)), ra_, H, ⟨by have := HK1.out; omega⟩, dr_⟩
     rw [if_pos c23] at H
     have c23b0 : decide (48 ≤ (bt a0 x3_1)) = true := decide_eq_true c23
     clear c23
     by_cases c24 : ((bt a0 x3_1) ≤ 57)
     · rw [if_pos c24] at H
       have c24b0 : decide ((bt a0 x3_1) ≤ 57) = true := decide_eq_true c24
       clear c24
       replace H := am_ H
       have p4 := pt_ x3_1
       have q4 := qt_ x3_1 a0.size
       have hx4 := bt_at a0 x3_1
       go_wp2
       go_roundg k1
       case measure => have := HK1.out; omega
       case rel => exact ⟨(wrap64 (x3_1 + 1)), ra_, H, ⟨by have := HK1.out; omega⟩, dr_⟩
     rw [if_neg c24] at H
     have c24b0 : decide ((bt a0 x3_1) ≤ 57) = false := decide_eq_false c24
     clear c24
     obtain ⟨t201, A25, H⟩ := bs_ H
     by_cases c26 : t201 < 0
     · rw [if_pos c26] at H
       have c26b0 := decide_eq_true c26
       clear c26
       obtain rfl := sj_ H
       have p4 := pt_ x3_1
       have q4 := qt_ x3_1 a0.size
       have hx4 := bt_at a0 x3_1
       go_wp2_with (first | (go_at_call 112; refine (strings_IndexByte.calls (⟨#[95, 43, 45, 35]⟩ : ByteArray) (bt a0 x3_1) t201 _ gd_ A25.out).mono ?_; rintro e w' ⟨rfl, ⟨nd, rfl⟩⟩))
       go_ret
       exact ⟨ra_, dr_⟩
     rw [if_neg c26] at H
     have c26b0 := decide_eq_false c26
     clear c26
     replace H := am_ H
     have p4 := pt_ x3_1
     have q4 := qt_ x3_1 a0.size
     have hx4 := bt_at a0 x3_1
     go_wp2_with (first | (go_at_call 112; refine (strings_IndexByte.calls (⟨#[95, 43, 45, 35]⟩ : ByteArray) (bt a0 x3_1) t201 _ gd_ A25.out).mono ?_; rintro e w' ⟨rfl, ⟨nd, rfl⟩⟩))
     go_roundg k1
     case measure => have := HK1.out; omega
     case rel => exact ⟨(wrap64 (x3_1 + 1)), ra_, H, ⟨by have := HK1.out; omega⟩, dr_⟩
   rw [if_pos c5] at H
   have c5b0 : decide (97 ≤ (bt a0 x3_1)) = true := decide_eq_true c5
   clear c5
   by_cases c6 : (bt a0 x3_1) ≤ 122
   · rw [if_pos c6] at H
     have c6b0 := decide_eq_true c6
     clear c6
     replace H := am_ H
     have p4 := pt_ x3_1
     have q4 := qt_ x3_1 a0.size
     have hx4 := bt_at a0 x3_1
     go_wp2
     go_roundg k1
     case measure => have := HK1.out; omega
     case rel => exact ⟨(wrap64 (x3_1 + 1)), ra_, H, ⟨by have := HK1.out; omega⟩, dr_⟩
   rw [if_neg c6] at H
   have c6b0 := decide_eq_false c6
   clear c6
   by_cases c7 : (bt a0 x3_1) ≥ 65
   rotate_left
   · rw [if_neg c7] at H
     have c7b0 : decide (65 ≤ (bt a0 x3_1)) = false := decide_eq_false c7
     clear c7
     by_cases c15 : (bt a0 x3_1) ≥ 48
     rotate_left
     · rw [if_neg c15] at H
       have c15b0 : decide (48 ≤ (bt a0 x3_1)) = false := decide_eq_false c15
       clear c15
       obtain ⟨t200, A19, H⟩ := bs_ H
       by_cases c20 : t200 < 0
       · rw [if_pos c20] at H
         have c20b0 := decide_eq_true c20
         clear c20
         obtain rfl := sj_ H
         have p4 := pt_ x3_1
         have q4 := qt_ x3_1 a0.size
         have hx4 := bt_at a0 x3_1
         go_wp2_with (first | (go_at_call 112; refine (strings_IndexByte.calls (⟨#[95, 43, 45, 35]⟩ : ByteArray) (bt a0 x3_1) t200 _ gd_ A19.out).mono ?_; rintro e w' ⟨rfl, ⟨nd, rfl⟩⟩))
         go_ret
         exact ⟨ra_, dr_⟩
       rw [if_neg c20] at H
       have c20b0 := decide_eq_false c20
       clear c20
       replace H := am_ H
       have p4 := pt_ x3_1
       have q4 := qt_ x3_1 a0.size
       have hx4 := bt_at a0 x3_1
       go_wp2_with (first | (go_at_call 112; refine (strings_IndexByte.calls (⟨#[95, 43, 45, 35]⟩ : ByteArray) (bt a0 x3_1) t200 _ gd_ A19.out).mono ?_; rintro e w' ⟨rfl, ⟨nd, rfl⟩⟩))
       go_roundg k1
       case measure => have := HK1.out; omega
       case rel => exact ⟨(wrap64 (x3_1 + 1)), ra_, H, ⟨by have := HK1.out; omega⟩, dr_⟩
     rw [if_pos c15] at H
     have c15b0 : decide (48 ≤ (bt a0 x3_1)) = true := decide_eq_true c15
     clear c15
     by_cases c16 : ((bt a0 x3_1) ≤ 57)
     · rw [if_pos c16] at H
       have c16b0 : decide ((bt a0 x3_1) ≤ 57) = true := decide_eq_true c16
       clear c16
       replace H := am_ H
       have p4 := pt_ x3_1
       have q4 := qt_ x3_1 a0.size
       have hx4 := bt_at a0 x3_1
       go_wp2
       go_roundg k1
       case measure => have := HK1.out; omega
       case rel => exact ⟨(wrap64 (x3_1 + 1)), ra_, H, ⟨by have := HK1.out; omega⟩, dr_⟩
     rw [if_neg c16] at H
     have c16b0 : decide ((bt a0 x3_1) ≤ 57) = false := decide_eq_false c16
     clear c16
     obtain ⟨t199, A17, H⟩ := bs_ H
     by_cases c18 : t199 < 0
     · rw [if_pos c18] at H
       have c18b0 := decide_eq_true c18
       clear c18
       obtain rfl := sj_ H
       have p4 := pt_ x3_1
       have q4 := qt_ x3_1 a0.size
       have hx4 := bt_at a0 x3_1
       go_wp2_with (first | (go_at_call 112; refine (strings_IndexByte.calls (⟨#[95, 43, 45, 35]⟩ : ByteArray) (bt a0 x3_1) t199 _ gd_ A17.out).mono ?_; rintro e w' ⟨rfl, ⟨nd, rfl⟩⟩))
       go_ret
       exact ⟨ra_, dr_⟩
     rw [if_neg c18] at H
     have c18b0 := decide_eq_false c18
     clear c18
     replace H := am_ H
     have p4 := pt_ x3_1
     have q4 := qt_ x3_1 a0.size
     have hx4 := bt_at a0 x3_1
     go_wp2_with (first | (go_at_call 112; refine (strings_IndexByte.calls (⟨#[95, 43, 45, 35]⟩ : ByteArray) (bt a0 x3_1) t199 _ gd_ A17.out).mono ?_; rintro e w' ⟨rfl, ⟨nd, rfl⟩⟩))
     go_roundg k1
     case measure => have := HK1.out; omega
     case rel => exact ⟨(wrap64 (x3_1 + 1)), ra_, H, ⟨by have := HK1.out; omega⟩, dr_⟩
   rw [if_pos c7] at H
   have c7b0 : decide (65 ≤ (bt a0 x3_1)) = true := decide_eq_true c7
   clear c7
   by_cases c8 : (bt a0 x3_1) ≤ 90
   · rw [if_pos c8] at H
     have c8b0 := decide_eq_true c8
     clear c8
     replace H := am_ H
     have p4 := pt_ x3_1
     have q4 := qt_ x3_1 a0.size
     have hx4 := bt_at a0 x3_1
     go_wp2
     go_roundg k1
     case measure => have := HK1.out; omega
     case rel => exact ⟨(wrap64 (x3_1 + 1)), ra_, H, ⟨by have := HK1.out; omega⟩, dr_⟩
   rw [if_neg c8] at H
   have c8b0 := decide_eq_false c8
   clear c8
   by_cases c9 : (bt a0 x3_1) ≥ 48
   rotate_left
   · rw [if_neg c9] at H
     have c9b0 : decide (48 ≤ (bt a0 x3_1)) = false := decide_eq_false c9
     clear c9
     obtain ⟨t198, A13, H⟩ := bs_ H
     by_cases c14 : t198 < 0
     · rw [if_pos c14] at H
       have c14b0 := decide_eq_true c14
       clear c14
       obtain rfl := sj_ H
       have p4 := pt_ x3_1
       have q4 := qt_ x3_1 a0.size
       have hx4 := bt_at a0 x3_1
       go_wp2_with (first | (go_at_call 112; refine (strings_IndexByte.calls (⟨#[95, 43, 45, 35]⟩ : ByteArray) (bt a0 x3_1) t198 _ gd_ A13.out).mono ?_; rintro e w' ⟨rfl, ⟨nd, rfl⟩⟩))
       go_ret
       exact ⟨ra_, dr_⟩
     rw [if_neg c14] at H
     have c14b0 := decide_eq_false c14
     clear c14
     replace H := am_ H
     have p4 := pt_ x3_1
     have q4 := qt_ x3_1 a0.size
     have hx4 := bt_at a0 x3_1
     go_wp2_with (first | (go_at_call 112; refine (strings_IndexByte.calls (⟨#[95, 43, 45, 35]⟩ : ByteArray) (bt a0 x3_1) t198 _ gd_ A13.out).mono ?_; rintro e w' ⟨rfl, ⟨nd, rfl⟩⟩))
     go_roundg k1
     case measure => have := HK1.out; omega
     case rel => exact ⟨(wrap64 (x3_1 + 1)), ra_, H, ⟨by have := HK1.out; omega⟩, dr_⟩
   rw [if_pos c9] at H
   have c9b0 : decide (48 ≤ (bt a0 x3_1)) = true := decide_eq_true c9
   clear c9
   by_cases c10 : ((bt a0 x3_1) ≤ 57)
   · rw [if_pos c10] at H
     have c10b0 : decide ((bt a0 x3_1) ≤ 57) = true := decide_eq_true c10
     clear c10
     replace H := am_ H
     have p4 := pt_ x3_1
     have q4 := qt_ x3_1 a0.size
     have hx4 := bt_at a0 x3_1
     go_wp2
     go_roundg k1
     case measure => have := HK1.out; omega
     case rel => exact ⟨(wrap64 (x3_1 + 1)), ra_, H, ⟨by have := HK1.out; omega⟩, dr_⟩
   rw [if_neg c10] at H
   have c10b0 : decide ((bt a0 x3_1) ≤ 57) = false := decide_eq_false c10
   clear c10
   obtain ⟨t197, A11, H⟩ := bs_ H
   by_cases c12 : t197 < 0
   · rw [if_pos c12] at H
     have c12b0 := decide_eq_true c12
     clear c12
     obtain rfl := sj_ H
     have p4 := pt_ x3_1
     have q4 := qt_ x3_1 a0.size
     have hx4 := bt_at a0 x3_1
     go_wp2_with (first | (go_at_call 112; refine (strings_IndexByte.calls (⟨#[95, 43, 45, 35]⟩ : ByteArray) (bt a0 x3_1) t197 _ gd_ A11.out).mono ?_; rintro e w' ⟨rfl, ⟨nd, rfl⟩⟩))
     go_ret
     exact ⟨ra_, dr_⟩
   rw [if_neg c12] at H
   have c12b0 := decide_eq_false c12
   clear c12
   replace H := am_ H
   have p4 := pt_ x3_1
   have q4 := qt_ x3_1 a0.size
   have hx4 := bt_at a0 x3_1
   go_wp2_with (first | (go_at_call 112; refine (strings_IndexByte.calls (⟨#[95, 43, 45, 35]⟩ : ByteArray) (bt a0 x3_1) t197 _ gd_ A11.out).mono ?_; rintro e w' ⟨rfl, ⟨nd, rfl⟩⟩))
   go_roundg k1
   case measure => have := HK1.out; omega
   case rel => exact ⟨(wrap64 (x3_1 + 1)), ra_, H, ⟨by have := HK1.out; omega⟩, dr_⟩
def cZ.l0 : Nat → ByteArray → List ByteArray → Int → Option (Bool)
 | 0, _, _, _ => none
 | k + 1, x0, x3, x4 => if x4 < (x3.length : Int) then (if 0 ≤ x4 then ((aY.f k (rdOf ByteArray.empty x3 x4)).bind fun t210 => (if t210 = true then (cZ.l0 k x0 x3 (wrap64 (x4 + 1))) else (some false))) else (none)) else (some (decide ((x0.size : Int) ≤ 200)))
def cZ.f (k : Nat) (a0 : ByteArray) : Option (Bool) := (strings_Split.f a0 (⟨#[47]⟩ : ByteArray)).bind fun t206 => (cZ.l0 k a0 t206 0)
theorem cZ.calls (k : Nat) (a0 : ByteArray) (r : Bool) (w : World) (hG : Tryz.GW w) (h : cZ.f k a0 = some r) :
 Calls Tryz.prog 71 #[.string a0] w fun e w' => e = .returned (.bool r) ∧ Below w.heap.size w w' := by
 have HG := am_ hG
 clear hG
 have HB := am_ (Below.refl w.heap.size w)
 have H : ((strings_Split.f a0 (⟨#[47]⟩ : ByteArray)).bind fun t206 => (cZ.l0 k a0 t206 0)) = some r := h
 clear h
 obtain ⟨t206, A2, H⟩ := bs_ H
 replace H := am_ H
 go_enter Tryz.func71, Tryz.ntmps71
 go_wp2_with (first | ((with_reducible refine gf_ 101 rfl ?_); refine gl_ (some 6) Tryz.func101 #[.string a0, .string (⟨#[47]⟩ : ByteArray)] ?_; refine (strings_Split.calls a0 (⟨#[47]⟩ : ByteArray) t206 _ (gw_ HG.out) A2.out).mono ?_; rintro e w3 ⟨v207, rfl, ho0, hb⟩; refine ⟨_, rfl, ?_⟩; have HO208 := am_ (Kd.R_lower ho0 (below_size bl_)); replace HB := bp_ hb; (try clear hb); (try clear ho0)))
 go_loopg [4] k (fun kq v4 w' => ∃ (x4_1 : Int), v4 = .int .i64 x4_1 ∧ Aside0 (cZ.l0 kq a0 t206 x4_1 = some r) ∧ Aside0 (kq ≤ k) ∧ Aside0 (Kd.R Kd.string 9 w' w.heap.size (fun _ => True) v207 t206) ∧ Aside0 (Below w.heap.size w w'))
 case atStart => exact ⟨(0), ra_, H, ⟨Nat.le_refl _⟩, ⟨rr_ HO208⟩, ⟨bl_⟩⟩
 case round =>
  clear H
  try clear c1
  try clear p2
  obtain ⟨x4_1, rfl, HA, HK1, HO_3, HB⟩ := hrel
  cases gk with
  | zero => exact absurd HA.out (by simp [cZ.l0])
  | succ k1 =>
   have H := HA.out
   clear HA
   simp only [cZ.l0] at H
   by_cases c4 : x4_1 < (t206.length : Int)
   rotate_left
   · rw [if_neg c4] at H
     have c4b0 := decide_eq_false c4
     clear c4
     obtain rfl := sj_ H
     obtain ⟨Ao10, co10, eo10⟩ := Kd.R_slice HO_3.out
     subst eo10
     go_wp2
     go_ret
     exact ⟨er_, bl_⟩
   rw [if_pos c4] at H
   have c4b0 := decide_eq_true c4
   clear c4
   obtain ⟨c5b0, H⟩ := ifd_ H
   obtain ⟨t210, A6, H⟩ := bs_ H
   by_cases c7 : t210 = true
   · subst c7
     rw [if_pos rfl] at H
     replace H := am_ H
     obtain ⟨Ao8, co8, eo8⟩ := Kd.R_slice HO_3.out
     subst eo8
     have p209 := pt_ x4_1
     have q209 := qt_ x4_1 t206.length
     obtain ⟨ad209, e209, hx209_0⟩ := Kd.at_string (Kd.R_reads' HO_3.out).2.2 x4_1 (oe_ p209) (oe_ q209)
     cases e209
     go_wp2_with (first | ((with_reducible refine gf_ 70 rfl ?_); refine gl_ (some 17) Tryz.func70 #[.string (rdOf ByteArray.empty t206 x4_1)] ?_; refine (aY.calls k1 (rdOf ByteArray.empty t206 x4_1) true _ (gw_ HG.out) A6.out).mono ?_; rintro e w' ⟨rfl, ⟨nd, rfl⟩⟩; refine ⟨_, rfl, ?_⟩))
     go_roundg k1
     case measure => have := HK1.out; omega
     case rel => exact ⟨(wrap64 (x4_1 + 1)), ra_, H, ⟨by have := HK1.out; omega⟩, ⟨rr_ HO_3⟩, ⟨bl_⟩⟩
   obtain rfl := bf_ c7
   clear c7
   rw [if_neg ft_] at H
   obtain rfl := sj_ H
   obtain ⟨Ao9, co9, eo9⟩ := Kd.R_slice HO_3.out
   subst eo9
   have p209 := pt_ x4_1
   have q209 := qt_ x4_1 t206.length
   obtain ⟨ad209, e209, hx209_0⟩ := Kd.at_string (Kd.R_reads' HO_3.out).2.2 x4_1 (oe_ p209) (oe_ q209)
   cases e209
   go_wp2_with (first | ((with_reducible refine gf_ 70 rfl ?_); refine gl_ (some 17) Tryz.func70 #[.string (rdOf ByteArray.empty t206 x4_1)] ?_; refine (aY.calls k1 (rdOf ByteArray.empty t206 x4_1) false _ (gw_ HG.out) A6.out).mono ?_; rintro e w' ⟨rfl, ⟨nd, rfl⟩⟩; refine ⟨_, rfl, ?_⟩))
   go_ret
   exact ⟨er_, bl_⟩
def dD.l0 : Nat → List ByteArray → ByteArray → Int → Option (Bool)
 | 0, _, _, _ => none
 | k + 1, x0, x1, x5 => if x5 < (x0.length : Int) then (if 0 ≤ x5 then (if (rdOf ByteArray.empty x0 x5).toList = x1.toList then (some true) else (dD.l0 k x0 x1 (wrap64 (x5 + 1)))) else (none)) else (some false)
def dD.f (k : Nat) (l0 : List ByteArray) (a1 : ByteArray) : Option (Bool) := dD.l0 k l0 a1 0
theorem dD.calls (k : Nat) (A0 : Option Addr) (c0 : Nat) (l0 : List ByteArray) (a1 : ByteArray) (r : Bool) (w : World) (hG : Tryz.GW w) (hr0 : Kd.C Kd.string w A0 l0.length l0) (hc0 : l0.length ≤ c0) (h : dD.f k l0 a1 = some r) :
 Calls Tryz.prog 72 #[.slice A0 l0.length c0, .string a1] w fun e w' => e = .returned (.bool r) ∧ Drawn0 w w' := by
 have HR0 := am_ hr0
 have HC0 := am_ hc0
 clear hr0 hc0
 have HG := am_ hG
 clear hG
 have H : (dD.l0 k l0 a1 0) = some r := h
 clear h
 replace H := am_ H
 go_enter Tryz.func72, Tryz.ntmps72
 go_wp2
 go_loopg [5] k (fun kq v5 w' => ∃ (x5_1 : Int), v5 = .int .i64 x5_1 ∧ Aside0 (dD.l0 kq l0 a1 x5_1 = some r) ∧ Aside0 (kq ≤ k) ∧ Drawn0 w w')
 case atStart => exact ⟨(0), ra_, H, ⟨Nat.le_refl _⟩, dr_⟩
 case round =>
  clear H
  try clear p2
  obtain ⟨x5_1, rfl, HA, HK1, ⟨m1, rfl⟩⟩ := hrel
  cases gk with
  | zero => exact absurd HA.out (by simp [dD.l0])
  | succ k1 =>
   have H := HA.out
   clear HA
   simp only [dD.l0] at H
   by_cases c3 : x5_1 < (l0.length : Int)
   rotate_left
   · rw [if_neg c3] at H
     have c3b0 := decide_eq_false c3
     clear c3
     obtain rfl := sj_ H
     go_wp2
     go_ret
     exact ⟨ra_, dr_⟩
   rw [if_pos c3] at H
   have c3b0 := decide_eq_true c3
   clear c3
   obtain ⟨c4b0, H⟩ := ifd_ H
   by_cases c5 : (rdOf ByteArray.empty l0 x5_1).toList = a1.toList
   · rw [if_pos c5] at H
     have c5b0 : ((rdOf ByteArray.empty l0 x5_1).toList == a1.toList) = true := beq_iff_eq.mpr c5
     have c5b1 : ((rdOf ByteArray.empty l0 x5_1).toList != a1.toList) = false := bne_eq_false_iff_eq.mpr c5
     clear c5
     obtain rfl := sj_ H
     have p211 := pt_ x5_1
     have q211 := qt_ x5_1 l0.length
     obtain ⟨ad211, e211, hx211_0⟩ := Kd.at_string HR0.out x5_1 (oe_ p211) (oe_ q211)
     cases e211
     go_wp2
     go_ret
     exact ⟨ra_, dr_⟩
   rw [if_neg c5] at H
   have c5b0 : ((rdOf ByteArray.empty l0 x5_1).toList == a1.toList) = false := beq_eq_false_iff_ne.mpr c5
   have c5b1 : ((rdOf ByteArray.empty l0 x5_1).toList != a1.toList) = true := bne_iff_ne.mpr c5
   replace H := am_ H
   have p211 := pt_ x5_1
   have q211 := qt_ x5_1 l0.length
   obtain ⟨ad211, e211, hx211_0⟩ := Kd.at_string HR0.out x5_1 (oe_ p211) (oe_ q211)
   cases e211
   go_wp2
   go_roundg k1
   case measure => have := HK1.out; omega
   case rel => exact ⟨(wrap64 (x5_1 + 1)), ra_, H, ⟨by have := HK1.out; omega⟩, dr_⟩
end Go.Proofs.YthkeonbmgcphkaaGreatDoor.PM
namespace Go.Proofs.YthkeonbmgcphkaaGreatDoor.Plain
open Go.RowKit Go.Proofs.YthkeonbmgcphkaaGreatDoor.PM Go.Proofs.YthkeonbmgcphkaaGreatDoorW.PrintWords Go.Proofs.YthkeonbmgcphkaaGreatDoorW.PrintLast Go.Proofs.YthkeonbmgcphkaaGreatDoor.Bytes
set_option linter.unusedVariables false
set_option linter.unusedSimpArgs false
theorem idx_some (c : Int) : strings_IndexByte.f (⟨#[95, 43, 45, 35]⟩ : ByteArray) c = some (Lib.indexByte [95, 43, 45, 35] c.toNat.toUInt8) := rfl
theorem isWord_l0 (s : ByteArray) (hs : s.size < 9223372036854775807) : ∀ (d i k : Nat), i + d = s.size → d < k →
    bW.l0 k s (s.size : Int) (i : Int) = some (allW (s.data.toList.drop i) && (decide (1 ≤ s.size) && decide (s.size ≤ 40))) := by
  intro d
  induction d with
  | zero =>
    intro i k hi hk
    obtain ⟨k, rfl⟩ : ∃ m, k = m + 1 := ⟨k - 1, by omega⟩
    simp only [bW.l0]
    rw [if_neg (show ¬ ((i : Int) < (s.size : Int)) by omega), allW_end s i (by omega)]
    by_cases h1 : (s.size : Int) ≥ 1
    · rw [if_pos h1]; have h2 : 1 ≤ s.size := by omega
      simp only [h2, decide_true, Bool.true_and]; congr 1; simp; omega
    · rw [if_neg h1]; simp only [Bool.true_and, Option.some.injEq, Bool.false_eq, Bool.and_eq_false_imp, decide_eq_true_eq]; omega
  | succ d ih =>
    intro i k hi hk
    obtain ⟨k, rfl⟩ : ∃ m, k = m + 1 := ⟨k - 1, by omega⟩
    have hlt : i < s.size := by omega
    have ih' := ih (i + 1) k (by omega) (by omega)
    rw [allW_step s i hlt]
    simp only [bW.l0, idx_some, Option.bind_some, wrapN (show i < 9223372036854775807 by omega), ih']
    rw [if_pos (show (i : Int) < (s.size : Int) by omega), if_pos (show (0 : Int) ≤ (i : Int) by omega)]
    generalize bt s (i : Int) = c
    unfold wordB
    generalize Lib.indexByte [95, 43, 45, 35] c.toNat.toUInt8 = j
    generalize allW (s.data.toList.drop (i + 1)) = t
    repeat' split
    all_goals simp_all
    all_goals omega
theorem isWord_f (s : ByteArray) (hs : s.size < 9223372036854775807) (k : Nat) (hk : s.size < k) : bW.f k s = some (jP s.data.toList) := by
  have h := isWord_l0 s hs s.size 0 k (by omega) hk
  rw [List.drop_zero, kF s] at h
  unfold bW.f jP
  rw [kF s]
  exact h
theorem isWord5_l0 (s : ByteArray) (hs : s.size < 9223372036854775807) : ∀ (d i k : Nat), i + d = s.size → d + 1 < k →
    aY.l0 k s (i : Int) = some (allW (s.data.toList.drop i) && (decide (1 ≤ s.size) && decide (s.size ≤ 40))) := by
  intro d
  induction d with
  | zero =>
    intro i k hi hk
    obtain ⟨k, rfl⟩ : ∃ m, k = m + 2 := ⟨k - 2, by omega⟩
    simp only [aY.l0, eQ.f]
    rw [if_neg (show ¬ ((i : Int) < (s.size : Int)) by omega), allW_end s i (by omega)]
    by_cases h1 : (s.size : Int) ≥ 1
    · rw [if_pos h1]; have h2 : 1 ≤ s.size := by omega
      simp only [h2, decide_true, Bool.true_and, Option.bind_some]; congr 1; simp; omega
    · rw [if_neg h1]; simp only [Bool.true_and, Option.bind_some, Option.some.injEq, Bool.false_eq, Bool.and_eq_false_imp, decide_eq_true_eq]; omega
  | succ d ih =>
    intro i k hi hk
    obtain ⟨k, rfl⟩ : ∃ m, k = m + 1 := ⟨k - 1, by omega⟩
    have hlt : i < s.size := by omega
    have ih' := ih (i + 1) k (by omega) (by omega)
    rw [allW_step s i hlt]
    simp only [aY.l0, idx_some, Option.bind_some, wrapN (show i < 9223372036854775807 by omega), ih']
    rw [if_pos (show (i : Int) < (s.size : Int) by omega), if_pos (show (0 : Int) ≤ (i : Int) by omega)]
    generalize bt s (i : Int) = c
    unfold wordB
    generalize Lib.indexByte [95, 43, 45, 35] c.toNat.toUInt8 = j
    generalize allW (s.data.toList.drop (i + 1)) = t
    repeat' split
    all_goals simp_all
    all_goals omega
theorem isWord5_f (s : ByteArray) (hs : s.size < 9223372036854775807) (k : Nat) (hk : s.size + 1 < k) : aY.f k s = some (jP s.data.toList) := by
  have h := isWord5_l0 s hs s.size 0 k (by omega) hk
  rw [List.drop_zero, kF s] at h
  unfold aY.f jP
  exact h
end Go.Proofs.YthkeonbmgcphkaaGreatDoor.Plain
