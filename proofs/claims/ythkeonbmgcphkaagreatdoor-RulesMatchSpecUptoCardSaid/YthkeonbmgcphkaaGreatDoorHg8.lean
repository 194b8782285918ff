import Derived.Test.YthkeonbmgcphkaaGreatDoorHg6
namespace Go.Proofs.YthkeonbmgcphkaaGreatDoor.PM
open Go.RowKit Go.Proofs.YthkeonbmgcphkaaGreatDoorW.PrintWords Go.Proofs.YthkeonbmgcphkaaGreatDoorW.PrintLast Go.Proofs.YthkeonbmgcphkaaGreatDoorW.PrintMore
attribute [local go_sem] max2_int min2_int max_two min_two max_three min_three max_four min_four
set_option linter.unusedVariables false
set_option maxHeartbeats 8000000
set_option maxRecDepth 100000
set_option linter.unusedSimpArgs false
def dQ.f (a0 : Int) (a1 : Int) (a2 : Int) : Option (Bool) := if a0 ≥ a1 then (some (decide (a0 ≤ a2))) else (some false)
theorem dQ.calls (a0 : Int) (a1 : Int) (a2 : Int) (r : Bool) (w : World) (hG : Tryz.GW w) (h : dQ.f a0 a1 a2 = some r) :
 Calls Tryz.prog 36 #[.int .i64 a0, .int .i64 a1, .int .i64 a2] w fun e w' => e = .returned (.bool r) ∧ Drawn0 w w' := by
 have HG := am_ hG
 clear hG
 have H : (if a0 ≥ a1 then (some (decide (a0 ≤ a2))) else (some false)) = some r := h
 clear h
 by_cases c4 : a0 ≥ a1
 · rw [if_pos c4] at H
   have c4b0 : decide (a1 ≤ a0) = true := decide_eq_true c4
   clear c4
   obtain rfl := sj_ H
   go_enter Tryz.func36, Tryz.ntmps36
   go_wp2
   go_ret
   exact ⟨ra_, dr_⟩
 rw [if_neg c4] at H
 have c4b0 : decide (a1 ≤ a0) = false := decide_eq_false c4
 clear c4
 obtain rfl := sj_ H
 go_enter Tryz.func36, Tryz.ntmps36
 go_wp2
 go_ret
 exact ⟨ra_, dr_⟩
def dN.f (a0 : Int) : Option (Bool) := (dQ.f a0 0 100000).bind fun t101 => (some t101)
theorem dN.calls (a0 : Int) (r : Bool) (w : World) (hG : Tryz.GW w) (h : dN.f a0 = some r) :
 Calls Tryz.prog 34 #[.int .i64 a0] w fun e w' => e = .returned (.bool r) ∧ Drawn0 w w' := by
 have HG := am_ hG
 clear hG
 have H : ((dQ.f a0 0 100000).bind fun t101 => (some t101)) = some r := h
 clear h
 obtain ⟨t101, A2, H⟩ := bs_ H
 obtain rfl := sj_ H
 go_enter Tryz.func34, Tryz.ntmps34
 go_wp2_with (first | ((with_reducible refine gf_ 36 rfl ?_); refine gl_ (some 4) Tryz.func36 #[.int .i64 a0, .int .i64 0, .int .i64 100000] ?_; refine (dQ.calls a0 0 100000 t101 _ gd_ A2.out).mono ?_; rintro e w' ⟨rfl, ⟨nd, rfl⟩⟩; refine ⟨_, rfl, ?_⟩))
 go_ret
 exact ⟨ra_, dr_⟩
def eF.f (a0 : Int) : Option (Bool) := (dN.f a0).bind fun t102 => (some (!t102))
theorem eF.calls (a0 : Int) (r : Bool) (w : World) (hG : Tryz.GW w) (h : eF.f a0 = some r) :
 Calls Tryz.prog 33 #[.int .i64 a0] w fun e w' => e = .returned (.bool r) ∧ Drawn0 w w' := by
 have HG := am_ hG
 clear hG
 have H : ((dN.f a0).bind fun t102 => (some (!t102))) = some r := h
 clear h
 obtain ⟨t102, A2, H⟩ := bs_ H
 obtain rfl := sj_ H
 go_enter Tryz.func33, Tryz.ntmps33
 go_wp2_with (first | ((with_reducible refine gf_ 34 rfl ?_); refine gl_ (some 4) Tryz.func34 #[.int .i64 a0] ?_; refine (dN.calls a0 t102 _ gd_ A2.out).mono ?_; rintro e w' ⟨rfl, ⟨nd, rfl⟩⟩; refine ⟨_, rfl, ?_⟩))
 go_ret
 exact ⟨ra_, dr_⟩
def strings_IndexByte.f (a0 : ByteArray) (a1 : Int) : Option (Int) := some (Lib.indexByte a0.data.toList a1.toNat.toUInt8)
theorem strings_IndexByte.calls (a0 : ByteArray) (a1 : Int) (r : Int) (w : World) (hG : Tryz.GW w) (h : strings_IndexByte.f a0 a1 = some r) :
 Calls Tryz.prog 112 #[.string a0, .int .u8 a1] w fun e w' => e = .returned (.int .i64 r) ∧ Drawn0 w w' := by
 obtain rfl := Option.some.inj h
 exact (Tryz.strings_IndexByte a0 a1 w).mono fun e w' ⟨he, hw⟩ => ⟨he, ⟨0, by rw [hw]; rfl⟩⟩
def bW.l0 : Nat → ByteArray → Int → Int → Option (Bool)
 | 0, _, _, _ => none
 | k + 1, x0, x6, x7 => if x7 < x6 then (if 0 ≤ x7 then (if x7 < (x0.size : Int) then (if (bt x0 x7) < 65 then (if (bt x0 x7) < 97 then (if (bt x0 x7) < 48 then ((strings_IndexByte.f (⟨#[95, 43, 45, 35]⟩ : ByteArray) (bt x0 x7)).bind fun t103 => (if t103 < 0 then (some false) else (bW.l0 k x0 x6 (wrap64 (x7 + 1))))) else (if (bt x0 x7) > 57 then ((strings_IndexByte.f (⟨#[95, 43, 45, 35]⟩ : ByteArray) (bt x0 x7)).bind fun t104 => (if t104 < 0 then (some false) else (bW.l0 k x0 x6 (wrap64 (x7 + 1))))) else (bW.l0 k x0 x6 (wrap64 (x7 + 1))))) else (if (bt x0 x7) > 122 then (if (bt x0 x7) < 48 then ((strings_IndexByte.f (⟨#[95, 43, 45, 35]⟩ : ByteArray) (bt x0 x7)).bind fun t105 => (if t105 < 0 then (some false) else (bW.l0 k x0 x6 (wrap64 (x7 + 1))))) else (if (bt x0 x7) > 57 then ((strings_IndexByte.f (⟨#[95, 43, 45, 35]⟩ : ByteArray) (bt x0 x7)).bind fun t106 => (if t106 < 0 then (some false) else (bW.l0 k x0 x6 (wrap64 (x7 + 1))))) else (bW.l0 k x0 x6 (wrap64 (x7 + 1))))) else (bW.l0 k x0 x6 (wrap64 (x7 + 1))))) else (if (bt x0 x7) > 90 then (if (bt x0 x7) < 97 then (if (bt x0 x7) < 48 then ((strings_IndexByte.f (⟨#[95, 43, 45, 35]⟩ : ByteArray) (bt x0 x7)).bind fun t107 => (if t107 < 0 then (some false) else (bW.l0 k x0 x6 (wrap64 (x7 + 1))))) else (if (bt x0 x7) > 57 then ((strings_IndexByte.f (⟨#[95, 43, 45, 35]⟩ : ByteArray) (bt x0 x7)).bind fun t108 => (if t108 < 0 then (some false) else (bW.l0 k x0 x6 (wrap64 (x7 + 1))))) else (bW.l0 k x0 x6 (wrap64 (x7 + 1))))) else (if (bt x0 x7) > 122 then (if (bt x0 x7) < 48 then ((strings_IndexByte.f (⟨#[95, 43, 45, 35]⟩ : ByteArray) (bt x0 x7)).bind fun t109 => (if t109 < 0 then (some false) else (bW.l0 k x0 x6 (wrap64 (x7 + 1))))) else (if (bt x0 x7) > 57 then ((strings_IndexByte.f (⟨#[95, 43, 45, 35]⟩ : ByteArray) (bt x0 x7)).bind fun t110 => (if t110 < 0 then (some false) else (bW.l0 k x0 x6 (wrap64 (x7 + 1))))) else (bW.l0 k x0 x6 (wrap64 (x7 + 1))))) else (bW.l0 k x0 x6 (wrap64 (x7 + 1))))) else (bW.l0 k x0 x6 (wrap64 (x7 + 1))))) else (none)) else (none)) else (if (x0.size : Int) ≥ 1 then (some (decide ((x0.size : Int) ≤ 40))) else (some false))
def bW.f (k : Nat) (a0 : ByteArray) : Option (Bool) := bW.l0 k a0 (a0.size : Int) 0
theorem bW.calls (k : Nat) (a0 : ByteArray) (r : Bool) (w : World) (hG : Tryz.GW w) (h : bW.f k a0 = some r) :
 Calls Tryz.prog 65 #[.string a0] w fun e w' => e = .returned (.bool r) ∧ Drawn0 w w' := by
 have HG := am_ hG
 clear hG
 have H : (bW.l0 k a0 (a0.size : Int) 0) = some r := h
 clear h
 replace H := am_ H
 go_enter Tryz.func65, Tryz.ntmps65
 go_wp2
 go_loopg [7] k (fun kq v7 w' => ∃ (x7_1 : Int), v7 = .int .i64 x7_1 ∧ Aside0 (bW.l0 kq a0 (a0.size : Int) x7_1 = some r) ∧ Aside0 (kq ≤ k) ∧ Drawn0 w w')
 case atStart => exact ⟨(0), ra_, H, ⟨Nat.le_refl _⟩, dr_⟩
 case round =>
  clear H
  obtain ⟨x7_1, rfl, HA, HK1, ⟨m1, rfl⟩⟩ := hrel
  cases gk with
  | zero => exact absurd HA.out (by simp [bW.l0])
  | succ k1 =>
   have H := HA.out
   clear HA
   simp only [bW.l0] at H
   by_cases c2 : x7_1 < (a0.size : Int)
   rotate_left
   · rw [if_neg c2] at H
     have c2b0 := decide_eq_false c2
     clear c2
     by_cases c36 : (a0.size : Int) ≥ 1
     · rw [if_pos c36] at H
       have c36b0 : decide (1 ≤ (a0.size : Int)) = true := decide_eq_true c36
       have c36b1 : decide (1 ≤ a0.size) = true := decide_eq_true (by omega)
       clear c36
       obtain rfl := sj_ H
       go_wp2
       go_ret
       exact ⟨ra_, dr_⟩
     rw [if_neg c36] at H
     have c36b0 : decide (1 ≤ (a0.size : Int)) = false := decide_eq_false c36
     have c36b1 : decide (1 ≤ a0.size) = false := decide_eq_false (by omega)
     clear c36
     obtain rfl := sj_ H
     go_wp2
     go_ret
     exact ⟨ra_, dr_⟩
   rw [if_pos c2] at H
   have c2b0 := decide_eq_true c2
   clear c2
   obtain ⟨c3b0, H⟩ := ifd_ H
   obtain ⟨c4b0, H⟩ := ifd_ H
   by_cases c6 : (bt a0 x7_1) < 65
   · rw [if_pos c6] at H
     have c6b0 := decide_eq_true c6
     clear c6
     by_cases c7 : (bt a0 x7_1) < 97
     · rw [if_pos c7] at H
       have c7b0 := decide_eq_true c7
       clear c7
       by_cases c8 : (bt a0 x7_1) < 48
       · rw [if_pos c8] at H
         have c8b0 := decide_eq_true c8
         clear c8
         obtain ⟨t103, A9, H⟩ := bs_ H
         by_cases c10 : t103 < 0
         · rw [if_pos c10] at H
           have c10b0 := decide_eq_true c10
           clear c10
           obtain rfl := sj_ H
           have p5 := pt_ x7_1
           have q5 := qt_ x7_1 a0.size
           have hx5 := bt_at a0 x7_1
           go_wp2_with (first | (go_at_call 112; refine (strings_IndexByte.calls (⟨#[95, 43, 45, 35]⟩ : ByteArray) (bt a0 x7_1) t103 _ gd_ A9.out).mono ?_; rintro e w' ⟨rfl, ⟨nd, rfl⟩⟩))
           go_ret
           exact ⟨ra_, dr_⟩
         rw [if_neg c10] at H
         have c10b0 := decide_eq_false c10
         clear c10
         replace H := am_ H
         have p5 := pt_ x7_1
         have q5 := qt_ x7_1 a0.size
         have hx5 := bt_at a0 x7_1
         go_wp2_with (first | (go_at_call 112; refine (strings_IndexByte.calls (⟨#[95, 43, 45, 35]⟩ : ByteArray) (bt a0 x7_1) t103 _ gd_ A9.out).mono ?_; rintro e w' ⟨rfl, ⟨nd, rfl⟩⟩))
         go_roundg k1
         case measure => have := HK1.out; omega
         case rel => exact ⟨(wrap64 (x7_1 + 1)), ra_, H, ⟨by have := HK1.out; omega⟩, dr_⟩
       rw [if_neg c8] at H
       have c8b0 := decide_eq_false c8
       clear c8
       by_cases c11 : (bt a0 x7_1) > 57
       rotate_left
       · rw [if_neg c11] at H
         have c11b0 : decide (57 < (bt a0 x7_1)) = false := decide_eq_false c11
         clear c11
         replace H := am_ H
         have p5 := pt_ x7_1
         have q5 := qt_ x7_1 a0.size
         have hx5 := bt_at a0 x7_1
         go_wp2
         go_roundg k1
         case measure => have := HK1.out; omega
         case rel => exact ⟨(wrap64 (x7_1 + 1)), ra_, H, ⟨by have := HK1.out; omega⟩, dr_⟩
       rw [if_pos c11] at H
       have c11b0 : decide (57 < (bt a0 x7_1)) = true := decide_eq_true c11
       clear c11
       obtain ⟨t104, A12, H⟩ := bs_ H
       by_cases c13 : t104 < 0
       · rw [if_pos c13] at H
         have c13b0 := decide_eq_true c13
         clear c13
         obtain rfl := sj_ H
         have p5 := pt_ x7_1
         have q5 := qt_ x7_1 a0.size
         have hx5 := bt_at a0 x7_1
         go_wp2_with (first | (go_at_call 112; refine (strings_IndexByte.calls (⟨#[95, 43, 45, 35]⟩ : ByteArray) (bt a0 x7_1) t104 _ gd_ A12.out).mono ?_; rintro e w' ⟨rfl, ⟨nd, rfl⟩⟩))
         go_ret
         exact ⟨ra_, dr_⟩
       rw [if_neg c13] at H
       have c13b0 := decide_eq_false c13
       clear c13
       replace H := am_ H
       have p5 := pt_ x7_1
       have q5 := qt_ x7_1 a0.size
       have hx5 := bt_at a0 x7_1
       go_wp2_with (first | (go_at_call 112; refine (strings_IndexByte.calls (⟨#[95, 43, 45, 35]⟩ : ByteArray) (bt a0 x7_1) t104 _ gd_ A12.out).mono ?_; rintro e w' ⟨rfl, ⟨nd, rfl⟩⟩))
       go_roundg k1
       case measure => have := HK1.out; omega
       case rel => exact ⟨(wrap64 (x7_1 + 1)), ra_, H, ⟨by have := HK1.out; omega⟩, dr_⟩
     rw [if_neg c7] at H
     have c7b0 := decide_eq_false c7
     clear c7
     by_cases c14 : (bt a0 x7_1) > 122
     rotate_left
     · rw [if_neg c14] at H
       have c14b0 : decide (122 < (bt a0 x7_1)) = false := decide_eq_false c14
       clear c14
       replace H := am_ H
       have p5 := pt_ x7_1
       have q5 := qt_ x7_1 a0.size
       have hx5 := bt_at a0 x7_1
       go_wp2
       go_roundg k1
       case measure => have := HK1.out; omega
       case rel => exact ⟨(wrap64 (x7_1 + 1)), ra_, H, ⟨by have := HK1.out; omega⟩, dr_⟩
     rw [if_pos c14] at H
     have c14b0 : decide (122 < (bt a0 x7_1)) = true := decide_eq_true c14
     clear c14
     by_cases c15 : (bt a0 x7_1) < 48
     · rw [if_pos c15] at H
       have c15b0 := decide_eq_true c15
       clear c15
       obtain ⟨t105, A16, H⟩ := bs_ H
       by_cases c17 : t105 < 0
       · rw [if_pos c17] at H
         have c17b0 := decide_eq_true c17
         clear c17
         obtain rfl := sj_ H
         have p5 := pt_ x7_1
         have q5 := qt_ x7_1 a0.size
         have hx5 := bt_at a0 x7_1
         go_wp2_with (first | (go_at_call 112; refine (strings_IndexByte.calls (⟨#[95, 43, 45, 35]⟩ : ByteArray) (bt a0 x7_1) t105 _ gd_ A16.out).mono ?_; rintro e w' ⟨rfl, ⟨nd, rfl⟩⟩))
         go_ret
         exact ⟨ra_, dr_⟩
       rw [if_neg c17] at H
       have c17b0 := decide_eq_false c17
       clear c17
       replace H := am_ H
       have p5 := pt_ x7_1
       have q5 := qt_ x7_1 a0.size
       have hx5 := bt_at a0 x7_1
       go_wp2_with (first | (go_at_call 112; refine (strings_IndexByte.calls (⟨#[95, 43, 45, 35]⟩ : ByteArray) (bt a0 x7_1) t105 _ gd_ A16.out).mono ?_; rintro e w' ⟨rfl, ⟨nd, rfl⟩⟩))
       go_roundg k1
       case measure => have := HK1.out; omega
       case rel => exact ⟨(wrap64 (x7_1 + 1)), ra_, H, ⟨by have := HK1.out; omega⟩, dr_⟩
     rw [if_neg c15] at H
     have c15b0 := decide_eq_false c15
     clear c15
     by_cases c18 : (bt a0 x7_1) > 57
     rotate_left
     · rw [if_neg c18] at H
       have c18b0 : decide (57 < (bt a0 x7_1)) = false := decide_eq_false c18
       clear c18
       replace H := am_ H
       have p5 := pt_ x7_1
       have q5 := qt_ x7_1 a0.size
       have hx5 := bt_at a0 x7_1
       go_wp2
       go_roundg k1
       case measure => have := HK1.out; omega
       case rel => exact ⟨(wrap64 (x7_1 + 1)), ra_, H, ⟨by have := HK1.out; omega⟩, dr_⟩
     rw [if_pos c18] at H
     have c18b0 : decide (57 < (bt a0 x7_1)) = true := decide_eq_true c18
     clear c18
     obtain ⟨t106, A19, H⟩ := bs_ H
     by_cases c20 : t106 < 0
     · rw [if_pos c20] at H
       have c20b0 := decide_eq_true c20
       clear c20
       obtain rfl := sj_ H
       have p5 := pt_ x7_1
       have q5 := qt_ x7_1 a0.size
       have hx5 := bt_at a0 x7_1
       go_wp2_with (first | (go_at_call 112; refine (strings_IndexByte.calls (⟨#[95, 43, 45, 35]⟩ : ByteArray) (bt a0 x7_1) t106 _ gd_ A19.out).mono ?_; rintro e w' ⟨rfl, ⟨nd, rfl⟩⟩))
       go_ret
       exact ⟨ra_, dr_⟩
     rw [if_neg c20] at H
     have c20b0 := decide_eq_false c20
     clear c20
     replace H := am_ H
     have p5 := pt_ x7_1
     have q5 := qt_ x7_1 a0.size
     have hx5 := bt_at a0 x7_1
     go_wp2_with (first | (go_at_call 112; refine (strings_IndexByte.calls (⟨#[95, 43, 45, 35]⟩ : ByteArray) (bt a0 x7_1) t106 _ gd_ A19.out).mono ?_; rintro e w' ⟨rfl, ⟨nd, rfl⟩⟩))
     go_roundg k1
     case measure => have := HK1.out; omega
     case rel => exact ⟨(wrap64 (x7_1 + 1)), ra_, H, ⟨by have := HK1.out; omega⟩, dr_⟩
   rw [if_neg c6] at H
   have c6b0 := decide_eq_false c6
   clear c6
   by_cases c21 : (bt a0 x7_1) > 90
   rotate_left
   · rw [if_neg c21] at H
     have c21b0 : decide (90 < (bt a0 x7_1)) = false := decide_eq_false c21
     clear c21
     replace H := am_ H
     have p5 := pt_ x7_1
     have q5 := qt_ x7_1 a0.size
     have hx5 := bt_at a0 x7_1
     go_wp2
     go_roundg k1
     case measure => have := HK1.out; omega
     case rel => exact ⟨(wrap64 (x7_1 + 1)), ra_, H, ⟨by have := HK1.out; omega⟩, dr_⟩
   rw [if_pos c21] at H
   have c21b0 : decide (90 < (bt a0 x7_1)) = true := decide_eq_true c21
   clear c21
   by_cases c22 : (bt a0 x7_1) < 97
   · rw [if_pos c22] at H
     have c22b0 := decide_eq_true c22
     clear c22
     by_cases c23 : (bt a0 x7_1) < 48
     · rw [if_pos c23] at H
       have c23b0 := decide_eq_true c23
       clear c23
       obtain ⟨t107, A24, H⟩ := bs_ H
       by_cases c25 : t107 < 0
       · rw [if_pos c25] at H
         have c25b0 := decide_eq_true c25
         clear c25
         obtain rfl := sj_ H
         have p5 := pt_ x7_1
         have q5 := qt_ x7_1 a0.size
         have hx5 := bt_at a0 x7_1
         go_wp2_with (first | (go_at_call 112; refine (strings_IndexByte.calls (⟨#[95, 43, 45, 35]⟩ : ByteArray) (bt a0 x7_1) t107 _ gd_ A24.out).mono ?_; rintro e w' ⟨rfl, ⟨nd, rfl⟩⟩))
         go_ret
         exact ⟨ra_, dr_⟩
       rw [if_neg c25] at H
       have c25b0 := decide_eq_false c25
       clear c25
       replace H := am_ H
       have p5 := pt_ x7_1
       have q5 := qt_ x7_1 a0.size
       have hx5 := bt_at a0 x7_1
       go_wp2_with (first | (go_at_call 112; refine (strings_IndexByte.calls (⟨#[95, 43, 45, 35]⟩ : ByteArray) (bt a0 x7_1) t107 _ gd_ A24.out).mono ?_; rintro e w' ⟨rfl, ⟨nd, rfl⟩⟩))
       go_roundg k1
       case measure => have := HK1.out; omega
       case rel => exact ⟨(wrap64 (x7_1 + 1)), ra_, H, ⟨by have := HK1.out; omega⟩, dr_⟩
     rw [if_neg c23] at H
     have c23b0 := decide_eq_false c23
     clear c23
     by_cases c26 : (bt a0 x7_1) > 57
     rotate_left
     · rw [if_neg c26] at H
       have c26b0 : decide (57 < (bt a0 x7_1)) = false := decide_eq_false c26
       clear c26
       replace H := am_ H
       have p5 := pt_ x7_1
       have q5 := qt_ x7_1 a0.size
       have hx5 := bt_at a0 x7_1
       go_wp2
       go_roundg k1
       case measure => have := HK1.out; omega
       case rel => exact ⟨(wrap64 (x7_1 + 1)), ra_, H, ⟨by have := HK1.out; omega⟩, dr_⟩
     rw [if_pos c26] at H
     have c26b0 : decide (57 < (bt a0 x7_1)) = true := decide_eq_true c26
     clear c26
     obtain ⟨t108, A27, H⟩ := bs_ H
     by_cases c28 : t108 < 0
     · rw [if_pos c28] at H
       have c28b0 := decide_eq_true c28
       clear c28
       obtain rfl := sj_ H
       have p5 := pt_ x7_1
       have q5 := qt_ x7_1 a0.size
       have hx5 := bt_at a0 x7_1
       go_wp2_with (first | (go_at_call 112; refine (strings_IndexByte.calls (⟨#[95, 43, 45, 35]⟩ : ByteArray) (bt a0 x7_1) t108 _ gd_ A27.out).mono ?_; rintro e w' ⟨rfl, ⟨nd, rfl⟩⟩))
       go_ret
       exact ⟨ra_, dr_⟩
     rw [if_neg c28] at H
     have c28b0 := decide_eq_false c28
     clear c28
     replace H := am_ H
     have p5 := pt_ x7_1
     have q5 := qt_ x7_1 a0.size
     have hx5 := bt_at a0 x7_1
     go_wp2_with (first | (go_at_call 112; refine (strings_IndexByte.calls (⟨#[95, 43, 45, 35]⟩ : ByteArray) (bt a0 x7_1) t108 _ gd_ A27.out).mono ?_; rintro e w' ⟨rfl, ⟨nd, rfl⟩⟩))
     go_roundg k1
     case measure => have := HK1.out; omega
     case rel => exact ⟨(wrap64 (x7_1 + 1)), ra_, H, ⟨by have := HK1.out; omega⟩, dr_⟩
   rw [if_neg c22] at H
   have c22b0 := decide_eq_false c22
   clear c22
   by_cases c29 : (bt a0 x7_1) > 122
   rotate_left
   · rw [if_neg c29] at H
     have c29b0 : decide (122 < (bt a0 x7_1)) = false := decide_eq_false c29
     clear c29
     replace H := am_ H
     have p5 := pt_ x7_1
     have q5 := qt_ x7_1 a0.size
     have hx5 := bt_at a0 x7_1
     go_wp2
     go_roundg k1
     case measure => have := HK1.out; omega
     case rel => exact ⟨(wrap64 (x7_1 + 1)), ra_, H, ⟨by have := HK1.out; omega⟩, dr_⟩
   rw [if_pos c29] at H
   have c29b0 : decide (122 < (bt a0 x7_1)) = true := decide_eq_true c29
   clear c29
   by_cases c30 : (bt a0 x7_1) < 48
   · rw [if_pos c30] at H
     have c30b0 := decide_eq_true c30
     clear c30
     obtain ⟨t109, A31, H⟩ := bs_ H
     by_cases c32 : t109 < 0
     · rw [if_pos c32] at H
       have c32b0 := decide_eq_true c32
       clear c32
       obtain rfl := sj_ H
       have p5 := pt_ x7_1
       have q5 := qt_ x7_1 a0.size
       have hx5 := bt_at a0 x7_1
       go_wp2_with (first | (go_at_call 112; refine (strings_IndexByte.calls (⟨#[95, 43, 45, 35]⟩ : ByteArray) (bt a0 x7_1) t109 _ gd_ A31.out).mono ?_; rintro e w' ⟨rfl, ⟨nd, rfl⟩⟩))
       go_ret
       exact ⟨ra_, dr_⟩
     rw [if_neg c32] at H
     have c32b0 := decide_eq_false c32
     clear c32
     replace H := am_ H
     have p5 := pt_ x7_1
     have q5 := qt_ x7_1 a0.size
     have hx5 := bt_at a0 x7_1
     go_wp2_with (first | (go_at_call 112; refine (strings_IndexByte.calls (⟨#[95, 43, 45, 35]⟩ : ByteArray) (bt a0 x7_1) t109 _ gd_ A31.out).mono ?_; rintro e w' ⟨rfl, ⟨nd, rfl⟩⟩))
     go_roundg k1
     case measure => have := HK1.out; omega
     case rel => exact ⟨(wrap64 (x7_1 + 1)), ra_, H, ⟨by have := HK1.out; omega⟩, dr_⟩
   rw [if_neg c30] at H
   have c30b0 := decide_eq_false c30
   clear c30
   by_cases c33 : (bt a0 x7_1) > 57
   rotate_left
   · rw [if_neg c33] at H
     have c33b0 : decide (57 < (bt a0 x7_1)) = false := decide_eq_false c33
     clear c33
     replace H := am_ H
     have p5 := pt_ x7_1
     have q5 := qt_ x7_1 a0.size
     have hx5 := bt_at a0 x7_1
     go_wp2
     go_roundg k1
     case measure => have := HK1.out; omega
     case rel => exact ⟨(wrap64 (x7_1 + 1)), ra_, H, ⟨by have := HK1.out; omega⟩, dr_⟩
   rw [if_pos c33] at H
   have c33b0 : decide (57 < (bt a0 x7_1)) = true := decide_eq_true c33
   clear c33
   obtain ⟨t110, A34, H⟩ := bs_ H
   by_cases c35 : t110 < 0
   · rw [if_pos c35] at H
     have c35b0 := decide_eq_true c35
     clear c35
     obtain rfl := sj_ H
     have p5 := pt_ x7_1
     have q5 := qt_ x7_1 a0.size
     have hx5 := bt_at a0 x7_1
     go_wp2_with (first | (go_at_call 112; refine (strings_IndexByte.calls (⟨#[95, 43, 45, 35]⟩ : ByteArray) (bt a0 x7_1) t110 _ gd_ A34.out).mono ?_; rintro e w' ⟨rfl, ⟨nd, rfl⟩⟩))
     go_ret
     exact ⟨ra_, dr_⟩
   rw [if_neg c35] at H
   have c35b0 := decide_eq_false c35
   clear c35
   replace H := am_ H
   have p5 := pt_ x7_1
   have q5 := qt_ x7_1 a0.size
   have hx5 := bt_at a0 x7_1
   go_wp2_with (first | (go_at_call 112; refine (strings_IndexByte.calls (⟨#[95, 43, 45, 35]⟩ : ByteArray) (bt a0 x7_1) t110 _ gd_ A34.out).mono ?_; rintro e w' ⟨rfl, ⟨nd, rfl⟩⟩))
   go_roundg k1
   case measure => have := HK1.out; omega
   case rel => exact ⟨(wrap64 (x7_1 + 1)), ra_, H, ⟨by have := HK1.out; omega⟩, dr_⟩
def strings_Split.f (a0 : ByteArray) (a1 : ByteArray) : Option ((List ByteArray)) := if a0.size < 4294967281 then (if 1 ≤ a1.size then some (Lib.splitB a1 0 (Lib.countB a0 a1) a0) else none) else none
theorem strings_Split.calls (a0 : ByteArray) (a1 : ByteArray) (r : List ByteArray) (w : World) (hG : Tryz.GW w) (h : strings_Split.f a0 a1 = some r) :
 Calls Tryz.prog 101 #[.string a0, .string a1] w fun e w' => ∃ v0_ : Value, e = .returned (v0_) ∧ Kd.R Kd.string 9 w' w.heap.size (fun _ => True) v0_ r ∧ Below w.heap.size w w' := by
 unfold strings_Split.f at h
 by_cases h0 : a0.size < 4294967281
 rotate_left
 · rw [if_neg h0] at h; cases h
 by_cases h1 : 1 ≤ a1.size
 · rw [if_pos h0, if_pos h1] at h
   obtain rfl := Option.some.inj h
   obtain ⟨m, hm⟩ := hG.maxLen
   refine (Tryz.strings_Split a0 a1 m w h0 hm h1).mono fun e w' ⟨he, hw⟩ => ⟨_, he, ?_, ?_⟩
   · rw [hw]
     exact YthkeonbmgcphkaaGreatDoorMem.splitRow w _ (Lib.countB a0 a1 + 1) (Lib.splitB_all a1 h1 0 _ a0 rfl) (by have := Lib.countB_le a1 h1 a0.size a0 (Nat.le_refl _); unfold maxLen; omega) 9
   rw [hw]; exact (Below.refl _ _).alloc (Nat.le_refl _) _
 rw [if_pos h0, if_neg h1] at h; cases h
def fB.f (k : Nat) (a0 : ByteArray) : Option (Bool) := (bW.f k a0).bind fun t111 => (some (!t111))
theorem fB.calls (k : Nat) (a0 : ByteArray) (r : Bool) (w : World) (hG : Tryz.GW w) (h : fB.f k a0 = some r) :
 Calls Tryz.prog 113 #[.string a0] w fun e w' => e = .returned (.bool r) ∧ Drawn0 w w' := by
 have HG := am_ hG
 clear hG
 have H : ((bW.f k a0).bind fun t111 => (some (!t111))) = some r := h
 clear h
 obtain ⟨t111, A2, H⟩ := bs_ H
 obtain rfl := sj_ H
 go_enter Tryz.func113, Tryz.ntmps113
 go_wp2_with (first | ((with_reducible refine gf_ 65 rfl ?_); refine gl_ (some 4) Tryz.func65 #[.string a0] ?_; refine (bW.calls k a0 t111 _ gd_ A2.out).mono ?_; rintro e w' ⟨rfl, ⟨nd, rfl⟩⟩; refine ⟨_, rfl, ?_⟩))
 go_ret
 exact ⟨ra_, dr_⟩
def aX.l0 : Nat → List ByteArray → Int → Int → Option (Int)
 | 0, _, _, _ => none
 | k + 1, x0, x7, x8 => if x8 < x7 then (if 0 ≤ x8 then (if x8 < (x0.length : Int) then ((fB.f k (rdOf ByteArray.empty x0 x8)).bind fun t113 => (if t113 = true then (some x8) else (aX.l0 k x0 x7 (wrap64 (x8 + 1))))) else (none)) else (none)) else (some (-1))
def aX.f (k : Nat) (l0 : List ByteArray)  : Option (Int) := aX.l0 k l0 (l0.length : Int) 0
theorem aX.calls (k : Nat) (A0 : Option Addr) (c0 : Nat) (l0 : List ByteArray)  (r : Int) (w : World) (hG : Tryz.GW w) (hr0 : Kd.C Kd.string w A0 l0.length l0) (hc0 : l0.length ≤ c0) (h : aX.f k l0 = some r) :
 Calls Tryz.prog 135 #[.slice A0 l0.length c0, .func (.func 113) #[] #[]] w fun e w' => e = .returned (.int .i64 r) ∧ Drawn0 w w' := by
 have HR0 := am_ hr0
 have HC0 := am_ hc0
 clear hr0 hc0
 have HG := am_ hG
 clear hG
 have H : (aX.l0 k l0 (l0.length : Int) 0) = some r := h
 clear h
 replace H := am_ H
 go_enter Tryz.func135, Tryz.ntmps135
 go_wp2
 go_loopg [8] k (fun kq v8 w' => ∃ (x8_1 : Int), v8 = .int .i64 x8_1 ∧ Aside0 (aX.l0 kq l0 (l0.length : Int) x8_1 = some r) ∧ Aside0 (kq ≤ k) ∧ Drawn0 w w')
 case atStart => exact ⟨(0), ra_, H, ⟨Nat.le_refl _⟩, dr_⟩
 case round =>
  clear H
  try clear c1
  try clear p2
  obtain ⟨x8_1, rfl, HA, HK1, ⟨m1, rfl⟩⟩ := hrel
  cases gk with
  | zero => exact absurd HA.out (by simp [aX.l0])
  | succ k1 =>
   have H := HA.out
   clear HA
   simp only [aX.l0] at H
   by_cases c3 : x8_1 < (l0.length : Int)
   rotate_left
   · rw [if_neg c3] at H
     have c3b0 := decide_eq_false c3
     clear c3
     obtain rfl := sj_ H
     go_wp2
     go_ret
     exact ⟨ra_, dr_⟩
   rw [if_pos c3] at H
   have c3b0 := decide_eq_true c3
   clear c3
   obtain ⟨c4b0, H⟩ := ifd_ H
   obtain ⟨c5b0, H⟩ := ifd_ H
   obtain ⟨t113, A6, H⟩ := bs_ H
   by_cases c7 : t113 = true
   · subst c7
     rw [if_pos rfl] at H
     obtain rfl := sj_ H
     have p112 := pt_ x8_1
     have q112 := qt_ x8_1 l0.length
     obtain ⟨ad112, e112, hx112_0⟩ := Kd.at_string HR0.out x8_1 (oe_ p112) (oe_ q112)
     cases e112
     go_wp2_with (first | ((with_reducible refine gK rfl ?_); refine goesV_ (f := 113) (some 16) rfl rfl Tryz.func113 (by kernel_rfl) rfl #[.string (rdOf ByteArray.empty l0 x8_1)] rfl (by (try simp only [List.map_toArray, List.map_cons, List.map_nil]); first | done | rfl | (simp only [List.length_drop, List.length_take]; rfl)) ?_; refine (fB.calls k1 (rdOf ByteArray.empty l0 x8_1) true _ gd_ A6.out).mono ?_; rintro e w' ⟨rfl, ⟨nd, rfl⟩⟩; refine ⟨_, rfl, ?_⟩))
     go_ret
     exact ⟨ra_, dr_⟩
   obtain rfl := bf_ c7
   clear c7
   rw [if_neg ft_] at H
   replace H := am_ H
   have p112 := pt_ x8_1
   have q112 := qt_ x8_1 l0.length
   obtain ⟨ad112, e112, hx112_0⟩ := Kd.at_string HR0.out x8_1 (oe_ p112) (oe_ q112)
   cases e112
   go_wp2_with (first | ((with_reducible refine gK rfl ?_); refine goesV_ (f := 113) (some 16) rfl rfl Tryz.func113 (by kernel_rfl) rfl #[.string (rdOf ByteArray.empty l0 x8_1)] rfl (by (try simp only [List.map_toArray, List.map_cons, List.map_nil]); first | done | rfl | (simp only [List.length_drop, List.length_take]; rfl)) ?_; refine (fB.calls k1 (rdOf ByteArray.empty l0 x8_1) false _ gd_ A6.out).mono ?_; rintro e w' ⟨rfl, ⟨nd, rfl⟩⟩; refine ⟨_, rfl, ?_⟩))
   go_roundg k1
   case measure => have := HK1.out; omega
   case rel => exact ⟨(wrap64 (x8_1 + 1)), ra_, H, ⟨by have := HK1.out; omega⟩, dr_⟩
def dB.f (k : Nat) (l0 : List ByteArray)  : Option (Bool) := (aX.f k l0).bind fun t114 => (some (decide (t114 ≥ 0)))
theorem dB.calls (k : Nat) (A0 : Option Addr) (c0 : Nat) (l0 : List ByteArray)  (r : Bool) (w : World) (hG : Tryz.GW w) (hr0 : Kd.C Kd.string w A0 l0.length l0) (hc0 : l0.length ≤ c0) (h : dB.f k l0 = some r) :
 Calls Tryz.prog 102 #[.slice A0 l0.length c0, .func (.func 113) #[] #[]] w fun e w' => e = .returned (.bool r) ∧ Drawn0 w w' := by
 have HR0 := am_ hr0
 have HC0 := am_ hc0
 clear hr0 hc0
 have HG := am_ hG
 clear hG
 have H : ((aX.f k l0).bind fun t114 => (some (decide (t114 ≥ 0)))) = some r := h
 clear h
 obtain ⟨t114, A3, H⟩ := bs_ H
 obtain rfl := sj_ H
 go_enter Tryz.func102, Tryz.ntmps102
 go_wp2_with (first | ((with_reducible refine gf_ 135 rfl ?_); refine gl_ (some 7) Tryz.func135 #[.slice A0 l0.length c0, .func (.func 113) #[] #[]] ?_; refine (aX.calls k _ _ l0  t114 _ gd_ (by repeat (first | exact HR0.out | (with_reducible refine Kd.C_alloc ?_ _) | (with_reducible refine Kd.C_drewN ?_ _) | (with_reducible refine Kd.C_drew ?_))) HC0.out A3.out).mono ?_; rintro e w' ⟨rfl, ⟨nd, rfl⟩⟩; refine ⟨_, rfl, ?_⟩))
 go_ret
 exact ⟨ra_, dr_⟩
def dX.f (k : Nat) (a0 : ByteArray) : Option (Bool) := if (a0.size : Int) ≤ 200 then ((strings_Split.f a0 (⟨#[47]⟩ : ByteArray)).bind fun t115 => ((dB.f k t115).bind fun t118 => (some (!t118)))) else (some false)
theorem dX.calls (k : Nat) (a0 : ByteArray) (r : Bool) (w : World) (hG : Tryz.GW w) (h : dX.f k a0 = some r) :
 Calls Tryz.prog 66 #[.string a0] w fun e w' => e = .returned (.bool r) ∧ Below w.heap.size w w' := by
 have HG := am_ hG
 clear hG
 have HB := am_ (Below.refl w.heap.size w)
 have H : (if (a0.size : Int) ≤ 200 then ((strings_Split.f a0 (⟨#[47]⟩ : ByteArray)).bind fun t115 => ((dB.f k t115).bind fun t118 => (some (!t118)))) else (some false)) = some r := h
 clear h
 by_cases c2 : (a0.size : Int) ≤ 200
 rotate_left
 · rw [if_neg c2] at H
   have c2b0 := decide_eq_false c2
   have c2b1 : decide (a0.size ≤ 200) = false := decide_eq_false (by omega)
   clear c2
   obtain rfl := sj_ H
   go_enter Tryz.func66, Tryz.ntmps66
   go_wp2
   go_ret
   exact ⟨er_, bl_⟩
 rw [if_pos c2] at H
 have c2b0 := decide_eq_true c2
 have c2b1 : decide (a0.size ≤ 200) = true := decide_eq_true (by omega)
 clear c2
 obtain ⟨t115, A3, H⟩ := bs_ H
 obtain ⟨t118, A4, H⟩ := bs_ H
 obtain rfl := sj_ H
 go_enter Tryz.func66, Tryz.ntmps66
 go_wp2_with (first | (go_at_call 101; refine (strings_Split.calls a0 (⟨#[47]⟩ : ByteArray) t115 _ (gw_ HG.out) A3.out).mono ?_; rintro e w5 ⟨v116, rfl, ho0, hb⟩; have HO117 := am_ (Kd.R_lower ho0 (below_size bl_)); replace HB := bp_ hb; (try clear hb); (try clear ho0); obtain ⟨Ao6, co6, eo6⟩ := Kd.R_slice HO117.out; subst eo6) | (go_at_call 102; refine (dB.calls k _ _ t115  t118 _ (gw_ HG.out) (cb_ (Kd.R_reads' HO117.out).2.2) ((Kd.R_reads' HO117.out).2.1) A4.out).mono ?_; rintro e w' ⟨rfl, ⟨nd, rfl⟩⟩))
 go_ret
 exact ⟨er_, bl_⟩
end Go.Proofs.YthkeonbmgcphkaaGreatDoor.PM
