import Derived.Test.YthkeonbmgcphkaaGreatDoorHg6
import Derived.Test.YthkeonbmgcphkaaGreatDoorHg15
namespace Go.Proofs.YthkeonbmgcphkaaGreatDoor.PM
open Go.RowKit Go.Proofs.YthkeonbmgcphkaaGreatDoorW.PrintWords Go.Proofs.YthkeonbmgcphkaaGreatDoorW.PrintLast Go.Proofs.YthkeonbmgcphkaaGreatDoorW.PrintMore
attribute [local go_sem] max2_int min2_int max_two min_two max_three min_three max_four min_four
set_option linter.unusedVariables false
set_option maxHeartbeats 8000000
set_option maxRecDepth 100000
set_option linter.unusedSimpArgs false
def bK.l0 : Nat → List Int → ByteArray → Int → Option (ByteArray)
 | 0, _, _, _ => none
 | k + 1, x0, x3, x4 => if x4 < (x0.length : Int) then (if 0 ≤ x4 then ((strconv_Itoa.f (rd x0 x4)).bind fun t334 => (if 1 + t334.size ≤ 9223372036854775807 then (if x3.size + ((⟨#[32]⟩ : ByteArray) ++ t334).size ≤ 9223372036854775807 then (bK.l0 k x0 (x3 ++ ((⟨#[32]⟩ : ByteArray) ++ t334)) (wrap64 (x4 + 1))) else (none)) else (none))) else (none)) else (some x3)
def bK.f (k : Nat) (l0 : List Int) : Option (ByteArray) := bK.l0 k l0 (⟨#[]⟩ : ByteArray) 0
theorem bK.calls (k : Nat) (A0 : Option Addr) (c0 : Nat) (l0 : List Int) (r : ByteArray) (w : World) (hG : Tryz.GW w) (hr0 : Kd.C (Kd.int .i64) w A0 l0.length l0) (hc0 : l0.length ≤ c0) (h : bK.f k l0 = some r) :
 Calls Tryz.prog 31 #[.slice A0 l0.length c0] w fun e w' => e = .returned (.string r) ∧ Below w.heap.size w w' := by
 have HR0 := am_ hr0
 have HC0 := am_ hc0
 clear hr0 hc0
 have HG := am_ hG
 clear hG
 have HB := am_ (Below.refl w.heap.size w)
 have H : (bK.l0 k l0 (⟨#[]⟩ : ByteArray) 0) = some r := h
 clear h
 replace H := am_ H
 go_enter Tryz.func31, Tryz.ntmps31
 go_wp2
 go_loopg [3, 4] k (fun kq v3 v4 w' => ∃ (x3_1 : ByteArray) (x4_1 : Int), v3 = .string x3_1 ∧ v4 = .int .i64 x4_1 ∧ Aside0 (bK.l0 kq l0 x3_1 x4_1 = some r) ∧ Aside0 (kq ≤ k) ∧ Aside0 (Below w.heap.size w w'))
 case atStart => exact ⟨((⟨#[]⟩ : ByteArray)), (0), ra_, ra_, H, ⟨Nat.le_refl _⟩, ⟨bl_⟩⟩
 case round =>
  clear H
  obtain ⟨x3_1, x4_1, rfl, rfl, HA, HK1, HB⟩ := hrel
  cases gk with
  | zero => exact absurd HA.out (by simp [bK.l0])
  | succ k1 =>
   have H := HA.out
   clear HA
   simp only [bK.l0] at H
   by_cases c2 : x4_1 < (l0.length : Int)
   rotate_left
   · rw [if_neg c2] at H
     have c2b0 := decide_eq_false c2
     clear c2
     obtain rfl := sj_ H
     go_wp2
     go_ret
     exact ⟨er_, bl_⟩
   rw [if_pos c2] at H
   have c2b0 := decide_eq_true c2
   clear c2
   obtain ⟨c3b0, H⟩ := ifd_ H
   obtain ⟨t334, A4, H⟩ := bs_ H
   obtain ⟨c5, H⟩ := ifn_ H
   have c5b0 := eq_true c5
   have c5b1 := decide_eq_true c5
   try have c5b2 : (9223372036854775807 < 1 + t334.size) = False := eq_false (Nat.not_lt.2 c5)
   obtain ⟨c6, H⟩ := ifn_ H
   have c6b0 := eq_true c6
   have c6b1 := decide_eq_true c6
   try have c6b2 : (9223372036854775807 < x3_1.size + ((⟨#[32]⟩ : ByteArray) ++ t334).size) = False := eq_false (Nat.not_lt.2 c6)
   try have c6b3 : (9223372036854775807 < x3_1.size + (1 + t334.size)) = False := eq_false (Nat.not_lt.2 (by have e_ : x3_1.size + ((⟨#[32]⟩ : ByteArray) ++ t334).size = x3_1.size + (1 + t334.size) := (by simp only [ByteArray.size_append]; rfl); have h_ := c6; rw [e_] at h_; exact h_))
   replace H := am_ H
   have p333 := pt_ x4_1
   have q333 := qt_ x4_1 l0.length
   obtain ⟨ad333, e333, hx333_0⟩ := Kd.at_int HR0.out x4_1 (oe_ p333) (oe_ q333)
   cases e333
   replace hx333_0 := ce_ HB hx333_0
   go_wp2_with (first | ((with_reducible refine gf_ 28 rfl ?_); refine gl_ (some 16) Tryz.func28 #[.int .i64 (rd l0 x4_1)] ?_; refine (strconv_Itoa.calls (rd l0 x4_1) t334 _ (gw_ HG.out) A4.out).mono ?_; rintro e w7 ⟨rfl, hb⟩; refine ⟨_, rfl, ?_⟩; replace HB := bp_ hb; (try clear hb)))
   go_roundg k1
   case measure => have := HK1.out; omega
   case rel => exact ⟨(x3_1 ++ ((⟨#[32]⟩ : ByteArray) ++ t334)), (wrap64 (x4_1 + 1)), ra_, ra_, H, ⟨by have := HK1.out; omega⟩, ⟨bl_⟩⟩
end Go.Proofs.YthkeonbmgcphkaaGreatDoor.PM
