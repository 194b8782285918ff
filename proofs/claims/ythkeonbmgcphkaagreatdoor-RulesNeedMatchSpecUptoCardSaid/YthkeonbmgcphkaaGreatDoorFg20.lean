import Derived.Test.YthkeonbmgcphkaaGreatDoorFg6
import Derived.Test.YthkeonbmgcphkaaGreatDoorFg8
import Derived.Test.YthkeonbmgcphkaaGreatDoorFg19
namespace Go.Proofs.YthkeonbmgcphkaaGreatDoor.PN
open Go.RowKit Go.Proofs.YthkeonbmgcphkaaGreatDoorW.PrintWords Go.Proofs.YthkeonbmgcphkaaGreatDoorW.PrintLast Go.Proofs.YthkeonbmgcphkaaGreatDoorW.PrintMore
attribute [local go_sem] max2_int min2_int max_two min_two max_three min_three max_four min_four
set_option linter.unusedVariables false
set_option maxHeartbeats 8000000
set_option maxRecDepth 100000
set_option linter.unusedSimpArgs false
def dB.l0 : Nat → ByteArray → List ByteArray → Int → Option (Bool)
 | 0, _, _, _ => none
 | k + 1, x0, x3, x4 => if x4 < (x3.length : Int) then (if 0 ≤ x4 then ((aX.f k (rdOf ByteArray.empty x3 x4)).bind fun t254 => (if t254 = true then (dB.l0 k x0 x3 (wrap64 (x4 + 1))) else (some false))) else (none)) else (some (decide ((x0.size : Int) ≤ 200)))
def dB.f (k : Nat) (a0 : ByteArray) : Option (Bool) := (strings_Split.f a0 (⟨#[47]⟩ : ByteArray)).bind fun t250 => (dB.l0 k a0 t250 0)
theorem dB.calls (k : Nat) (a0 : ByteArray) (r : Bool) (w : World) (hG : Tryz.GW w) (h : dB.f k a0 = some r) :
 Calls Tryz.prog 71 #[.string a0] w fun e w' => e = .returned (.bool r) ∧ Below w.heap.size w w' := by
 have HG := am_ hG
 clear hG
 have HB := am_ (Below.refl w.heap.size w)
 have H : ((strings_Split.f a0 (⟨#[47]⟩ : ByteArray)).bind fun t250 => (dB.l0 k a0 t250 0)) = some r := h
 clear h
 obtain ⟨t250, A2, H⟩ := bs_ H
 replace H := am_ H
 go_enter Tryz.func71, Tryz.ntmps71
 go_wp2_with (first | ((with_reducible refine gf_ 101 rfl ?_); refine gl_ (some 6) Tryz.func101 #[.string a0, .string (⟨#[47]⟩ : ByteArray)] ?_; refine (strings_Split.calls a0 (⟨#[47]⟩ : ByteArray) t250 _ (gw_ HG.out) A2.out).mono ?_; rintro e w3 ⟨v251, rfl, ho0, hb⟩; refine ⟨_, rfl, ?_⟩; have HO252 := am_ (Kd.R_lower ho0 (below_size bl_)); replace HB := bp_ hb; (try clear hb); (try clear ho0)))
 go_loopg [4] k (fun kq v4 w' => ∃ (x4_1 : Int), v4 = .int .i64 x4_1 ∧ Aside0 (dB.l0 kq a0 t250 x4_1 = some r) ∧ Aside0 (kq ≤ k) ∧ Aside0 (Kd.R Kd.string 9 w' w.heap.size (fun _ => True) v251 t250) ∧ Aside0 (Below w.heap.size w w'))
 case atStart => exact ⟨(0), ra_, H, ⟨Nat.le_refl _⟩, ⟨rr_ HO252⟩, ⟨bl_⟩⟩
 case round =>
  clear H
  try clear c1
  try clear p2
  obtain ⟨x4_1, rfl, HA, HK1, HO_3, HB⟩ := hrel
  cases gk with
  | zero => exact absurd HA.out (by simp [dB.l0])
  | succ k1 =>
   have H := HA.out
   clear HA
   simp only [dB.l0] at H
   by_cases c4 : x4_1 < (t250.length : Int)
   rotate_left
   · rw [if_neg c4] at H
     have c4b0 := decide_eq_false c4
     clear c4
     obtain rfl := sj_ H
     obtain ⟨Ao10, co10, eo10⟩ := Kd.R_slice HO_3.out
     subst eo10
     go_wp2
     go_ret
     exact ⟨er_, bl_⟩
   rw [if_pos c4] at H
   have c4b0 := decide_eq_true c4
   clear c4
   obtain ⟨c5b0, H⟩ := ifd_ H
   obtain ⟨t254, A6, H⟩ := bs_ H
   by_cases c7 : t254 = true
   · subst c7
     rw [if_pos rfl] at H
     replace H := am_ H
     obtain ⟨Ao8, co8, eo8⟩ := Kd.R_slice HO_3.out
     subst eo8
     have p253 := pt_ x4_1
     have q253 := qt_ x4_1 t250.length
     obtain ⟨ad253, e253, hx253_0⟩ := Kd.at_string (Kd.R_reads' HO_3.out).2.2 x4_1 (oe_ p253) (oe_ q253)
     cases e253
     go_wp2_with (first | ((with_reducible refine gf_ 70 rfl ?_); refine gl_ (some 17) Tryz.func70 #[.string (rdOf ByteArray.empty t250 x4_1)] ?_; refine (aX.calls k1 (rdOf ByteArray.empty t250 x4_1) true _ (gw_ HG.out) A6.out).mono ?_; rintro e w' ⟨rfl, ⟨nd, rfl⟩⟩; refine ⟨_, rfl, ?_⟩))
     go_roundg k1
     case measure => have := HK1.out; omega
     case rel => exact ⟨(wrap64 (x4_1 + 1)), ra_, H, ⟨by have := HK1.out; omega⟩, ⟨rr_ HO_3⟩, ⟨bl_⟩⟩
   obtain rfl := bf_ c7
   clear c7
   rw [if_neg ft_] at H
   obtain rfl := sj_ H
   obtain ⟨Ao9, co9, eo9⟩ := Kd.R_slice HO_3.out
   subst eo9
   have p253 := pt_ x4_1
   have q253 := qt_ x4_1 t250.length
   obtain ⟨ad253, e253, hx253_0⟩ := Kd.at_string (Kd.R_reads' HO_3.out).2.2 x4_1 (oe_ p253) (oe_ q253)
   cases e253
   go_wp2_with (first | ((with_reducible refine gf_ 70 rfl ?_); refine gl_ (some 17) Tryz.func70 #[.string (rdOf ByteArray.empty t250 x4_1)] ?_; refine (aX.calls k1 (rdOf ByteArray.empty t250 x4_1) false _ (gw_ HG.out) A6.out).mono ?_; rintro e w' ⟨rfl, ⟨nd, rfl⟩⟩; refine ⟨_, rfl, ?_⟩))
   go_ret
   exact ⟨er_, bl_⟩
def dJ.l0 : Nat → List ByteArray → ByteArray → Int → Option (Bool)
 | 0, _, _, _ => none
 | k + 1, x0, x1, x5 => if x5 < (x0.length : Int) then (if 0 ≤ x5 then (if (rdOf ByteArray.empty x0 x5).toList = x1.toList then (some true) else (dJ.l0 k x0 x1 (wrap64 (x5 + 1)))) else (none)) else (some false)
def dJ.f (k : Nat) (l0 : List ByteArray) (a1 : ByteArray) : Option (Bool) := dJ.l0 k l0 a1 0
theorem dJ.calls (k : Nat) (A0 : Option Addr) (c0 : Nat) (l0 : List ByteArray) (a1 : ByteArray) (r : Bool) (w : World) (hG : Tryz.GW w) (hr0 : Kd.C Kd.string w A0 l0.length l0) (hc0 : l0.length ≤ c0) (h : dJ.f k l0 a1 = some r) :
 Calls Tryz.prog 72 #[.slice A0 l0.length c0, .string a1] w fun e w' => e = .returned (.bool r) ∧ Drawn0 w w' := by
 have HR0 := am_ hr0
 have HC0 := am_ hc0
 clear hr0 hc0
 have HG := am_ hG
 clear hG
 have H : (dJ.l0 k l0 a1 0) = some r := h
 clear h
 replace H := am_ H
 go_enter Tryz.func72, Tryz.ntmps72
 go_wp2
 go_loopg [5] k (fun kq v5 w' => ∃ (x5_1 : Int), v5 = .int .i64 x5_1 ∧ Aside0 (dJ.l0 kq l0 a1 x5_1 = some r) ∧ Aside0 (kq ≤ k) ∧ Drawn0 w w')
 case atStart => exact ⟨(0), ra_, H, ⟨Nat.le_refl _⟩, dr_⟩
 case round =>
  clear H
  try clear p2
  obtain ⟨x5_1, rfl, HA, HK1, ⟨m1, rfl⟩⟩ := hrel
  cases gk with
  | zero => exact absurd HA.out (by simp [dJ.l0])
  | succ k1 =>
   have H := HA.out
   clear HA
   simp only [dJ.l0] at H
   by_cases c3 : x5_1 < (l0.length : Int)
   rotate_left
   · rw [if_neg c3] at H
     have c3b0 := decide_eq_false c3
     clear c3
     obtain rfl := sj_ H
     go_wp2
     go_ret
     exact ⟨ra_, dr_⟩
   rw [if_pos c3] at H
   have c3b0 := decide_eq_true c3
   clear c3
   obtain ⟨c4b0, H⟩ := ifd_ H
   by_cases c5 : (rdOf ByteArray.empty l0 x5_1).toList = a1.toList
   · rw [if_pos c5] at H
     have c5b0 : ((rdOf ByteArray.empty l0 x5_1).toList == a1.toList) = true := beq_iff_eq.mpr c5
     have c5b1 : ((rdOf ByteArray.empty l0 x5_1).toList != a1.toList) = false := bne_eq_false_iff_eq.mpr c5
     clear c5
     obtain rfl := sj_ H
     have p255 := pt_ x5_1
     have q255 := qt_ x5_1 l0.length
     obtain ⟨ad255, e255, hx255_0⟩ := Kd.at_string HR0.out x5_1 (oe_ p255) (oe_ q255)
     cases e255
     go_wp2
     go_ret
     exact ⟨ra_, dr_⟩
   rw [if_neg c5] at H
   have c5b0 : ((rdOf ByteArray.empty l0 x5_1).toList == a1.toList) = false := beq_eq_false_iff_ne.mpr c5
   have c5b1 : ((rdOf ByteArray.empty l0 x5_1).toList != a1.toList) = true := bne_iff_ne.mpr c5
   replace H := am_ H
   have p255 := pt_ x5_1
   have q255 := qt_ x5_1 l0.length
   obtain ⟨ad255, e255, hx255_0⟩ := Kd.at_string HR0.out x5_1 (oe_ p255) (oe_ q255)
   cases e255
   go_wp2
   go_roundg k1
   case measure => have := HK1.out; omega
   case rel => exact ⟨(wrap64 (x5_1 + 1)), ra_, H, ⟨by have := HK1.out; omega⟩, dr_⟩
end Go.Proofs.YthkeonbmgcphkaaGreatDoor.PN
namespace Go.Proofs.YthkeonbmgcphkaaGreatDoor.PN
open Go.RowKit Go.Proofs.YthkeonbmgcphkaaGreatDoorW.PrintWords Go.Proofs.YthkeonbmgcphkaaGreatDoorW.PrintLast Go.Proofs.YthkeonbmgcphkaaGreatDoorW.PrintMore
attribute [local go_sem] max2_int min2_int max_two min_two max_three min_three max_four min_four
set_option linter.unusedVariables false
set_option maxHeartbeats 8000000
set_option maxRecDepth 100000
set_option linter.unusedSimpArgs false
mutual
def aQ.l0 : Nat → List (S66) → Int → Int → ByteArray → List ByteArray → Int → Int → Option (Int)
 | 0, _, _, _, _, _, _, _ => none
 | k + 1, x0, x1, x6, x258000, x258001, x258002, x258003 => if x6 < (x258001.length : Int) then (if 0 ≤ x6 then ((dB.f k (rdOf ByteArray.empty x258001 x6)).bind fun t260 => (if t260 = true then (if x6 > 0 then (if 0 ≤ (wrap64 (x6 - 1)) then (if (wrap64 (x6 - 1)) < (x258001.length : Int) then (aQ.j1 k x0 x1 x6 (!(Op.bytesLess ((rdOf ByteArray.empty x258001 (wrap64 (x6 - 1))).toList) ((rdOf ByteArray.empty x258001 x6).toList))) x258000 x258001 x258002 x258003) else (none)) else (none)) else (aQ.j1 k x0 x1 x6 false x258000 x258001 x258002 x258003)) else (some 5))) else (none)) else ((bD.f x258002).bind fun t266 => (if t266 = true then ((bD.f x258003).bind fun t267 => (aQ.j3 k x0 x1 (!t267) x258000 x258001 x258002 x258003)) else (aQ.j3 k x0 x1 true x258000 x258001 x258002 x258003)))
def aQ.j1 : Nat → List (S66) → Int → Int → Bool → ByteArray → List ByteArray → Int → Int → Option (Int)
 | 0, _, _, _, _, _, _, _, _ => none
 | k + 1, x0, x1, x6, x49, x258000, x258001, x258002, x258003 => if x49 = true then (some 8) else (aQ.l1 k x0 x1 x6 0 x258000 x258001 x258002 x258003)
def aQ.l1 : Nat → List (S66) → Int → Int → Int → ByteArray → List ByteArray → Int → Int → Option (Int)
 | 0, _, _, _, _, _, _, _, _ => none
 | k + 1, x0, x1, x6, x7, x258000, x258001, x258002, x258003 => if x7 < x1 then (if 0 ≤ x7 then (if x7 < (x0.length : Int) then (if 0 ≤ x6 then (if x6 < (x258001.length : Int) then ((dJ.f k ((aV x0 x7).f1) (rdOf ByteArray.empty x258001 x6)).bind fun t265 => (if t265 = true then (some 7) else (aQ.l1 k x0 x1 x6 (wrap64 (x7 + 1)) x258000 x258001 x258002 x258003))) else (none)) else (none)) else (none)) else (none)) else (aQ.l0 k x0 x1 (wrap64 (x6 + 1)) x258000 x258001 x258002 x258003)
def aQ.j3 : Nat → List (S66) → Int → Bool → ByteArray → List ByteArray → Int → Int → Option (Int)
 | 0, _, _, _, _, _, _, _ => none
 | k + 1, x0, x1, x75, x258000, x258001, x258002, x258003 => if x75 = true then (some 1) else (if x1 > 0 then (if 0 ≤ (wrap64 (x1 - 1)) then (if (wrap64 (x1 - 1)) < (x0.length : Int) then (if ((Op.bytesLess (((aV x0 (wrap64 (x1 - 1))).f0).toList) x258000.toList) = true) then (some 0) else (some 8)) else (none)) else (none)) else (some 0))
end
def aQ.f (k : Nat) (l0 : List (S66)) (a1 : Int) : Option (Int) := if 0 ≤ a1 then (if a1 < (l0.length : Int) then ((aX.f k ((aV l0 a1).f0)).bind fun t258 => (if t258 = true then (if (((aV l0 a1).f1).length : Int) > 1000 then (some 2) else (aQ.l0 k l0 a1 0 ((aV l0 a1).f0) ((aV l0 a1).f1) ((aV l0 a1).f2) ((aV l0 a1).f3))) else (some 5))) else (none)) else (none)
theorem aQ.calls (k : Nat) (A0 : Option Addr) (c0 : Nat) (l0 : List (S66)) (a1 : Int) (r : Int) (w : World) (hG : Tryz.GW w) (hr0 : Kd.C k66 w A0 l0.length l0) (hc0 : l0.length ≤ c0) (h : aQ.f k l0 a1 = some r) :
 Calls Tryz.prog 39 #[.slice A0 l0.length c0, .int .i64 a1] w fun e w' => e = .returned (.int .i64 r) ∧ Below w.heap.size w w' := by
 have hu66 := Tryz.underlying66
 have HR0 := am_ hr0
 have HC0 := am_ hc0
 clear hr0 hc0
 have HG := am_ hG
 clear hG
 have HB := am_ (Below.refl w.heap.size w)
 have H : (if 0 ≤ a1 then (if a1 < (l0.length : Int) then ((aX.f k ((aV l0 a1).f0)).bind fun t258 => (if t258 = true then (if (((aV l0 a1).f1).length : Int) > 1000 then (some 2) else (aQ.l0 k l0 a1 0 ((aV l0 a1).f0) ((aV l0 a1).f1) ((aV l0 a1).f2) ((aV l0 a1).f3))) else (some 5))) else (none)) else (none)) = some r := h
 clear h
 obtain ⟨c3b0, H⟩ := ifd_ H
 obtain ⟨c4b0, H⟩ := ifd_ H
 obtain ⟨t258, A5, H⟩ := bs_ H
 by_cases c6 : t258 = true
 rotate_left
 · obtain rfl := bf_ c6
   clear c6
   rw [if_neg ft_] at H
   obtain rfl := sj_ H
   have p256 := pt_ a1
   have q256 := qt_ a1 l0.length
   obtain ⟨ad256, A256_1, c256_1, e256, hx256_0, hx256_1, hx256_2, hx256_3, hl256_1, hi256_1⟩ := iF HR0.out a1 (oe_ p256) (oe_ q256)
   cases e256
   have HR256_1 := am_ hi256_1
   have HC256_1 := am_ hl256_1
   clear hi256_1 hl256_1
   go_enter Tryz.func39, Tryz.ntmps39
   go_wp2_with (first | ((with_reducible refine gn_ 5 rfl ?_); refine bq_ (N := 5) (cs := #[.string (⟨#[]⟩ : ByteArray), .slice none 0 0, .int .i64 0, .int .i64 0]) (t := 66) ?_; intro gb257 hg w51 BK257 hb; have GW257 := ga_ w hg; have GE257 := GW257; replace HB := bp_ hb; clear hb hg; have bz52 := bc4_ BK257) | (go_at_call 70; refine (aX.calls k ((aV l0 a1).f0) false _ (gw_ HG.out) A5.out).mono ?_; rintro e w' ⟨rfl, ⟨nd, rfl⟩⟩; (try first | exact ⟨rfl, _, World.drewN_drewN _ _ _⟩ | exact ⟨rfl, _, Eq.trans (World.drewN_drewN _ _ _) (congrArg (World.drewN _) (Nat.add_assoc _ _ _))⟩)))
   repeat (go_quiet (fail); try go_wp2_with (fail))
   go_ret
   exact ⟨er_, bl_⟩
 subst c6
 rw [if_pos rfl] at H
 by_cases c7 : (((aV l0 a1).f1).length : Int) > 1000
 · rw [if_pos c7] at H
   have c7b0 : decide (1000 < (((aV l0 a1).f1).length : Int)) = true := decide_eq_true c7
   have c7b1 : decide (1000 < ((aV l0 a1).f1).length) = true := decide_eq_true (by omega)
   clear c7
   obtain rfl := sj_ H
   have p256 := pt_ a1
   have q256 := qt_ a1 l0.length
   obtain ⟨ad256, A256_1, c256_1, e256, hx256_0, hx256_1, hx256_2, hx256_3, hl256_1, hi256_1⟩ := iF HR0.out a1 (oe_ p256) (oe_ q256)
   cases e256
   have HR256_1 := am_ hi256_1
   have HC256_1 := am_ hl256_1
   clear hi256_1 hl256_1
   go_enter Tryz.func39, Tryz.ntmps39
   go_wp2_with (first | ((with_reducible refine gn_ 5 rfl ?_); refine bq_ (N := 5) (cs := #[.string (⟨#[]⟩ : ByteArray), .slice none 0 0, .int .i64 0, .int .i64 0]) (t := 66) ?_; intro gb257 hg w8 BK257 hb; have GW257 := ga_ w hg; have GE257 := GW257; replace HB := bp_ hb; clear hb hg; have bz9 := bc4_ BK257) | (go_at_call 70; refine (aX.calls k ((aV l0 a1).f0) true _ (gw_ HG.out) A5.out).mono ?_; rintro e w' ⟨rfl, ⟨nd, rfl⟩⟩; (try first | exact ⟨rfl, _, World.drewN_drewN _ _ _⟩ | exact ⟨rfl, _, Eq.trans (World.drewN_drewN _ _ _) (congrArg (World.drewN _) (Nat.add_assoc _ _ _))⟩)))
   repeat (go_quiet (fail); try go_wp2_with (fail))
   go_ret
   exact ⟨er_, bl_⟩
 rw [if_neg c7] at H
 have c7b0 : decide (1000 < (((aV l0 a1).f1).length : Int)) = false := decide_eq_false c7
 have c7b1 : decide (1000 < ((aV l0 a1).f1).length) = false := decide_eq_false (by omega)
 clear c7
 replace H := am_ H
 have p256 := pt_ a1
 have q256 := qt_ a1 l0.length
 obtain ⟨ad256, A256_1, c256_1, e256, hx256_0, hx256_1, hx256_2, hx256_3, hl256_1, hi256_1⟩ := iF HR0.out a1 (oe_ p256) (oe_ q256)
 cases e256
 have HR256_1 := am_ hi256_1
 have HC256_1 := am_ hl256_1
 clear hi256_1 hl256_1
 go_enter Tryz.func39, Tryz.ntmps39
 go_wp2_with (first | ((with_reducible refine gn_ 5 rfl ?_); refine bq_ (N := 5) (cs := #[.string (⟨#[]⟩ : ByteArray), .slice none 0 0, .int .i64 0, .int .i64 0]) (t := 66) ?_; intro gb257 hg w10 BK257 hb; have GW257 := ga_ w hg; have GE257 := GW257; replace HB := bp_ hb; clear hb hg; have bz11 := bc4_ BK257) | (go_at_call 70; refine (aX.calls k ((aV l0 a1).f0) true _ (gw_ HG.out) A5.out).mono ?_; rintro e w' ⟨rfl, ⟨nd, rfl⟩⟩; (try first | exact ⟨rfl, _, World.drewN_drewN _ _ _⟩ | exact ⟨rfl, _, Eq.trans (World.drewN_drewN _ _ _) (congrArg (World.drewN _) (Nat.add_assoc _ _ _))⟩)))
 repeat (go_quiet (fail); try go_wp2_with (fail))
 go_loopg [6] k (fun kq v6 w' => ∃ (x6_1 : Int), v6 = .int .i64 x6_1 ∧ Aside0 (aQ.l0 kq l0 a1 x6_1 ((aV l0 a1).f0) ((aV l0 a1).f1) ((aV l0 a1).f2) ((aV l0 a1).f3) = some r) ∧ Aside0 (kq ≤ k) ∧ Aside0 (w'.heap[gb257]? = some (.cells #[.string ((aV l0 a1).f0), (.slice A256_1 ((aV l0 a1).f1).length c256_1), .int .i64 ((aV l0 a1).f2), .int .i64 ((aV l0 a1).f3)] 66 (0, 0))) ∧ Aside0 (Below w.heap.size w w'))
 case atStart => exact ⟨(0), (by first | rfl | exact congrArg Value.bool (iD _ _) | (simp; done) | (simp [*]; done)), H, ⟨Nat.le_refl _⟩, ⟨by (with_reducible repeat (first | refine blk_drewN ?_ _ | refine blk_drew ?_ | refine blk_alloc ?_ _)); refine blk_put (cs := #[.string ((aV l0 a1).f0), .slice A256_1 ((aV l0 a1).f1).length c256_1, .int .i64 ((aV l0 a1).f2), .int .i64 0]) ?_ 3 _ rfl; (with_reducible repeat (first | refine blk_drewN ?_ _ | refine blk_drew ?_ | refine blk_alloc ?_ _)); refine blk_put (cs := #[.string ((aV l0 a1).f0), .slice A256_1 ((aV l0 a1).f1).length c256_1, .int .i64 0, .int .i64 0]) ?_ 2 _ rfl; (with_reducible repeat (first | refine blk_drewN ?_ _ | refine blk_drew ?_ | refine blk_alloc ?_ _)); refine blk_put (cs := #[.string ((aV l0 a1).f0), .slice none 0 0, .int .i64 0, .int .i64 0]) ?_ 1 _ rfl; (with_reducible repeat (first | refine blk_drewN ?_ _ | refine blk_drew ?_ | refine blk_alloc ?_ _)); refine blk_put (cs := #[.string (⟨#[]⟩ : ByteArray), .slice none 0 0, .int .i64 0, .int .i64 0]) ?_ 0 _ rfl; (with_reducible repeat (first | refine blk_drewN ?_ _ | refine blk_drew ?_ | refine blk_alloc ?_ _)); exact BK257.out⟩, ⟨bl_⟩⟩
 case round =>
  clear H
  try clear c2
  try clear p2
  try clear q2
  try clear hx2
  try clear c3
  try clear c3b0
  try clear c4
  try clear c4b0
  try clear c6
  try clear c7
  try clear c7b0
  try clear c7b1
  try clear bz11
  try clear bz9
  try clear hx256_0
  try clear hx256_1
  try clear hx256_2
  try clear hx256_3
  try clear p256
  try clear q256
  obtain ⟨x6_1, rfl, HA, HK1, BK257, HB⟩ := hrel
  cases gk with
  | zero => exact absurd HA.out (by simp [aQ.l0])
  | succ k1 =>
   have H := HA.out
   clear HA
   simp only [aQ.l0] at H
   by_cases c12 : x6_1 < (((aV l0 a1).f1).length : Int)
   rotate_left
   · rw [if_neg c12] at H
     have c12b0 := decide_eq_false c12
     clear c12
     have HC36 := am_ H
     clear H
     have bz37 := bc4_ BK257
     go_upto_region 18 with (fail)
     repeat (go_quiet (fail); go_upto_region 18 with (fail))
     go_cut [75] (fun v75 wc => ∃ (kq : Nat) (x75_35 : Bool), v75 = .bool x75_35 ∧ Aside0 (aQ.j3 kq l0 a1 x75_35 ((aV l0 a1).f0) ((aV l0 a1).f1) ((aV l0 a1).f2) ((aV l0 a1).f3) = some r) ∧ Aside0 (kq ≤ k1) ∧ Aside0 (wc.heap[gb257]? = some (.cells #[.string ((aV l0 a1).f0), (.slice A256_1 ((aV l0 a1).f1).length c256_1), .int .i64 ((aV l0 a1).f2), .int .i64 ((aV l0 a1).f3)] 66 (0, 0))) ∧ Aside0 (Below w.heap.size w wc))
     case first =>
      have H := HC36.out
      clear HC36
      obtain ⟨t266, A38, H⟩ := bs_ H
      by_cases c39 : t266 = true
      · subst c39
        rw [if_pos rfl] at H
        obtain ⟨t267, A40, H⟩ := bs_ H
        replace H := am_ H
        have bz41 := bc4_ BK257
        go_wp2_with (first | (go_at_call 38; refine (bD.calls ((aV l0 a1).f2) true _ (gw_ HG.out) A38.out).mono ?_; rintro e w' ⟨rfl, ⟨nd, rfl⟩⟩; (try first | exact ⟨rfl, _, World.drewN_drewN _ _ _⟩ | exact ⟨rfl, _, Eq.trans (World.drewN_drewN _ _ _) (congrArg (World.drewN _) (Nat.add_assoc _ _ _))⟩)) | (go_at_call 38; refine (bD.calls ((aV l0 a1).f3) t267 _ (gw_ HG.out) A40.out).mono ?_; rintro e w' ⟨rfl, ⟨nd, rfl⟩⟩; (try first | exact ⟨rfl, _, World.drewN_drewN _ _ _⟩ | exact ⟨rfl, _, Eq.trans (World.drewN_drewN _ _ _) (congrArg (World.drewN _) (Nat.add_assoc _ _ _))⟩)))
        repeat (go_quiet (fail); try go_wp2_with (fail))
        go_meet
        case rel => exact ⟨_, (!t267), (by first | rfl | exact congrArg Value.bool (iD _ _) | (simp; done) | (simp [*]; done)), H, ⟨by have := HK1.out; first | omega | exact Nat.le_refl _⟩, ⟨bk_ BK257⟩, ⟨bl_⟩⟩
      obtain rfl := bf_ c39
      clear c39
      rw [if_neg ft_] at H
      replace H := am_ H
      have bz42 := bc4_ BK257
      go_wp2_with (first | (go_at_call 38; refine (bD.calls ((aV l0 a1).f2) false _ (gw_ HG.out) A38.out).mono ?_; rintro e w' ⟨rfl, ⟨nd, rfl⟩⟩; (try first | exact ⟨rfl, _, World.drewN_drewN _ _ _⟩ | exact ⟨rfl, _, Eq.trans (World.drewN_drewN _ _ _) (congrArg (World.drewN _) (Nat.add_assoc _ _ _))⟩)))
      repeat (go_quiet (fail); try go_wp2_with (fail))
      go_meet
      case rel => exact ⟨_, (true), (by first | rfl | exact congrArg Value.bool (iD _ _) | (simp; done) | (simp [*]; done)), H, ⟨by have := HK1.out; first | omega | exact Nat.le_refl _⟩, ⟨bk_ BK257⟩, ⟨bl_⟩⟩
     case rest =>
      clear HC36
      try clear c1
      try clear c2
      try clear p2
      try clear q2
      try clear hx2
      try clear c3
      try clear c3b0
      try clear c4
      try clear c4b0
      try clear c6
      try clear p6
      try clear c7
      try clear c7b0
      try clear c7b1
      try clear c12
      try clear c12b0
      try clear c13
      try clear c13b0
      try clear c15
      try clear c19
      try clear c19b0
      try clear c21
      try clear c21b0
      try clear c22
      try clear c22b0
      try clear c24
      try clear c25
      try clear c25b0
      try clear p25
      try clear q25
      try clear hx25
      try clear c26
      try clear c26b0
      try clear p26
      try clear q26
      try clear hx26
      try clear c27
      try clear c27b0
      try clear c28
      try clear c28b0
      try clear c29
      try clear c29b0
      try clear c31
      try clear c39
      try clear bz11
      try clear bz17
      try clear bz23
      try clear bz32
      try clear bz33
      try clear bz34
      try clear bz37
      try clear bz41
      try clear bz42
      try clear bz9
      try clear hx256_0
      try clear hx256_1
      try clear hx256_2
      try clear hx256_3
      try clear hx259_0
      try clear hx261_0
      try clear hx262_0
      try clear hx263_0
      try clear hx263_1
      try clear hx263_2
      try clear hx263_3
      try clear hx264_0
      try clear p2
      try clear p256
      try clear p259
      try clear p261
      try clear p262
      try clear p263
      try clear p264
      try clear p6
      try clear q2
      try clear q256
      try clear q259
      try clear q261
      try clear q262
      try clear q263
      try clear q264
      obtain ⟨kq, x75_35, rfl, HA, HJ35, BK257, HB⟩ := hcut
      cases kq with
      | zero => exact absurd HA.out (by simp [aQ.j3])
      | succ kj35 =>
       have H := HA.out
       clear HA
       simp only [aQ.j3] at H
       by_cases c43 : x75_35 = true
       · subst c43
         rw [if_pos rfl] at H
         obtain rfl := sj_ H
         go_wp2
         repeat (go_quiet (fail); try go_wp2)
         go_ret
         exact ⟨er_, bl_⟩
       obtain rfl := bf_ c43
       clear c43
       rw [if_neg ft_] at H
       by_cases c44 : a1 > 0
       rotate_left
       · rw [if_neg c44] at H
         have c44b0 : decide (0 < a1) = false := decide_eq_false c44
         clear c44
         obtain rfl := sj_ H
         go_wp2
         repeat (go_quiet (fail); try go_wp2)
         go_ret
         exact ⟨er_, bl_⟩
       rw [if_pos c44] at H
       have c44b0 : decide (0 < a1) = true := decide_eq_true c44
       clear c44
       obtain ⟨ji45, hji45⟩ : ∃ j_ : Int, (wrap64 (a1 - 1)) = j_ := ⟨_, rfl⟩
       first | rw [hji45] at H | simp only [hji45] at H
       have hji45w : (IntKind.i64.wrap (a1 - 1)) = ji45 := (i64_w _).trans hji45
       obtain ⟨c46b0, H⟩ := ifd_ H
       obtain ⟨c47b0, H⟩ := ifd_ H
       have le_ := iD
       by_cases c48 : ((Op.bytesLess (((aV l0 (ji45)).f0).toList) ((aV l0 a1).f0).toList) = true)
       · rw [if_pos c48] at H
         have c48b0 : (Op.bytesLess (((aV l0 (ji45)).f0).toList) ((aV l0 a1).f0).toList) = true := c48
         clear c48
         obtain rfl := sj_ H
         have bz49 := bc4_ BK257
         have p268 := pt_ (ji45)
         have q268 := qt_ (ji45) l0.length
         obtain ⟨ad268, A268_1, c268_1, e268, hx268_0, hx268_1, hx268_2, hx268_3, hl268_1, hi268_1⟩ := iF HR0.out (ji45) (oe_ p268) (oe_ q268)
         obtain rfl : ad256 = ad268 := (by injection e268)
         replace hx268_0 := ce_ HB hx268_0
         replace hx268_1 := ce_ HB hx268_1
         replace hx268_2 := ce_ HB hx268_2
         replace hx268_3 := ce_ HB hx268_3
         have HR268_1 := am_ hi268_1
         have HC268_1 := am_ hl268_1
         clear hi268_1 hl268_1
         go_wp2
         repeat (go_quiet (fail); try go_wp2)
         go_ret
         exact ⟨by first | rfl | (simp [dO, dQ] <;> rfl) | (simp only [← hji45]; first | rfl | (simp [dO, dQ] <;> rfl)) | (simp [*, dO, dQ] <;> rfl), bl_⟩
       rw [if_neg c48] at H
       have c48b0 : (Op.bytesLess (((aV l0 (ji45)).f0).toList) ((aV l0 a1).f0).toList) = false := by simpa using c48
       clear c48
       obtain rfl := sj_ H
       have bz50 := bc4_ BK257
       have p268 := pt_ (ji45)
       have q268 := qt_ (ji45) l0.length
       obtain ⟨ad268, A268_1, c268_1, e268, hx268_0, hx268_1, hx268_2, hx268_3, hl268_1, hi268_1⟩ := iF HR0.out (ji45) (oe_ p268) (oe_ q268)
       obtain rfl : ad256 = ad268 := (by injection e268)
       replace hx268_0 := ce_ HB hx268_0
       replace hx268_1 := ce_ HB hx268_1
       replace hx268_2 := ce_ HB hx268_2
       replace hx268_3 := ce_ HB hx268_3
       have HR268_1 := am_ hi268_1
       have HC268_1 := am_ hl268_1
       clear hi268_1 hl268_1
       go_wp2
       repeat (go_quiet (fail); try go_wp2)
       go_ret
       exact ⟨by first | rfl | (simp [dO, dQ] <;> rfl) | (simp only [← hji45]; first | rfl | (simp [dO, dQ] <;> rfl)) | (simp [*, dO, dQ] <;> rfl), bl_⟩
   rw [if_pos c12] at H
   have c12b0 := decide_eq_true c12
   clear c12
   obtain ⟨c13b0, H⟩ := ifd_ H
   obtain ⟨t260, A14, H⟩ := bs_ H
   by_cases c15 : t260 = true
   rotate_left
   · obtain rfl := bf_ c15
     clear c15
     rw [if_neg ft_] at H
     obtain rfl := sj_ H
     have bz34 := bc4_ BK257
     have p259 := pt_ x6_1
     have q259 : x6_1 < (((aV l0 a1).f1).length : Int) := dt_
     obtain ⟨ad259, e259, hx259_0⟩ := Kd.at_string HR256_1.out x6_1 (oe_ p259) q259
     cases e259
     replace hx259_0 := ce_ HB hx259_0
     replace q259 := eq_true q259
     go_wp2_with (first | (go_at_call 71; refine (dB.calls k1 (rdOf ByteArray.empty ((aV l0 a1).f1) x6_1) false _ (gw_ HG.out) A14.out).mono ?_; rintro e w35 ⟨rfl, hb⟩; replace BK257 := bb_ BK257 hb; replace HB := bp_ hb; (try clear hb)))
     repeat (go_quiet (fail); try go_wp2_with (fail))
     go_ret
     exact ⟨er_, bl_⟩
   subst c15
   rw [if_pos rfl] at H
   have HC16 := am_ H
   clear H
   have bz17 := bc4_ BK257
   have p259 := pt_ x6_1
   have q259 : x6_1 < (((aV l0 a1).f1).length : Int) := dt_
   obtain ⟨ad259, e259, hx259_0⟩ := Kd.at_string HR256_1.out x6_1 (oe_ p259) q259
   cases e259
   replace hx259_0 := ce_ HB hx259_0
   replace q259 := eq_true q259
   go_upto_region 11 with (first | (go_at_call 71; refine (dB.calls k1 (rdOf ByteArray.empty ((aV l0 a1).f1) x6_1) true _ (gw_ HG.out) A14.out).mono ?_; rintro e w18 ⟨rfl, hb⟩; replace BK257 := bb_ BK257 hb; replace HB := bp_ hb; (try clear hb)))
   repeat (go_quiet (fail); go_upto_region 11 with (fail))
   (try simp only [Act.put, List.setIfInBounds_toArray, List.set_cons_zero, List.set_cons_succ])
   go_cut [49] (fun v49 wc => ∃ (kq : Nat) (x49_15 : Bool), v49 = .bool x49_15 ∧ Aside0 (aQ.j1 kq l0 a1 x6_1 x49_15 ((aV l0 a1).f0) ((aV l0 a1).f1) ((aV l0 a1).f2) ((aV l0 a1).f3) = some r) ∧ Aside0 (kq ≤ k1) ∧ Aside0 (wc.heap[gb257]? = some (.cells #[.string ((aV l0 a1).f0), (.slice (some ad259) ((aV l0 a1).f1).length c256_1), .int .i64 ((aV l0 a1).f2), .int .i64 ((aV l0 a1).f3)] 66 (0, 0))) ∧ Aside0 (Below w.heap.size w wc))
   case first =>
    have H := HC16.out
    clear HC16
    by_cases c19 : x6_1 > 0
    rotate_left
    · rw [if_neg c19] at H
      have c19b0 : decide (0 < x6_1) = false := decide_eq_false c19
      clear c19
      (first | rw [c19b0] | (simp only [i64_w, i32_w]; rw [c19b0]) | skip)
      replace H := am_ H
      go_wp2
      repeat (go_quiet (fail); try go_wp2)
      go_meet
      case rel => exact ⟨_, (false), (by first | rfl | exact congrArg Value.bool (iD _ _) | (simp; done) | (simp [*]; done)), H, ⟨by have := HK1.out; first | omega | exact Nat.le_refl _⟩, ⟨bk_ BK257⟩, ⟨bl_⟩⟩
    rw [if_pos c19] at H
    have c19b0 : decide (0 < x6_1) = true := decide_eq_true c19
    clear c19
    (first | rw [c19b0] | (simp only [i64_w, i32_w]; rw [c19b0]) | skip)
    obtain ⟨ji20, hji20⟩ : ∃ j_ : Int, (wrap64 (x6_1 - 1)) = j_ := ⟨_, rfl⟩
    first | rw [hji20] at H | simp only [hji20] at H
    have hji20w : (IntKind.i64.wrap (x6_1 - 1)) = ji20 := (i64_w _).trans hji20
    obtain ⟨c21b0, H⟩ := ifd_ H
    obtain ⟨c22b0, H⟩ := ifd_ H
    replace H := am_ H
    have bz23 := bc4_ BK257
    have p261 := pt_ x6_1
    have q261 : x6_1 < (((aV l0 a1).f1).length : Int) := dt_
    obtain ⟨ad261, e261, hx261_0⟩ := Kd.at_string HR256_1.out x6_1 (oe_ p261) q261
    obtain rfl : ad259 = ad261 := (by injection e261)
    replace hx261_0 := ce_ HB hx261_0
    replace q261 := eq_true q261
    have p262 := pt_ (ji20)
    have q262 : (ji20) < (((aV l0 a1).f1).length : Int) := dt_
    obtain ⟨ad262, e262, hx262_0⟩ := Kd.at_string HR256_1.out (ji20) (oe_ p262) q262
    obtain rfl : ad259 = ad262 := (by injection e262)
    replace hx262_0 := ce_ HB hx262_0
    replace q262 := eq_true q262
    go_wp2
    repeat (go_quiet (fail); try go_wp2)
    go_meet
    case rel => exact ⟨_, (!(Op.bytesLess ((rdOf ByteArray.empty ((aV l0 a1).f1) (ji20)).toList) ((rdOf ByteArray.empty ((aV l0 a1).f1) x6_1).toList))), (by first | rfl | exact congrArg Value.bool (iD _ _) | (simp; done) | (simp only [← hji20] <;> (first | rfl | simp)) | (simp [*]; done)), H, ⟨by have := HK1.out; first | omega | exact Nat.le_refl _⟩, ⟨bk_ BK257⟩, ⟨bl_⟩⟩
   case rest =>
    clear HC16
    try clear c1
    try clear c2
    try clear p2
    try clear q2
    try clear hx2
    try clear c3
    try clear c3b0
    try clear c4
    try clear c4b0
    try clear c6
    try clear p6
    try clear c7
    try clear c7b0
    try clear c7b1
    try clear c12
    try clear c12b0
    try clear c13
    try clear c13b0
    try clear c15
    try clear c19
    try clear c19b0
    try clear c21
    try clear c21b0
    try clear c22
    try clear c22b0
    try clear bz11
    try clear bz17
    try clear bz23
    try clear bz9
    try clear hx256_0
    try clear hx256_1
    try clear hx256_2
    try clear hx256_3
    try clear hx259_0
    try clear hx261_0
    try clear hx262_0
    try clear p2
    try clear p256
    try clear p259
    try clear p261
    try clear p262
    try clear q2
    try clear q256
    try clear q259
    try clear q261
    try clear q262
    obtain ⟨kq, x49_15, rfl, HA, HJ15, BK257, HB⟩ := hcut
    cases kq with
    | zero => exact absurd HA.out (by simp [aQ.j1])
    | succ kj15 =>
     have H := HA.out
     clear HA
     simp only [aQ.j1] at H
     by_cases c24 : x49_15 = true
     · subst c24
       rw [if_pos rfl] at H
       obtain rfl := sj_ H
       go_wp2
       repeat (go_quiet (fail); try go_wp2)
       go_ret
       exact ⟨er_, bl_⟩
     obtain rfl := bf_ c24
     clear c24
     rw [if_neg ft_] at H
     replace H := am_ H
     go_wp2
     repeat (go_quiet (fail); try go_wp2)
     go_loopg [7] kj15 (fun kq v7 w' => ∃ (x7_3 : Int), v7 = .int .i64 x7_3 ∧ Aside0 (aQ.l1 kq l0 a1 x6_1 x7_3 ((aV l0 a1).f0) ((aV l0 a1).f1) ((aV l0 a1).f2) ((aV l0 a1).f3) = some r) ∧ Aside0 (kq ≤ kj15) ∧ Aside0 (w'.heap[gb257]? = some (.cells #[.string ((aV l0 a1).f0), (.slice (some ad259) ((aV l0 a1).f1).length c256_1), .int .i64 ((aV l0 a1).f2), .int .i64 ((aV l0 a1).f3)] 66 (0, 0))) ∧ Aside0 (Below w.heap.size w w'))
     case atStart => exact ⟨(0), (by first | rfl | exact congrArg Value.bool (iD _ _) | (simp; done) | (simp [*]; done)), H, ⟨Nat.le_refl _⟩, ⟨bk_ BK257⟩, ⟨bl_⟩⟩
     case round =>
      clear H
      try clear c1
      try clear c2
      try clear p2
      try clear q2
      try clear hx2
      try clear c3
      try clear c3b0
      try clear c4
      try clear c4b0
      try clear c6
      try clear p6
      try clear c7
      try clear c7b0
      try clear c7b1
      try clear c12
      try clear c12b0
      try clear c13
      try clear c13b0
      try clear c15
      try clear c19
      try clear c19b0
      try clear c21
      try clear c21b0
      try clear c22
      try clear c22b0
      try clear c24
      try clear bz11
      try clear bz17
      try clear bz23
      try clear bz9
      try clear hx256_0
      try clear hx256_1
      try clear hx256_2
      try clear hx256_3
      try clear hx259_0
      try clear hx261_0
      try clear hx262_0
      try clear p2
      try clear p256
      try clear p259
      try clear p261
      try clear p262
      try clear p6
      try clear q2
      try clear q256
      try clear q259
      try clear q261
      try clear q262
      obtain ⟨x7_3, rfl, HA, HK3, BK257, HB⟩ := hrel
      cases gk with
      | zero => exact absurd HA.out (by simp [aQ.l1])
      | succ k3 =>
       have H := HA.out
       clear HA
       simp only [aQ.l1] at H
       by_cases c25 : x7_3 < a1
       rotate_left
       · rw [if_neg c25] at H
         have c25b0 := decide_eq_false c25
         clear c25
         replace H := am_ H
         go_wp2
         repeat (go_quiet (fail); try go_wp2)
         go_roundg k3
         case measure => have := HK1.out; have := HJ15.out; have := HK3.out; omega
         case rel => exact ⟨(wrap64 (x6_1 + 1)), (by first | rfl | exact congrArg Value.bool (iD _ _) | (simp; done) | (simp [*]; done)), H, ⟨by have := HK1.out; have := HJ15.out; have := HK3.out; omega⟩, ⟨bk_ BK257⟩, ⟨bl_⟩⟩
       rw [if_pos c25] at H
       have c25b0 := decide_eq_true c25
       clear c25
       obtain ⟨c26b0, H⟩ := ifd_ H
       obtain ⟨c27b0, H⟩ := ifd_ H
       obtain ⟨c28b0, H⟩ := ifd_ H
       obtain ⟨c29b0, H⟩ := ifd_ H
       obtain ⟨t265, A30, H⟩ := bs_ H
       by_cases c31 : t265 = true
       · subst c31
         rw [if_pos rfl] at H
         obtain rfl := sj_ H
         have p263 := pt_ x7_3
         have q263 := qt_ x7_3 l0.length
         obtain ⟨ad263, A263_1, c263_1, e263, hx263_0, hx263_1, hx263_2, hx263_3, hl263_1, hi263_1⟩ := iF HR0.out x7_3 (oe_ p263) (oe_ q263)
         obtain rfl : ad256 = ad263 := (by injection e263)
         replace hx263_0 := ce_ HB hx263_0
         replace hx263_1 := ce_ HB hx263_1
         replace hx263_2 := ce_ HB hx263_2
         replace hx263_3 := ce_ HB hx263_3
         have HR263_1 := am_ hi263_1
         have HC263_1 := am_ hl263_1
         clear hi263_1 hl263_1
         have bz32 := bc4_ BK257
         have p264 := pt_ x6_1
         have q264 : x6_1 < (((aV l0 a1).f1).length : Int) := dt_
         obtain ⟨ad264, e264, hx264_0⟩ := Kd.at_string HR256_1.out x6_1 (oe_ p264) q264
         obtain rfl : ad259 = ad264 := (by injection e264)
         replace hx264_0 := ce_ HB hx264_0
         replace q264 := eq_true q264
         go_wp2_with (fail)
         repeat (go_quiet (first | (go_at_call 72; refine (dJ.calls k3 _ _ ((aV l0 x7_3).f1) (rdOf ByteArray.empty ((aV l0 a1).f1) x6_1) true _ (gw_ HG.out) (cb_ (Kd.C_below HR263_1.out HB.out)) HC263_1.out A30.out).mono ?_; rintro e w' ⟨rfl, ⟨nd, rfl⟩⟩; (try first | exact ⟨rfl, _, World.drewN_drewN _ _ _⟩ | exact ⟨rfl, _, Eq.trans (World.drewN_drewN _ _ _) (congrArg (World.drewN _) (Nat.add_assoc _ _ _))⟩))); try go_wp2_with (fail))
         go_ret
         exact ⟨er_, bl_⟩
       obtain rfl := bf_ c31
       clear c31
       rw [if_neg ft_] at H
       replace H := am_ H
       have p263 := pt_ x7_3
       have q263 := qt_ x7_3 l0.length
       obtain ⟨ad263, A263_1, c263_1, e263, hx263_0, hx263_1, hx263_2, hx263_3, hl263_1, hi263_1⟩ := iF HR0.out x7_3 (oe_ p263) (oe_ q263)
       obtain rfl : ad256 = ad263 := (by injection e263)
       replace hx263_0 := ce_ HB hx263_0
       replace hx263_1 := ce_ HB hx263_1
       replace hx263_2 := ce_ HB hx263_2
       replace hx263_3 := ce_ HB hx263_3
       have HR263_1 := am_ hi263_1
       have HC263_1 := am_ hl263_1
       clear hi263_1 hl263_1
       have bz33 := bc4_ BK257
       have p264 := pt_ x6_1
       have q264 : x6_1 < (((aV l0 a1).f1).length : Int) := dt_
       obtain ⟨ad264, e264, hx264_0⟩ := Kd.at_string HR256_1.out x6_1 (oe_ p264) q264
       obtain rfl : ad259 = ad264 := (by injection e264)
       replace hx264_0 := ce_ HB hx264_0
       replace q264 := eq_true q264
       go_wp2_with (fail)
       repeat (go_quiet (first | (go_at_call 72; refine (dJ.calls k3 _ _ ((aV l0 x7_3).f1) (rdOf ByteArray.empty ((aV l0 a1).f1) x6_1) false _ (gw_ HG.out) (cb_ (Kd.C_below HR263_1.out HB.out)) HC263_1.out A30.out).mono ?_; rintro e w' ⟨rfl, ⟨nd, rfl⟩⟩; (try first | exact ⟨rfl, _, World.drewN_drewN _ _ _⟩ | exact ⟨rfl, _, Eq.trans (World.drewN_drewN _ _ _) (congrArg (World.drewN _) (Nat.add_assoc _ _ _))⟩))); try go_wp2_with (fail))
       go_roundg k3
       case measure => have := HK1.out; have := HJ15.out; have := HK3.out; omega
       case rel => exact ⟨(wrap64 (x7_3 + 1)), (by first | rfl | exact congrArg Value.bool (iD _ _) | (simp; done) | (simp [*]; done)), H, ⟨by have := HK1.out; have := HJ15.out; have := HK3.out; omega⟩, ⟨bk_ BK257⟩, ⟨bl_⟩⟩
end Go.Proofs.YthkeonbmgcphkaaGreatDoor.PN
