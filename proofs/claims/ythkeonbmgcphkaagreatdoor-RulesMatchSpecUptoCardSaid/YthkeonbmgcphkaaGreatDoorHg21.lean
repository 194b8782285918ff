import Derived.Test.YthkeonbmgcphkaaGreatDoorHg6
import Derived.Test.YthkeonbmgcphkaaGreatDoorHg13
namespace Go.Proofs.YthkeonbmgcphkaaGreatDoor.PM
open Go.RowKit Go.Proofs.YthkeonbmgcphkaaGreatDoorW.PrintWords Go.Proofs.YthkeonbmgcphkaaGreatDoorW.PrintLast Go.Proofs.YthkeonbmgcphkaaGreatDoorW.PrintMore
attribute [local go_sem] max2_int min2_int max_two min_two max_three min_three max_four min_four
set_option linter.unusedVariables false
set_option maxHeartbeats 8000000
set_option maxRecDepth 100000
set_option linter.unusedSimpArgs false
attribute [local go_sem high] eqA44
def dA.l0 : Nat → List (S44) → List (S44) → Int → Option (Bool)
 | 0, _, _, _ => none
 | k + 1, x0, x1, x5 => if x5 < (x0.length : Int) then (if 0 ≤ x5 then (if x5 < (x1.length : Int) then (if (!(((aI x0 x5).f0) == ((aI x1 x5).f0)) || (!(((aI x0 x5).f1) == ((aI x1 x5).f1)) || (!(((aI x0 x5).f2) == ((aI x1 x5).f2)) || (!(((aI x0 x5).f3) == ((aI x1 x5).f3)))))) = true then (some false) else (dA.l0 k x0 x1 (wrap64 (x5 + 1)))) else (none)) else (none)) else (some true)
def dA.f (k : Nat) (l0 : List (S44)) (l1 : List (S44)) : Option (Bool) := if (l0.length : Int) = (l1.length : Int) then (dA.l0 k l0 l1 0) else (some false)
theorem dA.calls (k : Nat) (A0 : Option Addr) (c0 : Nat) (l0 : List (S44)) (A1 : Option Addr) (c1 : Nat) (l1 : List (S44)) (r : Bool) (w : World) (hG : Tryz.GW w) (hr0 : Kd.C k44 w A0 l0.length l0) (hc0 : l0.length ≤ c0) (hr1 : Kd.C k44 w A1 l1.length l1) (hc1 : l1.length ≤ c1) (h : dA.f k l0 l1 = some r) :
 Calls Tryz.prog 60 #[.slice A0 l0.length c0, .slice A1 l1.length c1] w fun e w' => e = .returned (.bool r) ∧ Drawn0 w w' := by
 have hu44 := Tryz.underlying44
 have HR0 := am_ hr0
 have HC0 := am_ hc0
 clear hr0 hc0
 have HR1 := am_ hr1
 have HC1 := am_ hc1
 clear hr1 hc1
 have HG := am_ hG
 clear hG
 have H : (if (l0.length : Int) = (l1.length : Int) then (dA.l0 k l0 l1 0) else (some false)) = some r := h
 clear h
 by_cases c3 : (l0.length : Int) = (l1.length : Int)
 rotate_left
 · rw [if_neg c3] at H
   have c3b0 : ((l0.length : Int) == (l1.length : Int)) = false := beq_eq_false_iff_ne.mpr c3
   have c3b1 : ((l0.length : Int) != (l1.length : Int)) = true := bne_iff_ne.mpr c3
   have c3b2 : (l0.length == l1.length) = false := by first | simpa using c3 | (simp at c3 ⊢; omega)
   obtain rfl := sj_ H
   go_enter Tryz.func60, Tryz.ntmps60
   go_wp2
   repeat (go_quiet (fail); try go_wp2)
   go_ret
   exact ⟨ra_, dr_⟩
 rw [if_pos c3] at H
 have c3b0 : ((l0.length : Int) == (l1.length : Int)) = true := beq_iff_eq.mpr c3
 have c3b1 : ((l0.length : Int) != (l1.length : Int)) = false := bne_eq_false_iff_eq.mpr c3
 have c3b2 : (l0.length == l1.length) = true := by first | simpa using c3 | (simp at c3 ⊢; omega)
 clear c3
 replace H := am_ H
 go_enter Tryz.func60, Tryz.ntmps60
 go_wp2
 repeat (go_quiet (fail); try go_wp2)
 go_loopg [5] k (fun kq v5 w' => ∃ (x5_1 : Int), v5 = .int .i64 x5_1 ∧ Aside0 (dA.l0 kq l0 l1 x5_1 = some r) ∧ Aside0 (kq ≤ k) ∧ Drawn0 w w')
 case atStart => exact ⟨(0), ra_, H, ⟨Nat.le_refl _⟩, dr_⟩
 case round =>
  clear H
  try clear c1
  try clear p2
  try clear c3
  try clear c3b0
  try clear c3b1
  try clear c3b2
  obtain ⟨x5_1, rfl, HA, HK1, ⟨m1, rfl⟩⟩ := hrel
  cases gk with
  | zero => exact absurd HA.out (by simp [dA.l0])
  | succ k1 =>
   have H := HA.out
   clear HA
   simp only [dA.l0] at H
   by_cases c4 : x5_1 < (l0.length : Int)
   rotate_left
   · rw [if_neg c4] at H
     have c4b0 := decide_eq_false c4
     clear c4
     obtain rfl := sj_ H
     go_wp2
     repeat (go_quiet (fail); try go_wp2)
     go_ret
     exact ⟨ra_, dr_⟩
   rw [if_pos c4] at H
   have c4b0 := decide_eq_true c4
   clear c4
   obtain ⟨c5b0, H⟩ := ifd_ H
   obtain ⟨c6b0, H⟩ := ifd_ H
   by_cases c7 : (!(((aI l0 x5_1).f0) == ((aI l1 x5_1).f0)) || (!(((aI l0 x5_1).f1) == ((aI l1 x5_1).f1)) || (!(((aI l0 x5_1).f2) == ((aI l1 x5_1).f2)) || (!(((aI l0 x5_1).f3) == ((aI l1 x5_1).f3)))))) = true
   · rw [if_pos c7] at H
     have c7b0 : (!(((aI l0 x5_1).f0) == ((aI l1 x5_1).f0)) || (!(((aI l0 x5_1).f1) == ((aI l1 x5_1).f1)) || (!(((aI l0 x5_1).f2) == ((aI l1 x5_1).f2)) || (!(((aI l0 x5_1).f3) == ((aI l1 x5_1).f3)))))) = true := c7
     clear c7
     obtain rfl := sj_ H
     have p225 := pt_ x5_1
     have q225 := qt_ x5_1 l0.length
     obtain ⟨ad225, e225, hx225_0, hx225_1, hx225_2, hx225_3⟩ := dS HR0.out x5_1 (oe_ p225) (oe_ q225)
     cases e225
     have p226 := pt_ x5_1
     have q226 := qt_ x5_1 l1.length
     obtain ⟨ad226, e226, hx226_0, hx226_1, hx226_2, hx226_3⟩ := dS HR1.out x5_1 (oe_ p226) (oe_ q226)
     cases e226
     go_wp2
     repeat (go_quiet (fail); try go_wp2)
     go_ret
     exact ⟨ra_, dr_⟩
   rw [if_neg c7] at H
   have c7b0 : (!(((aI l0 x5_1).f0) == ((aI l1 x5_1).f0)) || (!(((aI l0 x5_1).f1) == ((aI l1 x5_1).f1)) || (!(((aI l0 x5_1).f2) == ((aI l1 x5_1).f2)) || (!(((aI l0 x5_1).f3) == ((aI l1 x5_1).f3)))))) = false := by simpa using c7
   clear c7
   replace H := am_ H
   have p225 := pt_ x5_1
   have q225 := qt_ x5_1 l0.length
   obtain ⟨ad225, e225, hx225_0, hx225_1, hx225_2, hx225_3⟩ := dS HR0.out x5_1 (oe_ p225) (oe_ q225)
   cases e225
   have p226 := pt_ x5_1
   have q226 := qt_ x5_1 l1.length
   obtain ⟨ad226, e226, hx226_0, hx226_1, hx226_2, hx226_3⟩ := dS HR1.out x5_1 (oe_ p226) (oe_ q226)
   cases e226
   go_wp2
   repeat (go_quiet (fail); try go_wp2)
   go_roundg k1
   case measure => have := HK1.out; omega
   case rel => exact ⟨(wrap64 (x5_1 + 1)), ra_, H, ⟨by have := HK1.out; omega⟩, dr_⟩
def eG.f (a0 : Int) (a1 : Int) (a2 : Int) : Option (Bool) := if a0 ≥ a1 then (some (decide (a0 ≤ a2))) else (some false)
theorem eG.calls (a0 : Int) (a1 : Int) (a2 : Int) (r : Bool) (w : World) (hG : Tryz.GW w) (h : eG.f a0 a1 a2 = some r) :
 Calls Tryz.prog 121 #[.int .i64 a0, .int .i64 a1, .int .i64 a2] w fun e w' => e = .returned (.bool r) ∧ Drawn0 w w' := by
 have HG := am_ hG
 clear hG
 have H : (if a0 ≥ a1 then (some (decide (a0 ≤ a2))) else (some false)) = some r := h
 clear h
 by_cases c4 : a0 ≥ a1
 · rw [if_pos c4] at H
   have c4b0 : decide (a1 ≤ a0) = true := decide_eq_true c4
   clear c4
   obtain rfl := sj_ H
   go_enter Tryz.func121, Tryz.ntmps121
   go_wp2
   go_ret
   exact ⟨ra_, dr_⟩
 rw [if_neg c4] at H
 have c4b0 : decide (a1 ≤ a0) = false := decide_eq_false c4
 clear c4
 obtain rfl := sj_ H
 go_enter Tryz.func121, Tryz.ntmps121
 go_wp2
 go_ret
 exact ⟨ra_, dr_⟩
def dF.f (a0 : Int) : Option (Bool) := (eG.f a0 (-1000000) 1000000).bind fun t227 => (some t227)
theorem dF.calls (a0 : Int) (r : Bool) (w : World) (hG : Tryz.GW w) (h : dF.f a0 = some r) :
 Calls Tryz.prog 79 #[.int .i64 a0] w fun e w' => e = .returned (.bool r) ∧ Drawn0 w w' := by
 have HG := am_ hG
 clear hG
 have H : ((eG.f a0 (-1000000) 1000000).bind fun t227 => (some t227)) = some r := h
 clear h
 obtain ⟨t227, A2, H⟩ := bs_ H
 obtain rfl := sj_ H
 go_enter Tryz.func79, Tryz.ntmps79
 go_wp2_with (first | ((with_reducible refine gf_ 121 rfl ?_); refine gl_ (some 4) Tryz.func121 #[.int .i64 a0, .int .i64 (-1000000), .int .i64 1000000] ?_; refine (eG.calls a0 (-1000000) 1000000 t227 _ gd_ A2.out).mono ?_; rintro e w' ⟨rfl, ⟨nd, rfl⟩⟩; refine ⟨_, rfl, ?_⟩))
 go_ret
 exact ⟨ra_, dr_⟩
mutual
def bD.l0 : Nat → List (S44) → Int → Option (Int)
 | 0, _, _ => none
 | k + 1, x0, x3 => if x3 < (x0.length : Int) then (if 0 ≤ x3 then ((dF.f ((aI x0 x3).f0)).bind fun t230 => (if t230 = true then ((dF.f ((aI x0 x3).f1)).bind fun t231 => (if t231 = true then ((dF.f ((aI x0 x3).f2)).bind fun t232 => (if t232 = true then ((dF.f ((aI x0 x3).f3)).bind fun t233 => (bD.j1 k x0 x3 (!t233) ((aI x0 x3).f0) ((aI x0 x3).f1) ((aI x0 x3).f2) ((aI x0 x3).f3))) else (bD.j1 k x0 x3 true ((aI x0 x3).f0) ((aI x0 x3).f1) ((aI x0 x3).f2) ((aI x0 x3).f3)))) else (bD.j1 k x0 x3 true ((aI x0 x3).f0) ((aI x0 x3).f1) ((aI x0 x3).f2) ((aI x0 x3).f3)))) else (bD.j1 k x0 x3 true ((aI x0 x3).f0) ((aI x0 x3).f1) ((aI x0 x3).f2) ((aI x0 x3).f3)))) else (none)) else (some 0)
def bD.j1 : Nat → List (S44) → Int → Bool → Int → Int → Int → Int → Option (Int)
 | 0, _, _, _, _, _, _, _ => none
 | k + 1, x0, x3, x39, x230000, x230001, x230002, x230003 => if x39 = true then (some 1) else (if x230002 ≤ x230000 then (some 13) else (if x230003 ≤ x230001 then (some 13) else (bD.l0 k x0 (wrap64 (x3 + 1)))))
end
def bD.f (k : Nat) (l0 : List (S44)) : Option (Int) := if (l0.length : Int) > 2000 then (some 2) else (bD.l0 k l0 0)
theorem bD.calls (k : Nat) (A0 : Option Addr) (c0 : Nat) (l0 : List (S44)) (r : Int) (w : World) (hG : Tryz.GW w) (hr0 : Kd.C k44 w A0 l0.length l0) (hc0 : l0.length ≤ c0) (h : bD.f k l0 = some r) :
 Calls Tryz.prog 73 #[.slice A0 l0.length c0] w fun e w' => e = .returned (.int .i64 r) ∧ Below w.heap.size w w' := by
 have hu44 := Tryz.underlying44
 have HR0 := am_ hr0
 have HC0 := am_ hc0
 clear hr0 hc0
 have HG := am_ hG
 clear hG
 have HB := am_ (Below.refl w.heap.size w)
 have H : (if (l0.length : Int) > 2000 then (some 2) else (bD.l0 k l0 0)) = some r := h
 clear h
 by_cases c2 : (l0.length : Int) > 2000
 · rw [if_pos c2] at H
   have c2b0 : decide (2000 < (l0.length : Int)) = true := decide_eq_true c2
   have c2b1 : decide (2000 < l0.length) = true := decide_eq_true (by omega)
   clear c2
   obtain rfl := sj_ H
   go_enter Tryz.func73, Tryz.ntmps73
   go_wp2
   go_ret
   exact ⟨er_, bl_⟩
 rw [if_neg c2] at H
 have c2b0 : decide (2000 < (l0.length : Int)) = false := decide_eq_false c2
 have c2b1 : decide (2000 < l0.length) = false := decide_eq_false (by omega)
 clear c2
 replace H := am_ H
 go_enter Tryz.func73, Tryz.ntmps73
 go_wp2
 go_loopg [3] k (fun kq v3 w' => ∃ (x3_1 : Int), v3 = .int .i64 x3_1 ∧ Aside0 (bD.l0 kq l0 x3_1 = some r) ∧ Aside0 (kq ≤ k) ∧ Aside0 (Below w.heap.size w w'))
 case atStart => exact ⟨(0), ra_, H, ⟨Nat.le_refl _⟩, ⟨bl_⟩⟩
 case round =>
  clear H
  try clear c2
  try clear c2b0
  try clear c2b1
  try clear p2
  obtain ⟨x3_1, rfl, HA, HK1, HB⟩ := hrel
  cases gk with
  | zero => exact absurd HA.out (by simp [bD.l0])
  | succ k1 =>
   have H := HA.out
   clear HA
   simp only [bD.l0] at H
   by_cases c3 : x3_1 < (l0.length : Int)
   rotate_left
   · rw [if_neg c3] at H
     have c3b0 := decide_eq_false c3
     clear c3
     obtain rfl := sj_ H
     go_wp2
     go_ret
     exact ⟨er_, bl_⟩
   rw [if_pos c3] at H
   have c3b0 := decide_eq_true c3
   clear c3
   obtain ⟨c4b0, H⟩ := ifd_ H
   have HC5 := am_ H
   clear H
   have p228 := pt_ x3_1
   have q228 := qt_ x3_1 l0.length
   obtain ⟨ad228, e228, hx228_0, hx228_1, hx228_2, hx228_3⟩ := dS HR0.out x3_1 (oe_ p228) (oe_ q228)
   cases e228
   replace hx228_0 := ce_ HB hx228_0
   replace hx228_1 := ce_ HB hx228_1
   replace hx228_2 := ce_ HB hx228_2
   replace hx228_3 := ce_ HB hx228_3
   go_upto_region 7 with (first | ((with_reducible refine gn_ 4 rfl ?_); refine bq_ (N := 4) (cs := #[.int .i64 0, .int .i64 0, .int .i64 0, .int .i64 0]) (t := 44) ?_; intro gb229 hg w6 BK229 hb; have GW229 := ga_ w hg; have GE229 := GW229; replace HB := bp_ hb; clear hb hg; have bz7 := bc4_ BK229))
   (try simp only [Act.put, List.setIfInBounds_toArray, List.set_cons_zero, List.set_cons_succ])
   go_cut [39] (fun v39 wc => ∃ (kq : Nat) (x39_4 : Bool), v39 = .bool x39_4 ∧ Aside0 (bD.j1 kq l0 x3_1 x39_4 ((aI l0 x3_1).f0) ((aI l0 x3_1).f1) ((aI l0 x3_1).f2) ((aI l0 x3_1).f3) = some r) ∧ Aside0 (kq ≤ k1) ∧ Aside0 (wc.heap[gb229]? = some (.cells #[.int .i64 ((aI l0 x3_1).f0), .int .i64 ((aI l0 x3_1).f1), .int .i64 ((aI l0 x3_1).f2), .int .i64 ((aI l0 x3_1).f3)] 44 (0, 0))) ∧ Aside0 (Below w.heap.size w wc))
   case first =>
    have H := HC5.out
    clear HC5
    obtain ⟨t230, A8, H⟩ := bs_ H
    by_cases c9 : t230 = true
    rotate_left
    · obtain rfl := bf_ c9
      clear c9
      rw [if_neg ft_] at H
      replace H := am_ H
      have bz18 := bc4_ BK229
      go_wp2_with (first | ((with_reducible refine gf_ 79 rfl ?_); refine gl_ (some 20) Tryz.func79 #[.int .i64 ((aI l0 x3_1).f0)] ?_; refine (dF.calls ((aI l0 x3_1).f0) false _ (gw_ HG.out) A8.out).mono ?_; rintro e w' ⟨rfl, ⟨nd, rfl⟩⟩; refine ⟨_, rfl, ?_⟩))
      go_meet
      case rel => exact ⟨_, (true), ra_, H, ⟨by have := HK1.out; first | omega | exact Nat.le_refl _⟩, ⟨by (with_reducible repeat (first | refine blk_drewN ?_ _ | refine blk_drew ?_ | refine blk_alloc ?_ _)); refine blk_put (cs := #[.int .i64 ((aI l0 x3_1).f0), .int .i64 ((aI l0 x3_1).f1), .int .i64 ((aI l0 x3_1).f2), .int .i64 0]) ?_ 3 _ rfl; (with_reducible repeat (first | refine blk_drewN ?_ _ | refine blk_drew ?_ | refine blk_alloc ?_ _)); refine blk_put (cs := #[.int .i64 ((aI l0 x3_1).f0), .int .i64 ((aI l0 x3_1).f1), .int .i64 0, .int .i64 0]) ?_ 2 _ rfl; (with_reducible repeat (first | refine blk_drewN ?_ _ | refine blk_drew ?_ | refine blk_alloc ?_ _)); refine blk_put (cs := #[.int .i64 ((aI l0 x3_1).f0), .int .i64 0, .int .i64 0, .int .i64 0]) ?_ 1 _ rfl; (with_reducible repeat (first | refine blk_drewN ?_ _ | refine blk_drew ?_ | refine blk_alloc ?_ _)); refine blk_put (cs := #[.int .i64 0, .int .i64 0, .int .i64 0, .int .i64 0]) ?_ 0 _ rfl; (with_reducible repeat (first | refine blk_drewN ?_ _ | refine blk_drew ?_ | refine blk_alloc ?_ _)); exact BK229.out⟩, ⟨bl_⟩⟩
    subst c9
    rw [if_pos rfl] at H
    obtain ⟨t231, A10, H⟩ := bs_ H
    by_cases c11 : t231 = true
    rotate_left
    · obtain rfl := bf_ c11
      clear c11
      rw [if_neg ft_] at H
      replace H := am_ H
      have bz17 := bc4_ BK229
      go_wp2_with (first | ((with_reducible refine gf_ 79 rfl ?_); refine gl_ (some 20) Tryz.func79 #[.int .i64 ((aI l0 x3_1).f0)] ?_; refine (dF.calls ((aI l0 x3_1).f0) true _ (gw_ HG.out) A8.out).mono ?_; rintro e w' ⟨rfl, ⟨nd, rfl⟩⟩; refine ⟨_, rfl, ?_⟩) | (go_at_call 79; refine (dF.calls ((aI l0 x3_1).f1) false _ (gw_ HG.out) A10.out).mono ?_; rintro e w' ⟨rfl, ⟨nd, rfl⟩⟩))
      go_meet
      case rel => exact ⟨_, (true), ra_, H, ⟨by have := HK1.out; first | omega | exact Nat.le_refl _⟩, ⟨by (with_reducible repeat (first | refine blk_drewN ?_ _ | refine blk_drew ?_ | refine blk_alloc ?_ _)); refine blk_put (cs := #[.int .i64 ((aI l0 x3_1).f0), .int .i64 ((aI l0 x3_1).f1), .int .i64 ((aI l0 x3_1).f2), .int .i64 0]) ?_ 3 _ rfl; (with_reducible repeat (first | refine blk_drewN ?_ _ | refine blk_drew ?_ | refine blk_alloc ?_ _)); refine blk_put (cs := #[.int .i64 ((aI l0 x3_1).f0), .int .i64 ((aI l0 x3_1).f1), .int .i64 0, .int .i64 0]) ?_ 2 _ rfl; (with_reducible repeat (first | refine blk_drewN ?_ _ | refine blk_drew ?_ | refine blk_alloc ?_ _)); refine blk_put (cs := #[.int .i64 ((aI l0 x3_1).f0), .int .i64 0, .int .i64 0, .int .i64 0]) ?_ 1 _ rfl; (with_reducible repeat (first | refine blk_drewN ?_ _ | refine blk_drew ?_ | refine blk_alloc ?_ _)); refine blk_put (cs := #[.int .i64 0, .int .i64 0, .int .i64 0, .int .i64 0]) ?_ 0 _ rfl; (with_reducible repeat (first | refine blk_drewN ?_ _ | refine blk_drew ?_ | refine blk_alloc ?_ _)); exact BK229.out⟩, ⟨bl_⟩⟩
    subst c11
    rw [if_pos rfl] at H
    obtain ⟨t232, A12, H⟩ := bs_ H
    by_cases c13 : t232 = true
    · subst c13
      rw [if_pos rfl] at H
      obtain ⟨t233, A14, H⟩ := bs_ H
      replace H := am_ H
      have bz15 := bc4_ BK229
      go_wp2_with (first | ((with_reducible refine gf_ 79 rfl ?_); refine gl_ (some 20) Tryz.func79 #[.int .i64 ((aI l0 x3_1).f0)] ?_; refine (dF.calls ((aI l0 x3_1).f0) true _ (gw_ HG.out) A8.out).mono ?_; rintro e w' ⟨rfl, ⟨nd, rfl⟩⟩; refine ⟨_, rfl, ?_⟩) | (go_at_call 79; refine (dF.calls ((aI l0 x3_1).f1) true _ (gw_ HG.out) A10.out).mono ?_; rintro e w' ⟨rfl, ⟨nd, rfl⟩⟩) | (go_at_call 79; refine (dF.calls ((aI l0 x3_1).f2) true _ (gw_ HG.out) A12.out).mono ?_; rintro e w' ⟨rfl, ⟨nd, rfl⟩⟩) | (go_at_call 79; refine (dF.calls ((aI l0 x3_1).f3) t233 _ (gw_ HG.out) A14.out).mono ?_; rintro e w' ⟨rfl, ⟨nd, rfl⟩⟩))
      go_meet
      case rel => exact ⟨_, (!t233), ra_, H, ⟨by have := HK1.out; first | omega | exact Nat.le_refl _⟩, ⟨by (with_reducible repeat (first | refine blk_drewN ?_ _ | refine blk_drew ?_ | refine blk_alloc ?_ _)); refine blk_put (cs := #[.int .i64 ((aI l0 x3_1).f0), .int .i64 ((aI l0 x3_1).f1), .int .i64 ((aI l0 x3_1).f2), .int .i64 0]) ?_ 3 _ rfl; (with_reducible repeat (first | refine blk_drewN ?_ _ | refine blk_drew ?_ | refine blk_alloc ?_ _)); refine blk_put (cs := #[.int .i64 ((aI l0 x3_1).f0), .int .i64 ((aI l0 x3_1).f1), .int .i64 0, .int .i64 0]) ?_ 2 _ rfl; (with_reducible repeat (first | refine blk_drewN ?_ _ | refine blk_drew ?_ | refine blk_alloc ?_ _)); refine blk_put (cs := #[.int .i64 ((aI l0 x3_1).f0), .int .i64 0, .int .i64 0, .int .i64 0]) ?_ 1 _ rfl; (with_reducible repeat (first | refine blk_drewN ?_ _ | refine blk_drew ?_ | refine blk_alloc ?_ _)); refine blk_put (cs := #[.int .i64 0, .int .i64 0, .int .i64 0, .int .i64 0]) ?_ 0 _ rfl; (with_reducible repeat (first | refine blk_drewN ?_ _ | refine blk_drew ?_ | refine blk_alloc ?_ _)); exact BK229.out⟩, ⟨bl_⟩⟩
    obtain rfl := bf_ c13
    clear c13
    rw [if_neg ft_] at H
    replace H := am_ H
    have bz16 := bc4_ BK229
    go_wp2_with (first | ((with_reducible refine gf_ 79 rfl ?_); refine gl_ (some 20) Tryz.func79 #[.int .i64 ((aI l0 x3_1).f0)] ?_; refine (dF.calls ((aI l0 x3_1).f0) true _ (gw_ HG.out) A8.out).mono ?_; rintro e w' ⟨rfl, ⟨nd, rfl⟩⟩; refine ⟨_, rfl, ?_⟩) | (go_at_call 79; refine (dF.calls ((aI l0 x3_1).f1) true _ (gw_ HG.out) A10.out).mono ?_; rintro e w' ⟨rfl, ⟨nd, rfl⟩⟩) | (go_at_call 79; refine (dF.calls ((aI l0 x3_1).f2) false _ (gw_ HG.out) A12.out).mono ?_; rintro e w' ⟨rfl, ⟨nd, rfl⟩⟩))
    go_meet
    case rel => exact ⟨_, (true), ra_, H, ⟨by have := HK1.out; first | omega | exact Nat.le_refl _⟩, ⟨by (with_reducible repeat (first | refine blk_drewN ?_ _ | refine blk_drew ?_ | refine blk_alloc ?_ _)); refine blk_put (cs := #[.int .i64 ((aI l0 x3_1).f0), .int .i64 ((aI l0 x3_1).f1), .int .i64 ((aI l0 x3_1).f2), .int .i64 0]) ?_ 3 _ rfl; (with_reducible repeat (first | refine blk_drewN ?_ _ | refine blk_drew ?_ | refine blk_alloc ?_ _)); refine blk_put (cs := #[.int .i64 ((aI l0 x3_1).f0), .int .i64 ((aI l0 x3_1).f1), .int .i64 0, .int .i64 0]) ?_ 2 _ rfl; (with_reducible repeat (first | refine blk_drewN ?_ _ | refine blk_drew ?_ | refine blk_alloc ?_ _)); refine blk_put (cs := #[.int .i64 ((aI l0 x3_1).f0), .int .i64 0, .int .i64 0, .int .i64 0]) ?_ 1 _ rfl; (with_reducible repeat (first | refine blk_drewN ?_ _ | refine blk_drew ?_ | refine blk_alloc ?_ _)); refine blk_put (cs := #[.int .i64 0, .int .i64 0, .int .i64 0, .int .i64 0]) ?_ 0 _ rfl; (with_reducible repeat (first | refine blk_drewN ?_ _ | refine blk_drew ?_ | refine blk_alloc ?_ _)); exact BK229.out⟩, ⟨bl_⟩⟩
   case rest =>
    clear HC5
    try clear c1
    try clear c2
    try clear c2b0
    try clear c2b1
    try clear p2
    try clear q2
    try clear hx2
    try clear c3
    try clear c3b0
    try clear c4
    try clear c4b0
    try clear c7
    try clear c9
    try clear c11
    try clear c13
    try clear bz15
    try clear bz16
    try clear bz17
    try clear bz18
    try clear bz7
    try clear hx228_0
    try clear hx228_1
    try clear hx228_2
    try clear hx228_3
    try clear p2
    try clear p228
    try clear q228
    obtain ⟨kq, x39_4, rfl, HA, HJ4, BK229, HB⟩ := hcut
    cases kq with
    | zero => exact absurd HA.out (by simp [bD.j1])
    | succ kj4 =>
     have H := HA.out
     clear HA
     simp only [bD.j1] at H
     by_cases c19 : x39_4 = true
     · subst c19
       rw [if_pos rfl] at H
       obtain rfl := sj_ H
       go_wp2
       go_ret
       exact ⟨er_, bl_⟩
     obtain rfl := bf_ c19
     clear c19
     rw [if_neg ft_] at H
     by_cases c20 : ((aI l0 x3_1).f2) ≤ ((aI l0 x3_1).f0)
     · rw [if_pos c20] at H
       have c20b0 := decide_eq_true c20
       clear c20
       obtain rfl := sj_ H
       have bz21 := bc4_ BK229
       go_wp2
       go_ret
       exact ⟨er_, bl_⟩
     rw [if_neg c20] at H
     have c20b0 := decide_eq_false c20
     clear c20
     by_cases c22 : ((aI l0 x3_1).f3) ≤ ((aI l0 x3_1).f1)
     · rw [if_pos c22] at H
       have c22b0 := decide_eq_true c22
       clear c22
       obtain rfl := sj_ H
       have bz23 := bc4_ BK229
       go_wp2
       go_ret
       exact ⟨er_, bl_⟩
     rw [if_neg c22] at H
     have c22b0 := decide_eq_false c22
     clear c22
     replace H := am_ H
     have bz24 := bc4_ BK229
     go_wp2
     go_roundg kj4
     case measure => have := HK1.out; have := HJ4.out; omega
     case rel => exact ⟨(wrap64 (x3_1 + 1)), ra_, H, ⟨by have := HK1.out; have := HJ4.out; omega⟩, ⟨bl_⟩⟩
def dU.f (a0_0 : Int) (a0_1 : Int) (a0_2 : Int) (a0_3 : Int) (a1_0 : Int) (a1_1 : Int) (a1_2 : Int) (a1_3 : Int) : Option (Bool) := if a0_1 < a1_1 then (some true) else (if a0_1 = a1_1 then (some (decide (a0_0 < a1_0))) else (some false))
theorem dU.calls (a0_0 : Int) (a0_1 : Int) (a0_2 : Int) (a0_3 : Int) (a1_0 : Int) (a1_1 : Int) (a1_2 : Int) (a1_3 : Int) (r : Bool) (w : World) (hG : Tryz.GW w) (h : dU.f a0_0 a0_1 a0_2 a0_3 a1_0 a1_1 a1_2 a1_3 = some r) :
 Calls Tryz.prog 74 #[.agg #[.int .i64 a0_0, .int .i64 a0_1, .int .i64 a0_2, .int .i64 a0_3], .agg #[.int .i64 a1_0, .int .i64 a1_1, .int .i64 a1_2, .int .i64 a1_3]] w fun e w' => e = .returned (.bool r) ∧ Below w.heap.size w w' := by
 have hu44 := Tryz.underlying44
 have HG := am_ hG
 clear hG
 have HB := am_ (Below.refl w.heap.size w)
 have H : (if a0_1 < a1_1 then (some true) else (if a0_1 = a1_1 then (some (decide (a0_0 < a1_0))) else (some false))) = some r := h
 clear h
 by_cases c3 : a0_1 < a1_1
 · rw [if_pos c3] at H
   have c3b0 := decide_eq_true c3
   clear c3
   obtain rfl := sj_ H
   go_enter Tryz.func74, Tryz.ntmps74
   go_wp2_with (first | ((with_reducible refine gn_ 2 rfl ?_); refine bq_ (N := 2) (cs := #[.int .i64 a0_0, .int .i64 a0_1, .int .i64 a0_2, .int .i64 a0_3]) (t := 44) ?_; intro gb234 hg w4 BK234 hb; have GW234 := ga_ w hg; have GE234 := GW234; replace HB := bp_ hb; clear hb hg) | ((with_reducible refine gn_ 3 rfl ?_); refine bq_ (N := 3) (cs := #[.int .i64 a1_0, .int .i64 a1_1, .int .i64 a1_2, .int .i64 a1_3]) (t := 44) ?_; intro gb235 hg w5 BK235 hb; have GW235 := ga_ w hg; have GE235 := GW235; have NB234_235 := am_ ((nl_ hg BK234 : gb234 ≠ gb235)); have NB235_234 := am_ ((ng_ hg BK234 : gb235 ≠ gb234)); replace BK234 := bb_ BK234 hb; replace HB := bp_ hb; clear hb hg; have hnb6 := NB234_235.out; have hnc6 := NB235_234.out; have bz7 := bc4_ BK234; have bz8 := bc4_ BK235))
   go_ret
   exact ⟨er_, bl_⟩
 rw [if_neg c3] at H
 have c3b0 := decide_eq_false c3
 clear c3
 by_cases c9 : a0_1 = a1_1
 · rw [if_pos c9] at H
   have c9b0 : (a0_1 == a1_1) = true := beq_iff_eq.mpr c9
   have c9b1 : (a0_1 != a1_1) = false := bne_eq_false_iff_eq.mpr c9
   clear c9
   obtain rfl := sj_ H
   go_enter Tryz.func74, Tryz.ntmps74
   go_wp2_with (first | ((with_reducible refine gn_ 2 rfl ?_); refine bq_ (N := 2) (cs := #[.int .i64 a0_0, .int .i64 a0_1, .int .i64 a0_2, .int .i64 a0_3]) (t := 44) ?_; intro gb234 hg w10 BK234 hb; have GW234 := ga_ w hg; have GE234 := GW234; replace HB := bp_ hb; clear hb hg) | ((with_reducible refine gn_ 3 rfl ?_); refine bq_ (N := 3) (cs := #[.int .i64 a1_0, .int .i64 a1_1, .int .i64 a1_2, .int .i64 a1_3]) (t := 44) ?_; intro gb235 hg w11 BK235 hb; have GW235 := ga_ w hg; have GE235 := GW235; have NB234_235 := am_ ((nl_ hg BK234 : gb234 ≠ gb235)); have NB235_234 := am_ ((ng_ hg BK234 : gb235 ≠ gb234)); replace BK234 := bb_ BK234 hb; replace HB := bp_ hb; clear hb hg; have hnb12 := NB234_235.out; have hnc12 := NB235_234.out; have bz13 := bc4_ BK234; have bz14 := bc4_ BK235))
   go_ret
   exact ⟨er_, bl_⟩
 rw [if_neg c9] at H
 have c9b0 : (a0_1 == a1_1) = false := beq_eq_false_iff_ne.mpr c9
 have c9b1 : (a0_1 != a1_1) = true := bne_iff_ne.mpr c9
 obtain rfl := sj_ H
 go_enter Tryz.func74, Tryz.ntmps74
 go_wp2_with (first | ((with_reducible refine gn_ 2 rfl ?_); refine bq_ (N := 2) (cs := #[.int .i64 a0_0, .int .i64 a0_1, .int .i64 a0_2, .int .i64 a0_3]) (t := 44) ?_; intro gb234 hg w15 BK234 hb; have GW234 := ga_ w hg; have GE234 := GW234; replace HB := bp_ hb; clear hb hg) | ((with_reducible refine gn_ 3 rfl ?_); refine bq_ (N := 3) (cs := #[.int .i64 a1_0, .int .i64 a1_1, .int .i64 a1_2, .int .i64 a1_3]) (t := 44) ?_; intro gb235 hg w16 BK235 hb; have GW235 := ga_ w hg; have GE235 := GW235; have NB234_235 := am_ ((nl_ hg BK234 : gb234 ≠ gb235)); have NB235_234 := am_ ((ng_ hg BK234 : gb235 ≠ gb234)); replace BK234 := bb_ BK234 hb; replace HB := bp_ hb; clear hb hg; have hnb17 := NB234_235.out; have hnc17 := NB235_234.out; have bz18 := bc4_ BK234; have bz19 := bc4_ BK235))
 go_ret
 exact ⟨er_, bl_⟩
end Go.Proofs.YthkeonbmgcphkaaGreatDoor.PM
namespace Go.Proofs.YthkeonbmgcphkaaGreatDoor.PM
open Go.RowKit Go.Proofs.YthkeonbmgcphkaaGreatDoorW.PrintWords Go.Proofs.YthkeonbmgcphkaaGreatDoorW.PrintLast Go.Proofs.YthkeonbmgcphkaaGreatDoorW.PrintMore
attribute [local go_sem] max2_int min2_int max_two min_two max_three min_three max_four min_four
set_option linter.unusedVariables false
set_option linter.unusedSimpArgs false
theorem eqA171 (d : Nat) (w : World) (x0 y0 : Int) (x1 y1 : Int) :
 (Op.equalIn (d + 2) 171 (.agg #[.int .i64 x0, .int .i64 x1]) (.agg #[.int .i64 y0, .int .i64 y1])).run Tryz.prog w = .ok (x0 == y0 && (x1 == y1)) w := by
 refine eqA_of Tryz.underlying171 (by kernel_rfl) ?_
 refine eqf_cons (by rfl) (by go_simp; rfl) (by go_simp; rfl) (by go_simp) ?_
 exact eqf_last (by rfl) (by go_simp; rfl) (by go_simp; rfl) (by go_simp)
end Go.Proofs.YthkeonbmgcphkaaGreatDoor.PM
