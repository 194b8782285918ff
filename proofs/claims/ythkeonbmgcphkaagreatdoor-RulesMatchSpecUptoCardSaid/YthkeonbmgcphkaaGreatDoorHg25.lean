import Derived.Test.YthkeonbmgcphkaaGreatDoorHg6
import Derived.Test.YthkeonbmgcphkaaGreatDoorHg24
import Derived.Test.YthkeonbmgcphkaaGreatDoorHg22
import Derived.Test.YthkeonbmgcphkaaGreatDoorHg23
namespace Go.Proofs.YthkeonbmgcphkaaGreatDoor.PM
open Go.RowKit Go.Proofs.YthkeonbmgcphkaaGreatDoorW.PrintWords Go.Proofs.YthkeonbmgcphkaaGreatDoorW.PrintLast Go.Proofs.YthkeonbmgcphkaaGreatDoorW.PrintMore
attribute [local go_sem] max2_int min2_int max_two min_two max_three min_three max_four min_four
set_option linter.unusedVariables false
set_option maxHeartbeats 8000000
set_option maxRecDepth 100000
set_option linter.unusedSimpArgs false
def bY.l0 : Nat → List (S44) → Int → List (S171) → Int → Option ((List (S171)))
 | 0, _, _, _, _ => none
 | k + 1, x0, x1, x5, x6 => if x6 < (x0.length : Int) then (if 0 ≤ x6 then (if ((aI x0 x6).f1) ≤ x1 then (if x1 < ((aI x0 x6).f3) then ((aK.f k x5 ((aI x0 x6).f0) ((aI x0 x6).f2)).bind fun t300 => (bY.l0 k x0 x1 t300 (wrap64 (x6 + 1)))) else (bY.l0 k x0 x1 x5 (wrap64 (x6 + 1)))) else (bY.l0 k x0 x1 x5 (wrap64 (x6 + 1)))) else (none)) else (some x5)
def bY.f (k : Nat) (l0 : List (S44)) (a1 : Int) : Option ((List (S171))) := bY.l0 k l0 a1 ([] : List (S171)) 0
def bY.T6 : Bool × List (List Nat × List Nat) := (true, [([], []), ([], []), ([], []), ([1, 2], [1, 2]), ([3], [3]), ([4], [4]), ([], []), ([], []), ([6, 7], [6, 7]), ([8], [8]), ([9], [9]), ([5, 10], [5, 10]), ([0, 11], [0, 11]), ([12, 12, 0, 1, 2, 3, 4, 5, 6, 7, 8, 9, 10, 11, 12], [0, 12])])
def bY.B6 : List Nat := [0, 0, 0, 6, 14, 30, 0, 0, 192, 448, 960, 2046, 4095, 8191]
theorem bY.tab6 : rtab .any (opsOf Tryz.f118 6) = bY.T6 := by kernel_rfl
theorem bY.bits6 : waitsOk bY.T6.2 bY.B6 = true := by kernel_rfl
theorem bY.calls (k : Nat) (A0 : Option Addr) (c0 : Nat) (l0 : List (S44)) (a1 : Int) (r : List (S171)) (w : World) (hG : Tryz.GW w) (hr0 : Kd.C k44 w A0 l0.length l0) (hc0 : l0.length ≤ c0) (h : bY.f k l0 a1 = some r) :
 Calls Tryz.prog 118 #[.slice A0 l0.length c0, .int .i64 a1] w fun e w' => ∃ v0_ : Value, e = .returned (v0_) ∧ Kd.R k171 171 w' w.heap.size (fun _ => True) v0_ r ∧ Below w.heap.size w w' := by
 have hu171 := Tryz.underlying171
 have HR0 := am_ hr0
 have HC0 := am_ hc0
 clear hr0 hc0
 have HG := am_ hG
 clear hG
 have HB := am_ (Below.refl w.heap.size w)
 have H : (bY.l0 k l0 a1 ([] : List (S171)) 0) = some r := h
 clear h
 replace H := am_ H
 go_enter Tryz.func118, Tryz.ntmps118
 go_wp2
 go_loopg [5, 6] k (fun kq v5 v6 w' => ∃ (x5_1 : List (S171)) (x6_1 : Int), v6 = .int .i64 x6_1 ∧ Aside0 (bY.l0 kq l0 a1 x5_1 x6_1 = some r) ∧ Aside0 (kq ≤ k) ∧ Aside0 (Kd.R k171 171 w' w.heap.size (fun _ => True) v5 x5_1) ∧ Aside0 (Below w.heap.size w w'))
 case atStart => exact ⟨(([] : List (S171))), (0), ra_, H, ⟨Nat.le_refl _⟩, ⟨by first | exact Kd.R_nil _ _ _ _ _ | exact Kd.N_nil _ _ _ _ _ | exact Kd.V_nil _ _ _ _ _ | exact Kd.Q_nil _ _ _ _ _ | exact Kd.S_nil _ _ _ _ _⟩, ⟨bl_⟩⟩
 case round =>
  clear H
  try clear c1
  try clear p2
  obtain ⟨x5_1, x6_1, rfl, HA, HK1, HO_5, HB⟩ := hrel
  cases gk with
  | zero => exact absurd HA.out (by simp [bY.l0])
  | succ k1 =>
   have H := HA.out
   clear HA
   simp only [bY.l0] at H
   by_cases c3 : x6_1 < (l0.length : Int)
   rotate_left
   · rw [if_neg c3] at H
     have c3b0 := decide_eq_false c3
     clear c3
     obtain rfl := sj_ H
     go_wp2
     go_ret
     exact ⟨_, er_, rr_ HO_5, bl_⟩
   rw [if_pos c3] at H
   have c3b0 := decide_eq_true c3
   clear c3
   obtain ⟨c4b0, H⟩ := ifd_ H
   by_cases c5 : ((aI l0 x6_1).f1) ≤ a1
   rotate_left
   · rw [if_neg c5] at H
     have c5b0 := decide_eq_false c5
     clear c5
     replace H := am_ H
     have p296 := pt_ x6_1
     have q296 := qt_ x6_1 l0.length
     obtain ⟨ad296, e296, hx296_0, hx296_1, hx296_2, hx296_3⟩ := dS HR0.out x6_1 (oe_ p296) (oe_ q296)
     cases e296
     replace hx296_0 := ce_ HB hx296_0
     replace hx296_1 := ce_ HB hx296_1
     replace hx296_2 := ce_ HB hx296_2
     replace hx296_3 := ce_ HB hx296_3
     go_wp2
     go_roundg k1
     case measure => have := HK1.out; omega
     case rel => exact ⟨(x5_1), (wrap64 (x6_1 + 1)), ra_, H, ⟨by have := HK1.out; omega⟩, ⟨rr_ HO_5⟩, ⟨bl_⟩⟩
   rw [if_pos c5] at H
   have c5b0 := decide_eq_true c5
   clear c5
   by_cases c6 : a1 < ((aI l0 x6_1).f3)
   rotate_left
   · rw [if_neg c6] at H
     have c6b0 := decide_eq_false c6
     clear c6
     replace H := am_ H
     have p296 := pt_ x6_1
     have q296 := qt_ x6_1 l0.length
     obtain ⟨ad296, e296, hx296_0, hx296_1, hx296_2, hx296_3⟩ := dS HR0.out x6_1 (oe_ p296) (oe_ q296)
     cases e296
     replace hx296_0 := ce_ HB hx296_0
     replace hx296_1 := ce_ HB hx296_1
     replace hx296_2 := ce_ HB hx296_2
     replace hx296_3 := ce_ HB hx296_3
     have p297 := pt_ x6_1
     have q297 := qt_ x6_1 l0.length
     obtain ⟨ad297, e297, hx297_0, hx297_1, hx297_2, hx297_3⟩ := dS HR0.out x6_1 (oe_ p297) (oe_ q297)
     obtain rfl : ad296 = ad297 := (by injection e297)
     replace hx297_0 := ce_ HB hx297_0
     replace hx297_1 := ce_ HB hx297_1
     replace hx297_2 := ce_ HB hx297_2
     replace hx297_3 := ce_ HB hx297_3
     go_wp2
     go_roundg k1
     case measure => have := HK1.out; omega
     case rel => exact ⟨(x5_1), (wrap64 (x6_1 + 1)), ra_, H, ⟨by have := HK1.out; omega⟩, ⟨rr_ HO_5⟩, ⟨bl_⟩⟩
   rw [if_pos c6] at H
   have c6b0 := decide_eq_true c6
   clear c6
   obtain ⟨t300, A7, H⟩ := bs_ H
   replace H := am_ H
   have p296 := pt_ x6_1
   have q296 := qt_ x6_1 l0.length
   obtain ⟨ad296, e296, hx296_0, hx296_1, hx296_2, hx296_3⟩ := dS HR0.out x6_1 (oe_ p296) (oe_ q296)
   cases e296
   replace hx296_0 := ce_ HB hx296_0
   replace hx296_1 := ce_ HB hx296_1
   replace hx296_2 := ce_ HB hx296_2
   replace hx296_3 := ce_ HB hx296_3
   have p297 := pt_ x6_1
   have q297 := qt_ x6_1 l0.length
   obtain ⟨ad297, e297, hx297_0, hx297_1, hx297_2, hx297_3⟩ := dS HR0.out x6_1 (oe_ p297) (oe_ q297)
   obtain rfl : ad296 = ad297 := (by injection e297)
   replace hx297_0 := ce_ HB hx297_0
   replace hx297_1 := ce_ HB hx297_1
   replace hx297_2 := ce_ HB hx297_2
   replace hx297_3 := ce_ HB hx297_3
   try go_wp2
   replace HO_5 := am_ (Kd.R_drew HO_5.out)
   replace HB := am_ (below_drew1 HB.out)
   have p298 := pt_ x6_1
   have q298 := qt_ x6_1 l0.length
   obtain ⟨ad298, e298, hx298_0, hx298_1, hx298_2, hx298_3⟩ := dS HR0.out x6_1 (oe_ p298) (oe_ q298)
   have hw298_3 := hx298_3
   have hw298_2 := hx298_2
   have hw298_1 := hx298_1
   have hw298_0 := hx298_0
   obtain rfl : ad296 = ad298 := (by injection e298)
   replace hx298_0 := ce_ HB hx298_0
   replace hx298_1 := ce_ HB hx298_1
   replace hx298_2 := ce_ HB hx298_2
   replace hx298_3 := ce_ HB hx298_3
   have p299 := pt_ x6_1
   have q299 := qt_ x6_1 l0.length
   obtain ⟨ad299, e299, hx299_0, hx299_1, hx299_2, hx299_3⟩ := dS HR0.out x6_1 (oe_ p299) (oe_ q299)
   have hw299_3 := hx299_3
   have hw299_2 := hx299_2
   have hw299_1 := hx299_1
   have hw299_0 := hx299_0
   obtain rfl : ad296 = ad299 := (by injection e299)
   replace hx299_0 := ce_ HB hx299_0
   replace hx299_1 := ce_ HB hx299_1
   replace hx299_2 := ce_ HB hx299_2
   replace hx299_3 := ce_ HB hx299_3
   obtain ⟨Ao9, co9, eo9⟩ := Kd.R_slice HO_5.out
   (first | subst eo9 | (injection eo9 with f1_ f2_ f3_; have f4_ := f1_.symm; have f5_ := f3_.symm; clear f1_ f2_ f3_; subst f4_; subst f5_))
   refine start_ (n := 14) (S := fun w' => w'.cell? (ad296.add ((x6_1).toNat * 4)) = some (.int .i64 ((aI l0 x6_1).f0)) ∧ w'.cell? ⟨(ad296.add ((x6_1).toNat * 4)).block, (ad296.add ((x6_1).toNat * 4)).off + 1, none⟩ = some (.int .i64 ((aI l0 x6_1).f1)) ∧ w'.cell? ⟨(ad296.add ((x6_1).toNat * 4)).block, (ad296.add ((x6_1).toNat * 4)).off + 2, none⟩ = some (.int .i64 ((aI l0 x6_1).f2)) ∧ w'.cell? ⟨(ad296.add ((x6_1).toNat * 4)).block, (ad296.add ((x6_1).toNat * 4)).off + 3, none⟩ = some (.int .i64 ((aI l0 x6_1).f3)) ∧ w'.cell? (ad296.add ((x6_1).toNat * 4)) = some (.int .i64 ((aI l0 x6_1).f0)) ∧ w'.cell? ⟨(ad296.add ((x6_1).toNat * 4)).block, (ad296.add ((x6_1).toNat * 4)).off + 1, none⟩ = some (.int .i64 ((aI l0 x6_1).f1)) ∧ w'.cell? ⟨(ad296.add ((x6_1).toNat * 4)).block, (ad296.add ((x6_1).toNat * 4)).off + 2, none⟩ = some (.int .i64 ((aI l0 x6_1).f2)) ∧ w'.cell? ⟨(ad296.add ((x6_1).toNat * 4)).block, (ad296.add ((x6_1).toNat * 4)).off + 3, none⟩ = some (.int .i64 ((aI l0 x6_1).f3))) (ds := []) (bv 14 0) (by kernel_rfl) rfl rfl ⟨(ce_ HB hw298_0), (ce_ HB hw298_1), (ce_ HB hw298_2), (ce_ HB hw298_3), (ce_ HB hw299_0), (ce_ HB hw299_1), (ce_ HB hw299_2), (ce_ HB hw299_3)⟩ (fun hHeld => ?_); refine with_tabW bY.tab6 bY.bits6 (fun HT_ HW_ => ?_)
   generalize wr.drew = w8 at HO_5 HB hx298_0 hx298_1 hx298_2 hx298_3 hx299_0 hx299_1 hx299_2 hx299_3 hHeld ⊢
   refine pu_ 0 29 (bv 14 1) ?_
   refine pu_ 1 30 (bv 14 3) ?_
   refine pu_ 2 31 (bv 14 7) ?_
   refine pu_ 3 32 (bv 14 15) ?_
   refine pu_ 4 33 (bv 14 31) ?_
   refine pu_ 6 35 (bv 14 95) ?_
   refine pu_ 7 36 (bv 14 223) ?_
   refine pu_ 8 37 (bv 14 479) ?_
   refine pu_ 9 38 (bv 14 991) ?_
   refine tk_ 5 34 (bv 14 1023) hHeld ?_
   refine tk_ 10 39 (bv 14 2047) hHeld ?_
   refine pu_ 11 40 (bv 14 4095) ?_
   refine one_ (i := 12) (N := some 41) (bv 14 8191) rfl rfl (one_of HT_.out (by kernel_rfl)) (by decide) (fun K hK => ?_)
   refine goes_ Tryz.func148 (by kernel_rfl) rfl #[.slice Ao9 x5_1.length co9, .agg #[.int .i64 ((aI l0 x6_1).f0), .int .i64 ((aI l0 x6_1).f2)]] (by rfl) rfl rfl (by (try simp only [List.map_toArray, List.map_cons, List.map_nil]); first | done | rfl | (simp only [List.length_drop, List.length_take]; rfl)) ?_
   with_reducible refine (aK.calls k1 _ _ x5_1 ((aI l0 x6_1).f0) ((aI l0 x6_1).f2) t300 _ ?s1 ?s2 ?s3 A7.out).mono ?_
   (case s1 => exact gw_ HG.out)
   (case s2 => repeat (first | exact (Kd.R_reads' HO_5.out).2.2 | (with_reducible refine Kd.C_alloc ?_ _) | (with_reducible refine Kd.C_drewN ?_ _) | (with_reducible refine Kd.C_drew ?_)))
   (case s3 => exact (Kd.R_reads' HO_5.out).2.1)
   rintro e w10 ⟨v301, rfl, ho0, hb⟩
   refine ⟨_, rfl, ?_⟩
   have HO302 := am_ (Kd.R_lower (Kd.R_new' ho0 (Kd.R_lt (rr_ HO_5))) (below_size bl_))
   replace HO_5 := am_ (Kd.R_elder' (rr_ HO_5) (Kd.R_base ho0) hb)
   replace HB := bp_ hb
   (try clear hb)
   (try clear hb2)
   (try clear hk)
   (try clear hi)
   (try clear ho0)
   refine hK.out _ _ ⟨(ce_ HB hw298_0), (ce_ HB hw298_1), (ce_ HB hw298_2), (ce_ HB hw298_3), (ce_ HB hw299_0), (ce_ HB hw299_1), (ce_ HB hw299_2), (ce_ HB hw299_3)⟩ (fun hHeld => ?_)
   clear hK K
   refine norm_ (a' := ?_) ?_ ?_
   rotate_left
   · show Act.put _ (some 41) _ = _
     simp only [Act.put, List.setIfInBounds_toArray, List.set_cons_zero, List.set_cons_succ, i64_w, i32_w]
     rfl
   refine pu_ 13 5 (bv 14 16383) ?_
   refine done_ (done_of HT_.out (by kernel_rfl)) ?_
   try go_wp2
   go_roundg k1
   case measure => have := HK1.out; omega
   case rel => exact ⟨(t300), (wrap64 (x6_1 + 1)), ra_, H, ⟨by have := HK1.out; omega⟩, ⟨by (with_reducible repeat (first | apply Kd.R_alloc | apply Kd.R_drewN | apply Kd.R_drew)); exact Kd.R_mono HO302.out (fun _ hk => trivial)⟩, ⟨bl_⟩⟩
end Go.Proofs.YthkeonbmgcphkaaGreatDoor.PM
namespace Go.Proofs.YthkeonbmgcphkaaGreatDoor.PM
open Go.RowKit Go.Proofs.YthkeonbmgcphkaaGreatDoorW.PrintWords Go.Proofs.YthkeonbmgcphkaaGreatDoorW.PrintLast Go.Proofs.YthkeonbmgcphkaaGreatDoorW.PrintMore
attribute [local go_sem] max2_int min2_int max_two min_two max_three min_three max_four min_four
set_option linter.unusedVariables false
set_option maxHeartbeats 8000000
set_option maxRecDepth 100000
set_option linter.unusedSimpArgs false
mutual
def bI.l0 : Nat → List (S138) → List (S44) → Int → Option ((List (S44)))
 | 0, _, _, _ => none
 | k + 1, x0, x3, x4 => if x4 < (x0.length : Int) then (bI.l1 k x0 x3 x4 0) else (some x3)
def bI.l1 : Nat → List (S138) → List (S44) → Int → Int → Option ((List (S44)))
 | 0, _, _, _, _ => none
 | k + 1, x0, x3, x4, x5 => if 0 ≤ x4 then (if x4 < (x0.length : Int) then (if x5 < (((bJ x0 x4).f2).length : Int) then (if 0 ≤ x5 then (if x3.length < 4398046511104 then (bI.l1 k x0 (x3 ++ [(⟨(dC ((bJ x0 x4).f2) x5).f0, (bJ x0 x4).f0, (dC ((bJ x0 x4).f2) x5).f1, (bJ x0 x4).f1⟩ : S44)]) x4 (wrap64 (x5 + 1))) else (none)) else (none)) else (bI.l0 k x0 x3 (wrap64 (x4 + 1)))) else (none)) else (none)
end
def bI.f (k : Nat) (l0 : List (S138)) : Option ((List (S44))) := bI.l0 k l0 ([] : List (S44)) 0
def bI.T8 : Bool × List (List Nat × List Nat) := (true, [([], []), ([], []), ([], []), ([1, 2], [1, 2]), ([3], [3]), ([4], [4]), ([], []), ([5, 6], [5, 6]), ([7], [7]), ([8], [8]), ([], []), ([], []), ([10, 11], [10, 11]), ([12], [12]), ([13], [13]), ([], []), ([], []), ([15, 16], [15, 16]), ([17], [17]), ([18], [18]), ([], []), ([19, 20], [19, 20]), ([21], [21]), ([22], [22]), ([], []), ([], []), ([24, 25], [24, 25]), ([26], [26]), ([27], [27]), ([9, 14, 23, 28], [9, 14, 23, 28]), ([29], [29]), ([0, 30], [0, 30]), ([31, 31, 0, 1, 2, 3, 4, 5, 6, 7, 8, 9, 10, 11, 12, 13, 14, 15, 16, 17, 18, 19, 20, 21, 22, 23, 24, 25, 26, 27, 28, 29, 30, 31], [0, 31])])
def bI.B8 : List Nat := [0, 0, 0, 6, 14, 30, 0, 126, 254, 510, 0, 0, 3072, 7168, 15360, 0, 0, 98304, 229376, 491520, 0, 2064384, 4161536, 8355840, 0, 0, 50331648, 117440512, 251658240, 536870910, 1073741822, 2147483647, 4294967295]
theorem bI.tab8 : rtab .any (opsOf Tryz.f119 8) = bI.T8 := by kernel_rfl
theorem bI.bits8 : waitsOk bI.T8.2 bI.B8 = true := by kernel_rfl
theorem bI.calls (k : Nat) (A0 : Option Addr) (c0 : Nat) (l0 : List (S138)) (r : List (S44)) (w : World) (hG : Tryz.GW w) (hr0 : Kd.C k138 w A0 l0.length l0) (hc0 : l0.length ≤ c0) (h : bI.f k l0 = some r) :
 Calls Tryz.prog 119 #[.slice A0 l0.length c0] w fun e w' => ∃ v0_ : Value, e = .returned (v0_) ∧ Kd.R k44 44 w' w.heap.size (fun _ => True) v0_ r ∧ Below w.heap.size w w' := by
 have hu44 := Tryz.underlying44
 have HR0 := am_ hr0
 have HC0 := am_ hc0
 clear hr0 hc0
 have HG := am_ hG
 clear hG
 have HB := am_ (Below.refl w.heap.size w)
 have H : (bI.l0 k l0 ([] : List (S44)) 0) = some r := h
 clear h
 replace H := am_ H
 go_enter Tryz.func119, Tryz.ntmps119
 go_wp2
 go_loopg [3, 4] k (fun kq v3 v4 w' => ∃ (x3_1 : List (S44)) (x4_1 : Int), v4 = .int .i64 x4_1 ∧ Aside0 (bI.l0 kq l0 x3_1 x4_1 = some r) ∧ Aside0 (kq ≤ k) ∧ Aside0 (Kd.R k44 44 w' w.heap.size (fun _ => True) v3 x3_1) ∧ Aside0 (Below w.heap.size w w'))
 case atStart => exact ⟨(([] : List (S44))), (0), ra_, H, ⟨Nat.le_refl _⟩, ⟨by first | exact Kd.R_nil _ _ _ _ _ | exact Kd.N_nil _ _ _ _ _ | exact Kd.V_nil _ _ _ _ _ | exact Kd.Q_nil _ _ _ _ _ | exact Kd.S_nil _ _ _ _ _⟩, ⟨bl_⟩⟩
 case round =>
  clear H
  try clear c1
  obtain ⟨x3_1, x4_1, rfl, HA, HK1, HO_3, HB⟩ := hrel
  cases gk with
  | zero => exact absurd HA.out (by simp [bI.l0])
  | succ k1 =>
   have H := HA.out
   clear HA
   simp only [bI.l0] at H
   by_cases c2 : x4_1 < (l0.length : Int)
   rotate_left
   · rw [if_neg c2] at H
     have c2b0 := decide_eq_false c2
     clear c2
     obtain rfl := sj_ H
     go_wp2
     go_ret
     exact ⟨_, er_, rr_ HO_3, bl_⟩
   rw [if_pos c2] at H
   have c2b0 := decide_eq_true c2
   clear c2
   replace H := am_ H
   go_wp2
   go_loopg [3, 5] k1 (fun kq v3 v5 w' => ∃ (x3_2 : List (S44)) (x5_2 : Int), v5 = .int .i64 x5_2 ∧ Aside0 (bI.l1 kq l0 x3_2 x4_1 x5_2 = some r) ∧ Aside0 (kq ≤ k1) ∧ Aside0 (Kd.R k44 44 w' w.heap.size (fun _ => True) v3 x3_2) ∧ Aside0 (Below w.heap.size w w'))
   case atStart => exact ⟨(x3_1), (0), ra_, H, ⟨Nat.le_refl _⟩, ⟨rr_ HO_3⟩, ⟨bl_⟩⟩
   case round =>
    clear H
    try clear c1
    try clear c2
    try clear c2b0
    try clear p2
    obtain ⟨x3_2, x5_2, rfl, HA, HK2, HO_3, HB⟩ := hrel
    cases gk with
    | zero => exact absurd HA.out (by simp [bI.l1])
    | succ k2 =>
     have H := HA.out
     clear HA
     simp only [bI.l1] at H
     obtain ⟨c3b0, H⟩ := ifd_ H
     obtain ⟨c4b0, H⟩ := ifd_ H
     by_cases c5 : x5_2 < (((bJ l0 x4_1).f2).length : Int)
     rotate_left
     · rw [if_neg c5] at H
       have c5b0 := decide_eq_false c5
       clear c5
       replace H := am_ H
       have p303 := pt_ x4_1
       have q303 := qt_ x4_1 l0.length
       obtain ⟨ad303, A303_2, c303_2, e303, hx303_0, hx303_1, hx303_2, hl303_2, hi303_2⟩ := eP HR0.out x4_1 (oe_ p303) (oe_ q303)
       cases e303
       replace hx303_0 := ce_ HB hx303_0
       replace hx303_1 := ce_ HB hx303_1
       replace hx303_2 := ce_ HB hx303_2
       have HR303_2 := am_ hi303_2
       have HC303_2 := am_ hl303_2
       clear hi303_2 hl303_2
       go_wp2
       go_roundg k2
       case measure => have := HK1.out; have := HK2.out; omega
       case rel => exact ⟨(x3_2), (wrap64 (x4_1 + 1)), ra_, H, ⟨by have := HK1.out; have := HK2.out; omega⟩, ⟨rr_ HO_3⟩, ⟨bl_⟩⟩
     rw [if_pos c5] at H
     have c5b0 := decide_eq_true c5
     clear c5
     obtain ⟨c6b0, H⟩ := ifd_ H
     obtain ⟨LMc7, H⟩ := ifa_ H
     obtain ⟨y310, hy310⟩ : ∃ y_ : List (S44), y_ = (x3_2 ++ [(⟨(dC ((bJ l0 x4_1).f2) x5_2).f0, (bJ l0 x4_1).f0, (dC ((bJ l0 x4_1).f2) x5_2).f1, (bJ l0 x4_1).f1⟩ : S44)]) := ⟨_, rfl⟩
     replace H : (bI.l1 k2 l0 y310 x4_1 (wrap64 (x5_2 + 1))) = some r := by first | (rw [hy310]; with_reducible exact H) | (have H2_ := (Option.bind_some _ _).symm.trans H; rw [hy310]; with_reducible exact H2_) | (have H2_ := (Option.bind_some _ _).symm.trans H; with_reducible exact H2_) | with_reducible exact H | (rw [hy310]; exact H) | exact H
     have Ny310 := am_ hy310
     clear hy310
     replace H := am_ H
     have p303 := pt_ x4_1
     have q303 := qt_ x4_1 l0.length
     obtain ⟨ad303, A303_2, c303_2, e303, hx303_0, hx303_1, hx303_2, hl303_2, hi303_2⟩ := eP HR0.out x4_1 (oe_ p303) (oe_ q303)
     cases e303
     replace hx303_0 := ce_ HB hx303_0
     replace hx303_1 := ce_ HB hx303_1
     replace hx303_2 := ce_ HB hx303_2
     have HR303_2 := am_ hi303_2
     have HC303_2 := am_ hl303_2
     clear hi303_2 hl303_2
     try go_wp2
     replace HO_3 := am_ (Kd.R_drew HO_3.out)
     replace HB := am_ (below_drew1 HB.out)
     have p304 := pt_ x4_1
     have q304 := qt_ x4_1 l0.length
     obtain ⟨ad304, A304_2, c304_2, e304, hx304_0, hx304_1, hx304_2, hl304_2, hi304_2⟩ := eP HR0.out x4_1 (oe_ p304) (oe_ q304)
     have hw304_2 := hx304_2
     have hw304_1 := hx304_1
     have hw304_0 := hx304_0
     obtain rfl : ad303 = ad304 := (by injection e304)
     replace hx304_0 := ce_ HB hx304_0
     replace hx304_1 := ce_ HB hx304_1
     replace hx304_2 := ce_ HB hx304_2
     have HR304_2 := am_ hi304_2
     have HC304_2 := am_ hl304_2
     clear hi304_2 hl304_2
     have p305 := pt_ x5_2
     have q305 : x5_2 < (((bJ l0 x4_1).f2).length : Int) := dt_
     obtain ⟨ad305, e305, hx305_0, hx305_1⟩ := fU HR304_2.out x5_2 (oe_ p305) q305
     have hw305_1 := hx305_1
     have hw305_0 := hx305_0
     cases e305
     replace hx305_0 := ce_ HB hx305_0
     replace hx305_1 := ce_ HB hx305_1
     replace q305 := eq_true q305
     have p306 := pt_ x4_1
     have q306 := qt_ x4_1 l0.length
     obtain ⟨ad306, A306_2, c306_2, e306, hx306_0, hx306_1, hx306_2, hl306_2, hi306_2⟩ := eP HR0.out x4_1 (oe_ p306) (oe_ q306)
     have hw306_2 := hx306_2
     have hw306_1 := hx306_1
     have hw306_0 := hx306_0
     obtain rfl : ad303 = ad306 := (by injection e306)
     replace hx306_0 := ce_ HB hx306_0
     replace hx306_1 := ce_ HB hx306_1
     replace hx306_2 := ce_ HB hx306_2
     have HR306_2 := am_ hi306_2
     have HC306_2 := am_ hl306_2
     clear hi306_2 hl306_2
     have ea_ := Option.some.inj (hx304_2.symm.trans hx306_2)
     injection ea_ with ea_ en_ ec_
     subst ea_
     subst ec_
     clear en_
     have p307 := pt_ x4_1
     have q307 := qt_ x4_1 l0.length
     obtain ⟨ad307, A307_2, c307_2, e307, hx307_0, hx307_1, hx307_2, hl307_2, hi307_2⟩ := eP HR0.out x4_1 (oe_ p307) (oe_ q307)
     have hw307_2 := hx307_2
     have hw307_1 := hx307_1
     have hw307_0 := hx307_0
     obtain rfl : ad303 = ad307 := (by injection e307)
     replace hx307_0 := ce_ HB hx307_0
     replace hx307_1 := ce_ HB hx307_1
     replace hx307_2 := ce_ HB hx307_2
     have HR307_2 := am_ hi307_2
     have HC307_2 := am_ hl307_2
     clear hi307_2 hl307_2
     have ea_ := Option.some.inj (hx304_2.symm.trans hx307_2)
     injection ea_ with ea_ en_ ec_
     subst ea_
     subst ec_
     clear en_
     have p308 := pt_ x5_2
     have q308 : x5_2 < (((bJ l0 x4_1).f2).length : Int) := dt_
     obtain ⟨ad308, e308, hx308_0, hx308_1⟩ := fU HR307_2.out x5_2 (oe_ p308) q308
     have hw308_1 := hx308_1
     have hw308_0 := hx308_0
     cases e308
     replace hx308_0 := ce_ HB hx308_0
     replace hx308_1 := ce_ HB hx308_1
     replace q308 := eq_true q308
     have p309 := pt_ x4_1
     have q309 := qt_ x4_1 l0.length
     obtain ⟨ad309, A309_2, c309_2, e309, hx309_0, hx309_1, hx309_2, hl309_2, hi309_2⟩ := eP HR0.out x4_1 (oe_ p309) (oe_ q309)
     have hw309_2 := hx309_2
     have hw309_1 := hx309_1
     have hw309_0 := hx309_0
     obtain rfl : ad303 = ad309 := (by injection e309)
     replace hx309_0 := ce_ HB hx309_0
     replace hx309_1 := ce_ HB hx309_1
     replace hx309_2 := ce_ HB hx309_2
     have HR309_2 := am_ hi309_2
     have HC309_2 := am_ hl309_2
     clear hi309_2 hl309_2
     have ea_ := Option.some.inj (hx304_2.symm.trans hx309_2)
     injection ea_ with ea_ en_ ec_
     subst ea_
     subst ec_
     clear en_
     refine start_ (n := 33) (S := fun w' => w'.cell? (ad303.add ((x4_1).toNat * 3)) = some (.int .i64 ((bJ l0 x4_1).f0)) ∧ w'.cell? ⟨(ad303.add ((x4_1).toNat * 3)).block, (ad303.add ((x4_1).toNat * 3)).off + 1, none⟩ = some (.int .i64 ((bJ l0 x4_1).f1)) ∧ w'.cell? ⟨(ad303.add ((x4_1).toNat * 3)).block, (ad303.add ((x4_1).toNat * 3)).off + 2, none⟩ = some (.slice (some ad305) ((bJ l0 x4_1).f2).length c304_2) ∧ w'.cell? (ad305.add ((x5_2).toNat * 2)) = some (.int .i64 ((dC ((bJ l0 x4_1).f2) x5_2).f0)) ∧ w'.cell? ⟨(ad305.add ((x5_2).toNat * 2)).block, (ad305.add ((x5_2).toNat * 2)).off + 1, none⟩ = some (.int .i64 ((dC ((bJ l0 x4_1).f2) x5_2).f1)) ∧ w'.cell? (ad303.add ((x4_1).toNat * 3)) = some (.int .i64 ((bJ l0 x4_1).f0)) ∧ w'.cell? ⟨(ad303.add ((x4_1).toNat * 3)).block, (ad303.add ((x4_1).toNat * 3)).off + 1, none⟩ = some (.int .i64 ((bJ l0 x4_1).f1)) ∧ w'.cell? ⟨(ad303.add ((x4_1).toNat * 3)).block, (ad303.add ((x4_1).toNat * 3)).off + 2, none⟩ = some (.slice (some ad305) ((bJ l0 x4_1).f2).length c304_2) ∧ w'.cell? (ad303.add ((x4_1).toNat * 3)) = some (.int .i64 ((bJ l0 x4_1).f0)) ∧ w'.cell? ⟨(ad303.add ((x4_1).toNat * 3)).block, (ad303.add ((x4_1).toNat * 3)).off + 1, none⟩ = some (.int .i64 ((bJ l0 x4_1).f1)) ∧ w'.cell? ⟨(ad303.add ((x4_1).toNat * 3)).block, (ad303.add ((x4_1).toNat * 3)).off + 2, none⟩ = some (.slice (some ad305) ((bJ l0 x4_1).f2).length c304_2) ∧ w'.cell? (ad305.add ((x5_2).toNat * 2)) = some (.int .i64 ((dC ((bJ l0 x4_1).f2) x5_2).f0)) ∧ w'.cell? ⟨(ad305.add ((x5_2).toNat * 2)).block, (ad305.add ((x5_2).toNat * 2)).off + 1, none⟩ = some (.int .i64 ((dC ((bJ l0 x4_1).f2) x5_2).f1)) ∧ w'.cell? (ad303.add ((x4_1).toNat * 3)) = some (.int .i64 ((bJ l0 x4_1).f0)) ∧ w'.cell? ⟨(ad303.add ((x4_1).toNat * 3)).block, (ad303.add ((x4_1).toNat * 3)).off + 1, none⟩ = some (.int .i64 ((bJ l0 x4_1).f1)) ∧ w'.cell? ⟨(ad303.add ((x4_1).toNat * 3)).block, (ad303.add ((x4_1).toNat * 3)).off + 2, none⟩ = some (.slice (some ad305) ((bJ l0 x4_1).f2).length c304_2)) (ds := []) (bv 33 0) (by kernel_rfl) rfl rfl ⟨(ce_ HB hw304_0), (ce_ HB hw304_1), (ce_ HB hw304_2), (ce_ HB hw305_0), (ce_ HB hw305_1), (ce_ HB hw306_0), (ce_ HB hw306_1), (ce_ HB hw306_2), (ce_ HB hw307_0), (ce_ HB hw307_1), (ce_ HB hw307_2), (ce_ HB hw308_0), (ce_ HB hw308_1), (ce_ HB hw309_0), (ce_ HB hw309_1), (ce_ HB hw309_2)⟩ (fun hHeld => ?_); refine with_tabW bI.tab8 bI.bits8 (fun HT_ HW_ => ?_)
     generalize wr.drew = w8 at HO_3 HB HR304_2 HR306_2 HR307_2 HR309_2 hx304_0 hx304_1 hx304_2 hx305_0 hx305_1 hx306_0 hx306_1 hx306_2 hx307_0 hx307_1 hx307_2 hx308_0 hx308_1 hx309_0 hx309_1 hx309_2 hHeld ⊢
     refine pu_ 0 22 (bv 33 1) ?_
     refine pu_ 1 23 (bv 33 3) ?_
     refine pu_ 2 24 (bv 33 7) ?_
     refine pu_ 3 25 (bv 33 15) ?_
     refine pu_ 4 26 (bv 33 31) ?_
     refine pu_ 6 28 (bv 33 95) ?_
     refine pu_ 10 32 (bv 33 1119) ?_
     refine pu_ 11 33 (bv 33 3167) ?_
     refine pu_ 12 34 (bv 33 7263) ?_
     refine pu_ 13 35 (bv 33 15455) ?_
     refine pu_ 15 37 (bv 33 48223) ?_
     refine pu_ 16 38 (bv 33 113759) ?_
     refine pu_ 17 39 (bv 33 244831) ?_
     refine pu_ 18 40 (bv 33 506975) ?_
     refine pu_ 20 42 (bv 33 1555551) ?_
     refine pu_ 24 46 (bv 33 18332767) ?_
     refine pu_ 25 47 (bv 33 51887199) ?_
     refine pu_ 26 48 (bv 33 118996063) ?_
     refine pu_ 27 49 (bv 33 253213791) ?_
     refine tk_ 5 27 (bv 33 253213823) hHeld ?_
     refine pu_ 7 29 (bv 33 253213951) ?_
     refine pu_ 8 30 (bv 33 253214207) ?_
     refine tk_ 9 31 (bv 33 253214719) hHeld ?_
     refine tk_ 14 36 (bv 33 253231103) hHeld ?_
     refine tk_ 19 41 (bv 33 253755391) hHeld ?_
     refine pu_ 21 43 (bv 33 255852543) ?_
     refine pu_ 22 44 (bv 33 260046847) ?_
     refine tk_ 23 45 (bv 33 268435455) hHeld ?_
     refine tk_ 28 50 (bv 33 536870911) hHeld ?_
     refine pu_ 29 51 (bv 33 1073741823) ?_
     refine one_ (i := 30) (N := some 52) (bv 33 2147483647) rfl rfl (one_of HT_.out (by kernel_rfl)) (by decide) (fun K hK => ?_)
     refine value_ (w1 := ?_) (v := ?_) (by rfl) rfl ?_ ?_
     rotate_left 2
     · go_simp
       constructor
       · rfl
       rfl
     refine hK.out _ _ ⟨(World.cell?_alloc_lt _ _ _ (World.block_lt_of_cell? _ _ ((ce_ HB hw304_0)))).trans ((ce_ HB hw304_0)), (World.cell?_alloc_lt _ _ _ (World.block_lt_of_cell? _ _ ((ce_ HB hw304_1)))).trans ((ce_ HB hw304_1)), (World.cell?_alloc_lt _ _ _ (World.block_lt_of_cell? _ _ ((ce_ HB hw304_2)))).trans ((ce_ HB hw304_2)), (World.cell?_alloc_lt _ _ _ (World.block_lt_of_cell? _ _ ((ce_ HB hw305_0)))).trans ((ce_ HB hw305_0)), (World.cell?_alloc_lt _ _ _ (World.block_lt_of_cell? _ _ ((ce_ HB hw305_1)))).trans ((ce_ HB hw305_1)), (World.cell?_alloc_lt _ _ _ (World.block_lt_of_cell? _ _ ((ce_ HB hw306_0)))).trans ((ce_ HB hw306_0)), (World.cell?_alloc_lt _ _ _ (World.block_lt_of_cell? _ _ ((ce_ HB hw306_1)))).trans ((ce_ HB hw306_1)), (World.cell?_alloc_lt _ _ _ (World.block_lt_of_cell? _ _ ((ce_ HB hw306_2)))).trans ((ce_ HB hw306_2)), (World.cell?_alloc_lt _ _ _ (World.block_lt_of_cell? _ _ ((ce_ HB hw307_0)))).trans ((ce_ HB hw307_0)), (World.cell?_alloc_lt _ _ _ (World.block_lt_of_cell? _ _ ((ce_ HB hw307_1)))).trans ((ce_ HB hw307_1)), (World.cell?_alloc_lt _ _ _ (World.block_lt_of_cell? _ _ ((ce_ HB hw307_2)))).trans ((ce_ HB hw307_2)), (World.cell?_alloc_lt _ _ _ (World.block_lt_of_cell? _ _ ((ce_ HB hw308_0)))).trans ((ce_ HB hw308_0)), (World.cell?_alloc_lt _ _ _ (World.block_lt_of_cell? _ _ ((ce_ HB hw308_1)))).trans ((ce_ HB hw308_1)), (World.cell?_alloc_lt _ _ _ (World.block_lt_of_cell? _ _ ((ce_ HB hw309_0)))).trans ((ce_ HB hw309_0)), (World.cell?_alloc_lt _ _ _ (World.block_lt_of_cell? _ _ ((ce_ HB hw309_1)))).trans ((ce_ HB hw309_1)), (World.cell?_alloc_lt _ _ _ (World.block_lt_of_cell? _ _ ((ce_ HB hw309_2)))).trans ((ce_ HB hw309_2))⟩ (fun hHeld => ?_)
     clear hK K
     refine norm_ (a' := ?_) ?_ ?_
     rotate_left
     · show Act.put _ (some 52) _ = _
       simp only [Act.put, List.setIfInBounds_toArray, List.set_cons_zero, List.set_cons_succ, i64_w, i32_w]
       rfl
     refine one_ (i := 31) (N := some 53) (bv 33 4294967295) rfl rfl (one_of HT_.out (by kernel_rfl)) (by decide) (fun K hK => ?_)
     refine Kd.R_append_step k44 (w0 := w) w.heap.size (by rfl) (.tmp 22) (.tmp 52) 38 44 (.agg #[(.int .i64 0), (.int .i64 0), (.int .i64 0), (.int .i64 0)]) 32 rfl Tryz.underlying38 info44 rfl (by decide) (by omega) u3 x3_2 (⟨(dC ((bJ l0 x4_1).f2) x5_2).f0, (bJ l0 x4_1).f0, (dC ((bJ l0 x4_1).f2) x5_2).f1, (bJ l0 x4_1).f1⟩ : S44) [.int .i64 ((dC ((bJ l0 x4_1).f2) x5_2).f0), .int .i64 ((bJ l0 x4_1).f0), .int .i64 ((dC ((bJ l0 x4_1).f2) x5_2).f1), .int .i64 ((bJ l0 x4_1).f1)] (fun _ => True) (fun _ => False) rfl rfl ?aP (fun _ hk => hk.elim) ?aF ?aO ?aB ?aS ?aL ?_
     (case aP => exact jM _ _ _ (⟨(dC ((bJ l0 x4_1).f2) x5_2).f0, (bJ l0 x4_1).f0, (dC ((bJ l0 x4_1).f2) x5_2).f1, (bJ l0 x4_1).f1⟩ : S44))
     (case aB => exact bl_)
     (case aF => exact (fun _ _ => trivial))
     (case aO => exact (rr_ HO_3))
     (case aS => exact (below_size bl_))
     (case aL => have := LMc7.out; omega)
     intro v311 w9 ho hb hg hat
     rw [← Ny310.out] at ho
     have n0_ := am_ (hb)
     have n1_ := am_ (ho)
     clear HB
     clear HO_3
     have HB := n0_
     have HO312 := n1_
     clear n0_ n1_
     clear ho hb hg hat
     refine hK.out _ _ ⟨(ce_ HB hw304_0), (ce_ HB hw304_1), (ce_ HB hw304_2), (ce_ HB hw305_0), (ce_ HB hw305_1), (ce_ HB hw306_0), (ce_ HB hw306_1), (ce_ HB hw306_2), (ce_ HB hw307_0), (ce_ HB hw307_1), (ce_ HB hw307_2), (ce_ HB hw308_0), (ce_ HB hw308_1), (ce_ HB hw309_0), (ce_ HB hw309_1), (ce_ HB hw309_2)⟩ (fun hHeld => ?_)
     clear hK K
     refine norm_ (a' := ?_) ?_ ?_
     rotate_left
     · show Act.put _ (some 53) _ = _
       simp only [Act.put, List.setIfInBounds_toArray, List.set_cons_zero, List.set_cons_succ, i64_w, i32_w]
       rfl
     refine pu_ 32 3 (bv 33 8589934591) ?_
     refine done_ (done_of HT_.out (by kernel_rfl)) ?_
     try go_wp2
     go_roundg k2
     case measure => have := HK1.out; have := HK2.out; omega
     case rel => exact ⟨(y310), (wrap64 (x5_2 + 1)), ra_, H, ⟨by have := HK1.out; have := HK2.out; omega⟩, ⟨rr_ HO312⟩, ⟨bl_⟩⟩
def bQ.l0 : Nat → List S44 → List Int → Nat → List S138 → Option (List S138)
 | 0, _, _, _, _ => none
 | k + 1, l, ys, i, out => if i < ys.length then ((bY.f k l (rd ys ((i - 1 : Nat) : Int))).bind fun t => (dW.f k out (rd ys ((i - 1 : Nat) : Int)) (rd ys (i : Int)) t).bind fun o => bQ.l0 k l ys (i + 1) o) else some out
def bQ.f (k : Nat) (l0 : List S44) : Option (List S44) := (bU.f k l0).bind fun ys => (bQ.l0 k l0 ys 1 []).bind fun out => bI.f k out
theorem bQ.cell {lo : Nat} {ok : Nat → Prop} {w : World} {ad : Addr} {c : Nat} {ys : List Int} {i : Nat} {y : Int} (h : Kd.R (Kd.int .i64) 3 w lo ok (.slice (some ad) ys.length c) ys) (hi : i < ys.length) (hy : rd ys (i : Int) = y) : w.cell? (ad.add i) = some (.int .i64 y) := by
 obtain ⟨ad', eA, x⟩ := Kd.at_int (Kd.R_reads' h).2.2 (i : Int) (by omega) (by omega)
 obtain rfl : ad = ad' := by injection eA
 rw [Int.toNat_natCast, hy] at x
 exact x
theorem bQ.calls (k : Nat) (A0 : Option Addr) (c0 : Nat) (l0 : List (S44)) (r : List (S44)) (w : World) (hG : Tryz.GW w) (hr0 : Kd.C k44 w A0 l0.length l0) (hc0 : l0.length ≤ c0) (h : bQ.f k l0 = some r) :
 Calls Tryz.prog 75 #[.slice A0 l0.length c0] w fun e w' => ∃ v0_ : Value, e = .returned (v0_) ∧ Kd.R k44 44 w' w.heap.size (fun _ => True) v0_ r ∧ Below w.heap.size w w' := by
 have HG := am_ hG
 have HR0 := am_ hr0
 have HC0 := am_ hc0
 clear hG hr0 hc0
 obtain ⟨ys, hys, h1⟩ := Option.bind_eq_some_iff.1 h
 obtain ⟨out, hout, htold⟩ := Option.bind_eq_some_iff.1 h1
 have HY := am_ hys
 have HO := am_ hout
 have HT := am_ htold
 clear h h1 hys hout htold
 go_enter Tryz.func75, Tryz.ntmps75
 go_upto_block 0 with (go_at_call 116; refine (bU.calls k A0 c0 l0 ys w HG.out HR0.out HC0.out HY.out).mono ?_; rintro e w1 ⟨vY, rfl, hRY, hb1⟩; obtain ⟨AY, cY, rfl⟩ := Kd.R_slice hRY; have RY := am_ (show Kd.R (Kd.int .i64) 3 w1 w.heap.size (fun k => some k = (Value.slice AY ys.length cY).ownBlock) (.slice AY ys.length cY) ys from Kd.R_tight rfl hRY); have HB := am_ hb1; clear hRY hb1 HY)
 have HYL : Aside0 (ys.length ≤ 9223372036854775807) := ⟨(Kd.R_reads' RY.out).2.2.2.1⟩
 go_cut [4] (fun v4 wc => Aside0 (Kd.S k138 138 wc w.heap.size (fun _ => True) v4 out) ∧ Aside0 (Below w.heap.size w wc))
 case first =>
  go_wp2
  go_loopg [4, 5] k (fun gg v4 v5 wr => ∃ (i j : Nat) (o : List S138), v5 = .int .i64 i ∧ Aside0 (i = j + 1) ∧ Aside0 (bQ.l0 gg l0 ys i o = some out) ∧ Aside0 (Kd.R (Kd.int .i64) 3 wr w.heap.size (fun k => some k = (Value.slice AY ys.length cY).ownBlock) (.slice AY ys.length cY) ys) ∧
   Aside0 (Kd.S k138 138 wr w.heap.size (fun k => some k ≠ (Value.slice AY ys.length cY).ownBlock) v4 o) ∧ Aside0 (Below w.heap.size w wr))
  case atStart => exact ⟨1, 0, [], rfl, ⟨rfl⟩, HO, RY, ⟨Kd.S_nil _ _ _ _ _⟩, HB⟩
  case round =>
   clear HO RY HB
   obtain ⟨i, j, o, rfl, hij, HA, RY, SO, HB⟩ := hrel
   cases gk with
   | zero => exact absurd HA.out (by simp [bQ.l0])
   | succ k1 =>
    have H := HA.out
    clear HA
    rw [bQ.l0] at H
    by_cases hlt : i < ys.length
    rotate_left
    · rw [if_neg hlt] at H
      have d1 : decide (i < ys.length) = false := decide_eq_false hlt
      obtain rfl := sj_ H
      clear hlt H
      go_wp2
      go_meet
      exact ⟨⟨Kd.S_mono SO.out (fun _ _ => trivial)⟩, HB⟩
    rw [if_pos hlt] at H
    have d1 : decide (i < ys.length) = true := decide_eq_true hlt
    obtain ⟨t, ht, H1⟩ := Option.bind_eq_some_iff.1 H
    obtain ⟨o1, ho1, H2⟩ := Option.bind_eq_some_iff.1 H1
    have ej : i - 1 = j := by have := hij.out; omega
    rw [ej] at ht ho1
    obtain ⟨ya, hya⟩ : ∃ ya, Aside0 (rd ys (j : Int) = ya) := ⟨_, ⟨rfl⟩⟩
    obtain ⟨yb, hyb⟩ : ∃ yb, Aside0 (rd ys (i : Int) = yb) := ⟨_, ⟨rfl⟩⟩
    rw [hya.out] at ht ho1
    rw [hyb.out] at ho1
    have HT_ := am_ ht
    have HO1 := am_ ho1
    have HN := am_ H2
    clear ht ho1 H H1 H2 ej
    obtain ⟨ad, eA, x0⟩ := Kd.at_int (Kd.R_reads' RY.out).2.2 (j : Int) (by omega) (by have := hij.out; omega)
    obtain ⟨ad', eA', x1⟩ := Kd.at_int (Kd.R_reads' RY.out).2.2 (i : Int) (by omega) (by omega)
    subst eA
    obtain rfl : ad = ad' := by injection eA'
    rw [Int.toNat_natCast] at x0 x1
    rw [hya.out] at x0
    rw [hyb.out] at x1
    have m1 : (i : Int) - 1 = (j : Int) := by have := hij.out; omega
    have m2 : IntKind.i64.wrap (j : Int) = (j : Int) := by rw [IntKind.wrap_i64]; have := hij.out; have := HYL.out; omega
    have p1 : (0 ≤ (j : Int)) = True := eq_true (by omega)
    have q1 : ((j : Int) < (ys.length : Int)) = True := eq_true (by have := hij.out; omega)
    have p2 : (0 ≤ (i : Int)) = True := eq_true (by omega)
    have q2 : ((i : Int) < (ys.length : Int)) = True := eq_true (by omega)
    have hi1 : (i : Int) + 1 ≤ 9223372036854775807 := by have := HYL.out; omega
    have hu72 := Tryz.underlying72
    have hjl : j < ys.length := by have := hij.out; omega
    have hil : i < ys.length := hlt
    clear hlt
    go_wp2
    refine start_ (n := 20) (S := (fun w' => w'.cell? (ad.add j) = some (.int .i64 ya) ∧ w'.cell? (ad.add i) = some (.int .i64 yb))) (ds := []) (bv 20 0) (by kernel_rfl) rfl rfl ⟨x0, x1⟩ (fun hHeld => ?_)
    obtain ⟨wn, hwn⟩ : ∃ wn, wr.drew = wn := ⟨_, rfl⟩
    have hbn : Below wr.heap.size wr wn := by rw [← hwn]; exact (Below.refl _ _).drew
    have RYn := am_ (Kd.R_below RY.out hbn)
    have SOn := am_ (Kd.S_below SO.out hbn)
    have HBn := am_ (below_step HB.out hbn)
    rw [hwn] at hHeld ⊢
    clear hwn hbn RY SO HB x0 x1
    refine pu_ 0 14 (bv 20 1) ?_
    refine pu_ 1 15 (bv 20 3) ?_
    refine pu_ 2 16 (bv 20 7) ?_
    refine pu_ 3 17 (bv 20 15) ?_
    refine pu_ 4 18 (bv 20 31) ?_
    refine tk_ 5 19 (bv 20 63) hHeld ?_
    refine pu_ 6 20 (bv 20 127) ?_
    refine pu_ 7 21 (bv 20 255) ?_
    refine pu_ 8 22 (bv 20 511) ?_
    refine tk_ 9 23 (bv 20 1023) hHeld ?_
    refine pu_ 10 24 (bv 20 2047) ?_
    refine pu_ 11 25 (bv 20 4095) ?_
    refine pu_ 12 26 (bv 20 8191) ?_
    refine pu_ 13 27 (bv 20 16383) ?_
    refine pu_ 14 28 (bv 20 32767) ?_
    refine tk_ 15 29 (bv 20 65535) hHeld ?_
    refine one_ (i := 16) (N := some 30) (bv 20 131071) rfl rfl (by kernel_rfl) (by decide) (fun K hK => ?_)
    refine goes_ Tryz.func118 (by kernel_rfl) rfl #[.slice A0 l0.length c0, .int .i64 ya] (by rfl) rfl rfl (by (try simp only [List.map_toArray, List.map_cons, List.map_nil]); first | done | rfl) ?_
    refine (bY.calls k1 A0 c0 l0 ya t _ (Tryz.dJ HG.out HBn.out) (Kd.C_below HR0.out HBn.out) HC0.out HT_.out).mono ?_
    rintro e_ w1 ⟨vX, rfl, hRX, hb1⟩
    have SO1 := am_ (Kd.S_below (Kd.S_mono (ok' := fun k => some k ≠ (Value.slice (some ad) ys.length cY).ownBlock ∧ k < wn.heap.size) (Kd.S_bound SOn.out) (fun k hk => ⟨hk.1, hk.2.2.1⟩)) hb1)
    have RX := am_ (Kd.R_lower (Kd.R_mono (ok' := fun k => wn.heap.size ≤ k) (Kd.R_bound hRX) (fun k hk => hk.2.1)) HBn.out.size)
    have RY1 := am_ (Kd.R_below RYn.out hb1)
    have HB1 := am_ (below_step HBn.out hb1)
    have LY := am_ (Kd.R_lt RYn.out)
    have LE := am_ hb1.size
    clear hRX hb1 SOn RYn
    obtain ⟨AX, cX, eX⟩ := Kd.R_slice RX.out
    subst eX
    refine ⟨_, rfl, ?_⟩
    refine hK.out _ _ ⟨bQ.cell RY1.out hjl hya.out, bQ.cell RY1.out hil hyb.out⟩ (fun hHeld => ?_)
    clear hK K
    refine norm_ (a' := ?_) ?_ ?_
    rotate_left
    · show Act.put _ (some 30) _ = _
      simp only [Act.put, List.setIfInBounds_toArray, List.set_cons_zero, List.set_cons_succ, i64_w, i32_w]
      rfl
    refine pu_ 17 31 (bv 20 262143) ?_
    refine one_ (i := 18) (N := some 32) (bv 20 524287) rfl rfl (by kernel_rfl) (by decide) (fun K hK => ?_)
    refine goes_ Tryz.func117 (by kernel_rfl) rfl #[u4, .agg #[.int .i64 ya, .int .i64 yb, .slice AX t.length cX]] (by rfl) rfl rfl (by (try simp only [List.map_toArray, List.map_cons, List.map_nil]); first | done | rfl) ?_
    refine (dW.calls k1 (fun k => some k ≠ (Value.slice (some ad) ys.length cY).ownBlock ∧ k < wn.heap.size) u4 o ya yb (fun k => wn.heap.size ≤ k) (.slice AX t.length cX) t o1 w _ HG.out HB1.out SO1.out (fun k h1 h2 => Nat.lt_irrefl _ (Nat.lt_of_lt_of_le h1.2 h2)) RX.out (fun k h1 h2 => Nat.lt_irrefl _ (Nat.lt_of_lt_of_le h2.2 h1)) HO1.out).mono ?_
    rintro e_ w2 ⟨vO, rfl, hSO, hb2, hK2⟩
    have SO2 := am_ (Kd.S_mono (ok' := fun k => some k ≠ (Value.slice (some ad) ys.length cY).ownBlock) hSO (fun k hk => hk.elim (fun hk => hk.elim (fun hk => hk.1) (fun hk e_ => Nat.lt_irrefl _ (Nat.lt_of_lt_of_le (LY.out k e_.symm) hk))) (fun hk e_ => Nat.lt_irrefl _ (Nat.lt_of_lt_of_le (LY.out k e_.symm) (Nat.le_trans LE.out hk)))))
    have RY2 := am_ (Kd.R_kept RY1.out hK2 (fun k h1 h2 => h2.elim (fun h => h.1 h1) (fun h => Nat.lt_irrefl _ (Nat.lt_of_lt_of_le (LY.out k h1.symm) h))))
    have HB2 := am_ hb2
    refine ⟨_, rfl, ?_⟩
    refine hK.out _ _ ⟨bQ.cell RY2.out hjl hya.out, bQ.cell RY2.out hil hyb.out⟩ (fun hHeld => ?_)
    clear hK K
    refine norm_ (a' := ?_) ?_ ?_
    rotate_left
    · show Act.put _ (some 32) _ = _
      simp only [Act.put, List.setIfInBounds_toArray, List.set_cons_zero, List.set_cons_succ, i64_w, i32_w]
      rfl
    refine pu_ 19 4 (bv 20 1048575) ?_
    refine done_ (by kernel_rfl) ?_
    clear hHeld hSO hb2 hK2 SO1 RX RY1 HBn HB1
    go_wp2
    go_roundg k1
    case measure => omega
    case rel => exact ⟨i + 1, i, o1, by go_num, ⟨rfl⟩, HN, RY2, SO2, HB2⟩
 case rest =>
  clear HB RY HYL
  obtain ⟨SO, HB⟩ := hcut
  obtain ⟨Ao, co, rfl⟩ := Kd.S_slice SO.out
  go_wp2_with (go_at_call 119; refine (bI.calls k Ao co out r _ (gw_ HG.out) (Kd.S_reads' SO.out).2.2 (Kd.S_reads' SO.out).2.1 HT.out).mono ?_; rintro e_ w3 ⟨v3, rfl, hR3, hb3⟩; have R3 := am_ (Kd.R_lower hR3 HB.out.size); have HB3 := am_ (below_step HB.out hb3); clear hR3 hb3)
  go_ret
  exact ⟨_, rfl, R3.out, HB3.out⟩
end Go.Proofs.YthkeonbmgcphkaaGreatDoor.PM
