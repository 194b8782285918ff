import Derived.Test.YthkeonbmgcphkaaGreatDoorHg6
namespace Go.Proofs.YthkeonbmgcphkaaGreatDoor.PM
open Go.RowKit Go.Proofs.YthkeonbmgcphkaaGreatDoorW.PrintWords Go.Proofs.YthkeonbmgcphkaaGreatDoorW.PrintLast Go.Proofs.YthkeonbmgcphkaaGreatDoorW.PrintMore
attribute [local go_sem] max2_int min2_int max_two min_two max_three min_three max_four min_four
set_option linter.unusedVariables false
set_option maxHeartbeats 8000000
set_option maxRecDepth 100000
set_option linter.unusedSimpArgs false
mutual
def aK.j1 : Nat → List (S171) → List (S171) → Int → Int → Int → Option ((List (S171)))
 | 0, _, _, _, _, _ => none
 | k + 1, x0, x5, x6, x341000, x341001 => aK.l1 k x0 x5 x6 x341000 x341001
def aK.l1 : Nat → List (S171) → List (S171) → Int → Int → Int → Option ((List (S171)))
 | 0, _, _, _, _, _ => none
 | k + 1, x0, x5, x6, x341000, x341001 => if x6 < (x0.length : Int) then (if 0 ≤ x6 then (if ((dC x0 x6).f0) ≤ x341001 then (aK.l1 k x0 x5 (wrap64 (x6 + 1)) (mn x341000 ((dC x0 x6).f0)) (mx x341001 ((dC x0 x6).f1))) else (if x5.length < 8796093022208 then ((some (x5 ++ [(⟨x341000, x341001⟩ : S171)] : List (S171))).bind fun y349 => (if x6 ≤ (x0.length : Int) then ((some (x0.drop (x6 : Int).toNat : List (S171))).bind fun y352 => (if y349.length + y352.length < 8796093022208 then (some (y349 ++ y352)) else (none))) else (none))) else (none))) else (none)) else (if x5.length < 8796093022208 then ((some (x5 ++ [(⟨x341000, x341001⟩ : S171)] : List (S171))).bind fun y359 => (if 0 ≤ x6 then (if x6 ≤ (x0.length : Int) then ((some (x0.drop (x6 : Int).toNat : List (S171))).bind fun y362 => (if y359.length + y362.length < 8796093022208 then (some (y359 ++ y362)) else (none))) else (none)) else (none))) else (none))
def aK.l0 : Nat → List (S171) → List (S171) → Int → Int → Int → Option ((List (S171)))
 | 0, _, _, _, _, _ => none
 | k + 1, x0, x5, x6, x341000, x341001 => if x6 < (x0.length : Int) then (if 0 ≤ x6 then (if ((dC x0 x6).f1) < x341000 then (if x5.length < 8796093022208 then (aK.l0 k x0 (x5 ++ [(⟨(dC x0 x6).f0, (dC x0 x6).f1⟩ : S171)]) (wrap64 (x6 + 1)) x341000 x341001) else (none)) else (aK.j1 k x0 x5 x6 x341000 x341001)) else (none)) else (aK.j1 k x0 x5 x6 x341000 x341001)
end
def aK.f (k : Nat) (l0 : List (S171)) (a1_0 : Int) (a1_1 : Int) : Option ((List (S171))) := aK.l0 k l0 ([] : List (S171)) 0 a1_0 a1_1
def aK.T3 : Bool × List (List Nat × List Nat) := (true, [([], []), ([], []), ([1], [1]), ([0, 2], [0, 2]), ([3], [3]), ([4], [4]), ([4], [4]), ([5, 6, 4], [4, 5, 6]), ([7, 4], [4, 7]), ([8, 4], [4, 8]), ([4], [4]), ([10, 4], [4, 10]), ([9, 11, 4], [4, 9, 11]), ([4, 12], [4, 12])])
def aK.B3 : List Nat := [0, 0, 2, 7, 15, 31, 31, 127, 255, 511, 31, 1055, 4095, 8191]
theorem aK.tab3 : rtab .any (opsOf Tryz.f148 3) = aK.T3 := by kernel_rfl
theorem aK.kX : waitsOk aK.T3.2 aK.B3 = true := by kernel_rfl
def aK.T6 : Bool × List (List Nat × List Nat) := (true, [([], []), ([], []), ([1], [1]), ([0, 2], [0, 2]), ([3], [3]), ([4], [4]), ([4], [4]), ([5, 6, 4], [4, 5, 6]), ([7, 4], [4, 7]), ([8, 4], [4, 8]), ([4], [4]), ([10, 4], [4, 10]), ([9, 11, 4], [4, 9, 11]), ([4, 12], [4, 12])])
def aK.B6 : List Nat := [0, 0, 2, 7, 15, 31, 31, 127, 255, 511, 31, 1055, 4095, 8191]
theorem aK.tab6 : rtab .any (opsOf Tryz.f148 6) = aK.T6 := by kernel_rfl
theorem aK.bits6 : waitsOk aK.T6.2 aK.B6 = true := by kernel_rfl
def aK.T7 : Bool × List (List Nat × List Nat) := (true, [([], []), ([0], [0]), ([], []), ([], []), ([2, 3], [2, 3]), ([4], [4]), ([5], [5]), ([1, 6], [1, 6]), ([], []), ([8], [8]), ([], []), ([], []), ([10, 11], [10, 11]), ([12], [12]), ([13], [13]), ([9, 14], [9, 14]), ([0, 1, 2, 3, 4, 5, 6, 7, 8, 9], []), ([16, 7, 0, 1, 2, 3, 4, 5, 6, 7, 8, 9], [7, 16]), ([0, 1, 2, 3, 4, 5, 6, 7, 8, 9, 10, 11, 12, 13, 14, 15, 16, 17], []), ([18, 15, 17, 0, 1, 2, 3, 4, 5, 6, 7, 8, 9, 10, 11, 12, 13, 14, 15, 16, 17], [15, 18])])
def aK.B7 : List Nat := [0, 1, 0, 0, 12, 28, 60, 127, 0, 256, 0, 0, 3072, 7168, 15360, 32512, 1023, 66559, 262143, 524287]
theorem aK.tab7 : rtab .any (opsOf Tryz.f148 7) = aK.T7 := by kernel_rfl
theorem aK.jU : waitsOk aK.T7.2 aK.B7 = true := by kernel_rfl
theorem aK.calls (k : Nat) (A0 : Option Addr) (c0 : Nat) (l0 : List (S171)) (a1_0 : Int) (a1_1 : Int) (r : List (S171)) (w : World) (hG : Tryz.GW w) (hr0 : Kd.C k171 w A0 l0.length l0) (hc0 : l0.length ≤ c0) (h : aK.f k l0 a1_0 a1_1 = some r) :
 Calls Tryz.prog 148 #[.slice A0 l0.length c0, .agg #[.int .i64 a1_0, .int .i64 a1_1]] w fun e w' => ∃ v0_ : Value, e = .returned (v0_) ∧ Kd.R k171 171 w' w.heap.size (fun _ => True) v0_ r ∧ Below w.heap.size w w' := by
 have hu171 := Tryz.underlying171
 have HR0 := am_ hr0
 have HC0 := am_ hc0
 clear hr0 hc0
 have HG := am_ hG
 clear hG
 have HB := am_ (Below.refl w.heap.size w)
 have H : (aK.l0 k l0 ([] : List (S171)) 0 a1_0 a1_1) = some r := h
 clear h
 have HC3 := am_ H
 clear H
 go_enter Tryz.func148, Tryz.ntmps148
 go_upto_block 0 with (first | ((with_reducible refine gn_ 3 rfl ?_); refine bx_ (N := 3) (cs := #[.int .i64 a1_0, .int .i64 a1_1]) (t := 171) ?_; intro gb340 hg w4 hbox hb; have n0_ := am_ (below_step bl_ hb); have n1_ := am_ (hbox); have n2_ := am_ ((gs_ hg : w.heap.size ≤ gb340)); have n3_ := am_ ((gs_ hg : w.heap.size ≤ gb340)); clear HB; have HB := n0_; have BK340 := n1_; have GW340 := n2_; have GE340 := n3_; clear n0_ n1_ n2_ n3_; clear hb hbox hg))
 (try simp only [Act.put, List.setIfInBounds_toArray, List.set_cons_zero, List.set_cons_succ])
 go_cut [5, 6] (fun v5 v6 wc => ∃ (kq : Nat) (x5_2 : List (S171)) (x6_2 : Int), v6 = .int .i64 x6_2 ∧ Aside0 (aK.j1 kq l0 x5_2 x6_2 a1_0 a1_1 = some r) ∧ Aside0 (kq ≤ k) ∧ Aside0 (Kd.R k171 171 wc w.heap.size (fun k_ => k_ ≠ gb340) v5 x5_2) ∧ Aside0 (wc.heap[gb340]? = some (.cells #[.int .i64 a1_0, .int .i64 a1_1] 171 (0, 0))) ∧ Aside0 (Below w.heap.size w wc))
 case first =>
  have H := HC3.out
  clear HC3
  replace H := am_ H
  go_wp2
  go_loopg [5, 6] k (fun kq v5 v6 w' => ∃ (x5_1 : List (S171)) (x6_1 : Int), v6 = .int .i64 x6_1 ∧ Aside0 (aK.l0 kq l0 x5_1 x6_1 a1_0 a1_1 = some r) ∧ Aside0 (kq ≤ k) ∧ Aside0 (Kd.R k171 171 w' w.heap.size (fun k_ => k_ ≠ gb340) v5 x5_1) ∧ Aside0 (w'.heap[gb340]? = some (.cells #[.int .i64 a1_0, .int .i64 a1_1] 171 (0, 0))) ∧ Aside0 (Below w.heap.size w w'))
  case atStart => exact ⟨(([] : List (S171))), (0), ra_, H, ⟨Nat.le_refl _⟩, ⟨by first | exact Kd.R_nil _ _ _ _ _ | exact Kd.N_nil _ _ _ _ _ | exact Kd.V_nil _ _ _ _ _ | exact Kd.Q_nil _ _ _ _ _ | exact Kd.S_nil _ _ _ _ _⟩, ⟨bk_ BK340⟩, ⟨bl_⟩⟩
  case round =>
   clear H
   try clear c1
   try clear p2
   obtain ⟨x5_1, x6_1, rfl, HA, HK1, HO_5, BK340, HB⟩ := hrel
   cases gk with
   | zero => exact absurd HA.out (by simp [aK.l0])
   | succ k1 =>
    have H := HA.out
    clear HA
    simp only [aK.l0] at H
    by_cases c5 : x6_1 < (l0.length : Int)
    rotate_left
    · rw [if_neg c5] at H
      have c5b0 := decide_eq_false c5
      clear c5
      (first | rw [c5b0] | (simp only [i64_w, i32_w]; rw [c5b0]) | skip)
      replace H := am_ H
      try go_wp2
      replace HO_5 := am_ (Kd.R_drew HO_5.out)
      replace BK340 := am_ (blk_drew BK340.out)
      replace HB := am_ (below_drew1 HB.out)
      refine start_ (n := 14) (S := fun w' => True) (ds := []) (bv 14 0) (by kernel_rfl) rfl rfl trivial (fun hHeld => ?_); refine with_tabW aK.tab3 aK.kX (fun HT_ HW_ => ?_)
      generalize wr.drew = w12 at HO_5 BK340 HB hHeld ⊢
      refine pu_ 0 7 (bv 14 1) ?_
      refine pu_ 1 8 (bv 14 3) ?_
      refine pu_ 2 9 (bv 14 7) ?_
      refine pu_ 3 10 (bv 14 15) ?_
      refine pu_ 4 11 (bv 14 31) ?_
      refine pure_ (i := 5) (N := some 12) (v := undef) (a' := ?_) #[true, true, true, true, true, true, false, false, false, false, false, false, false, false] rfl rfl (any_of HT_.out (by kernel_rfl)) (fun _ _ _ h => h) (Or.inr ⟨by rfl, rfl⟩) ?_ ?_
      rotate_left
      · simp only [Act.put, List.setIfInBounds_toArray, List.set_cons_zero, List.set_cons_succ, i64_w, i32_w]
        rfl
      refine pure_ (i := 6) (N := some 13) (v := undef) (a' := ?_) #[true, true, true, true, true, true, true, false, false, false, false, false, false, false] rfl rfl (any_of HT_.out (by kernel_rfl)) (fun _ _ _ h => h) (Or.inr ⟨by rfl, rfl⟩) ?_ ?_
      rotate_left
      · simp only [Act.put, List.setIfInBounds_toArray, List.set_cons_zero, List.set_cons_succ, i64_w, i32_w]
        rfl
      refine pure_ (i := 7) (N := some 14) (v := undef) (a' := ?_) #[true, true, true, true, true, true, true, true, false, false, false, false, false, false] rfl rfl (any_of HT_.out (by kernel_rfl)) (fun _ _ _ h => h) (Or.inr ⟨by rfl, rfl⟩) ?_ ?_
      rotate_left
      · simp only [Act.put, List.setIfInBounds_toArray, List.set_cons_zero, List.set_cons_succ, i64_w, i32_w]
        rfl
      refine pure_ (i := 8) (N := some 15) (v := undef) (a' := ?_) #[true, true, true, true, true, true, true, true, true, false, false, false, false, false] rfl rfl (any_of HT_.out (by kernel_rfl)) (fun _ _ _ h => h) (Or.inr ⟨by rfl, rfl⟩) ?_ ?_
      rotate_left
      · simp only [Act.put, List.setIfInBounds_toArray, List.set_cons_zero, List.set_cons_succ, i64_w, i32_w]
        rfl
      refine pure_ (i := 9) (N := some 16) (v := undef) (a' := ?_) #[true, true, true, true, true, true, true, true, true, true, false, false, false, false] rfl rfl (any_of HT_.out (by kernel_rfl)) (fun _ _ _ h => h) (Or.inr ⟨by rfl, rfl⟩) ?_ ?_
      rotate_left
      · simp only [Act.put, List.setIfInBounds_toArray, List.set_cons_zero, List.set_cons_succ, i64_w, i32_w]
        rfl
      refine pure_ (i := 10) (N := some 17) (v := undef) (a' := ?_) #[true, true, true, true, true, true, true, true, true, true, true, false, false, false] rfl rfl (any_of HT_.out (by kernel_rfl)) (fun _ _ _ h => h) (Or.inr ⟨by rfl, rfl⟩) ?_ ?_
      rotate_left
      · simp only [Act.put, List.setIfInBounds_toArray, List.set_cons_zero, List.set_cons_succ, i64_w, i32_w]
        rfl
      refine pure_ (i := 11) (N := some 18) (v := undef) (a' := ?_) #[true, true, true, true, true, true, true, true, true, true, true, true, false, false] rfl rfl (any_of HT_.out (by kernel_rfl)) (fun _ _ _ h => h) (Or.inr ⟨by rfl, rfl⟩) ?_ ?_
      rotate_left
      · simp only [Act.put, List.setIfInBounds_toArray, List.set_cons_zero, List.set_cons_succ, i64_w, i32_w]
        rfl
      refine pure_ (i := 12) (N := some 19) (v := undef) (a' := ?_) #[true, true, true, true, true, true, true, true, true, true, true, true, true, false] rfl rfl (any_of HT_.out (by kernel_rfl)) (fun _ _ _ h => h) (Or.inr ⟨by rfl, rfl⟩) ?_ ?_
      rotate_left
      · simp only [Act.put, List.setIfInBounds_toArray, List.set_cons_zero, List.set_cons_succ, i64_w, i32_w]
        rfl
      refine pu_ 13 20 (bv 14 16383) ?_
      refine done_ (done_of HT_.out (by kernel_rfl)) ?_
      try go_wp2
      go_meet
      case rel => exact ⟨_, (x5_1), (x6_1), ra_, H, ⟨by have := HK1.out; first | omega | exact Nat.le_refl _⟩, ⟨rr_ HO_5⟩, ⟨bk_ BK340⟩, ⟨bl_⟩⟩
    rw [if_pos c5] at H
    have c5b0 := decide_eq_true c5
    clear c5
    (first | rw [c5b0] | (simp only [i64_w, i32_w]; rw [c5b0]) | skip)
    obtain ⟨c6b0, H⟩ := ifd_ H
    by_cases c7 : ((dC l0 x6_1).f1) < a1_0
    rotate_left
    · rw [if_neg c7] at H
      have c7b0 := decide_eq_false c7
      clear c7
      replace H := am_ H
      try go_wp2
      replace HO_5 := am_ (Kd.R_drew HO_5.out)
      replace BK340 := am_ (blk_drew BK340.out)
      replace HB := am_ (below_drew1 HB.out)
      have p341 := pt_ x6_1
      have q341 := qt_ x6_1 l0.length
      obtain ⟨ad341, e341, hx341_0, hx341_1⟩ := fU HR0.out x6_1 (oe_ p341) (oe_ q341)
      have hw341_1 := hx341_1
      have hw341_0 := hx341_0
      cases e341
      replace hx341_0 := ce_ HB hx341_0
      replace hx341_1 := ce_ HB hx341_1
      refine start_ (n := 14) (S := fun w' => w'.cell? ⟨gb340, 0, none⟩ = some (.int .i64 a1_0) ∧ w'.cell? ⟨gb340, 1, none⟩ = some (.int .i64 a1_1) ∧ w'.cell? (ad341.add ((x6_1).toNat * 2)) = some (.int .i64 ((dC l0 x6_1).f0)) ∧ w'.cell? ⟨(ad341.add ((x6_1).toNat * 2)).block, (ad341.add ((x6_1).toNat * 2)).off + 1, none⟩ = some (.int .i64 ((dC l0 x6_1).f1))) (ds := []) (bv 14 0) (by kernel_rfl) rfl rfl ⟨(blk_cell BK340.out 0).trans rfl, (blk_cell BK340.out 1).trans rfl, (ce_ HB hw341_0), (ce_ HB hw341_1)⟩ (fun hHeld => ?_); refine with_tabW aK.tab3 aK.kX (fun HT_ HW_ => ?_)
      generalize wr.drew = w11 at HO_5 BK340 HB hx341_0 hx341_1 hHeld ⊢
      refine pu_ 0 7 (bv 14 1) ?_
      refine pu_ 1 8 (bv 14 3) ?_
      refine pu_ 2 9 (bv 14 7) ?_
      refine pu_ 3 10 (bv 14 15) ?_
      refine pu_ 4 11 (bv 14 31) ?_
      refine pu_ 5 12 (bv 14 63) ?_
      refine pu_ 6 13 (bv 14 127) ?_
      refine pu_ 7 14 (bv 14 255) ?_
      refine pu_ 8 15 (bv 14 511) ?_
      refine pu_ 10 17 (bv 14 1535) ?_
      refine tk_ 9 16 (bv 14 2047) hHeld ?_
      refine tk_ 11 18 (bv 14 4095) hHeld ?_
      refine pu_ 12 19 (bv 14 8191) ?_
      refine pu_ 13 20 (bv 14 16383) ?_
      refine done_ (done_of HT_.out (by kernel_rfl)) ?_
      try go_wp2
      go_meet
      case rel => exact ⟨_, (x5_1), (x6_1), ra_, H, ⟨by have := HK1.out; first | omega | exact Nat.le_refl _⟩, ⟨rr_ HO_5⟩, ⟨bk_ BK340⟩, ⟨bl_⟩⟩
    rw [if_pos c7] at H
    have c7b0 := decide_eq_true c7
    clear c7
    obtain ⟨LMc8, H⟩ := ifa_ H
    obtain ⟨y343, hy343⟩ : ∃ y_ : List (S171), y_ = (x5_1 ++ [(⟨(dC l0 x6_1).f0, (dC l0 x6_1).f1⟩ : S171)]) := ⟨_, rfl⟩
    replace H : (aK.l0 k1 l0 y343 (wrap64 (x6_1 + 1)) a1_0 a1_1) = some r := by first | (rw [hy343]; with_reducible exact H) | (have H2_ := (Option.bind_some _ _).symm.trans H; rw [hy343]; with_reducible exact H2_) | (have H2_ := (Option.bind_some _ _).symm.trans H; with_reducible exact H2_) | with_reducible exact H | (rw [hy343]; exact H) | exact H
    have Ny343 := am_ hy343
    clear hy343
    replace H := am_ H
    try go_wp2
    replace HO_5 := am_ (Kd.R_drew HO_5.out)
    replace BK340 := am_ (blk_drew BK340.out)
    replace HB := am_ (below_drew1 HB.out)
    have p341 := pt_ x6_1
    have q341 := qt_ x6_1 l0.length
    obtain ⟨ad341, e341, hx341_0, hx341_1⟩ := fU HR0.out x6_1 (oe_ p341) (oe_ q341)
    have hw341_1 := hx341_1
    have hw341_0 := hx341_0
    cases e341
    replace hx341_0 := ce_ HB hx341_0
    replace hx341_1 := ce_ HB hx341_1
    refine start_ (n := 14) (S := fun w' => w'.cell? ⟨gb340, 0, none⟩ = some (.int .i64 a1_0) ∧ w'.cell? ⟨gb340, 1, none⟩ = some (.int .i64 a1_1) ∧ w'.cell? (ad341.add ((x6_1).toNat * 2)) = some (.int .i64 ((dC l0 x6_1).f0)) ∧ w'.cell? ⟨(ad341.add ((x6_1).toNat * 2)).block, (ad341.add ((x6_1).toNat * 2)).off + 1, none⟩ = some (.int .i64 ((dC l0 x6_1).f1))) (ds := []) (bv 14 0) (by kernel_rfl) rfl rfl ⟨(blk_cell BK340.out 0).trans rfl, (blk_cell BK340.out 1).trans rfl, (ce_ HB hw341_0), (ce_ HB hw341_1)⟩ (fun hHeld => ?_); refine with_tabW aK.tab3 aK.kX (fun HT_ HW_ => ?_)
    generalize wr.drew = w9 at HO_5 BK340 HB hx341_0 hx341_1 hHeld ⊢
    refine pu_ 0 7 (bv 14 1) ?_
    refine pu_ 1 8 (bv 14 3) ?_
    refine pu_ 2 9 (bv 14 7) ?_
    refine pu_ 3 10 (bv 14 15) ?_
    refine pu_ 4 11 (bv 14 31) ?_
    refine pu_ 5 12 (bv 14 63) ?_
    refine pu_ 6 13 (bv 14 127) ?_
    refine pu_ 7 14 (bv 14 255) ?_
    refine pu_ 8 15 (bv 14 511) ?_
    refine pu_ 10 17 (bv 14 1535) ?_
    refine tk_ 9 16 (bv 14 2047) hHeld ?_
    refine tk_ 11 18 (bv 14 4095) hHeld ?_
    refine pu_ 12 19 (bv 14 8191) ?_
    refine pu_ 13 20 (bv 14 16383) ?_
    refine done_ (done_of HT_.out (by kernel_rfl)) ?_
    have p342 := pt_ x6_1
    have q342 := qt_ x6_1 l0.length
    obtain ⟨ad342, e342, hx342_0, hx342_1⟩ := fU HR0.out x6_1 (oe_ p342) (oe_ q342)
    obtain rfl : ad341 = ad342 := (by injection e342)
    replace hx342_0 := ce_ HB hx342_0
    replace hx342_1 := ce_ HB hx342_1
    try go_wp2_with (first | ((with_reducible refine gate_builtin (b := .append) (xs := #[.tmp 21, .tmp 26]) rfl ?_); at_builtin; refine Kd.R_append k171 (w0 := w) w.heap.size rfl (.tmp 21) (.tmp 26) 135 171 (.agg #[(.int .i64 0), (.int .i64 0)]) 16 rfl Tryz.underlying135 iY rfl (by decide) (by omega) u5 x5_1 (⟨(dC l0 x6_1).f0, (dC l0 x6_1).f1⟩ : S171) [.int .i64 ((dC l0 x6_1).f0), .int .i64 ((dC l0 x6_1).f1)] (fun k_ => k_ ≠ gb340) (fun _ => False) rfl rfl ?aP (fun _ hk => hk.elim) ?aF ?aO ?aB ?aS ?aL ?_; (case aP => exact k171_mkM _ _ _ (⟨(dC l0 x6_1).f0, (dC l0 x6_1).f1⟩ : S171)); (case aB => exact bl_); (case aF => exact (fun k_ hk => Kd.freshB (g := gb340) (o := .cells #[.int .i64 a1_0, .int .i64 a1_1] 171 (0, 0)) (bk_ BK340) k_ hk)); (case aO => exact (rr_ HO_5)); (case aS => exact (below_size bl_)); (case aL => have := LMc8.out; omega); intro v344 w10 ho hb hg hat; rw [← Ny343.out] at ho; have n0_ := am_ (blk_grown (g := gb340) (o := .cells #[.int .i64 a1_0, .int .i64 a1_1] 171 (0, 0)) (bk_ BK340) hg (Kd.R_away HO_5.out (fun _ hk => hk))); have n1_ := am_ (hb); have n2_ := am_ (ho); clear BK340; clear HB; clear HO_5; have BK340 := n0_; have HB := n1_; have HO345 := n2_; clear n0_ n1_ n2_; clear ho hb hg hat))
    go_roundg k1
    case measure => have := HK1.out; omega
    case rel => exact ⟨(y343), (wrap64 (x6_1 + 1)), ra_, H, ⟨by have := HK1.out; omega⟩, ⟨rr_ HO345⟩, ⟨bk_ BK340⟩, ⟨bl_⟩⟩
 case rest =>
  clear HC3
  try clear c1
  try clear p2
  try clear p3
  try clear q3
  try clear hx3
  try clear c5
  try clear c5b0
  try clear c6
  try clear c6b0
  try clear p6
  try clear c7
  try clear c7b0
  try clear c8
  try clear hx341_0
  try clear hx341_1
  try clear hx342_0
  try clear hx342_1
  try clear p2
  try clear p341
  try clear p342
  try clear q341
  try clear q342
  obtain ⟨kq, x5_2, x6_2, rfl, HA, HJ2, HO_5, BK340, HB⟩ := hcut
  cases kq with
  | zero => exact absurd HA.out (by simp [aK.j1])
  | succ kj2 =>
   have H := HA.out
   clear HA
   simp only [aK.j1] at H
   replace H := am_ H
   go_wp2
   go_loopg [6] kj2 (fun kq v6 w' => ∃ (x6_2 : Int) (x341000_2 : Int) (x341001_2 : Int), v6 = .int .i64 x6_2 ∧ Aside0 (aK.l1 kq l0 x5_2 x6_2 x341000_2 x341001_2 = some r) ∧ Aside0 (kq ≤ kj2) ∧ Aside0 (Kd.R k171 171 w' w.heap.size (fun k_ => k_ ≠ gb340) u5 x5_2) ∧ Aside0 (w'.heap[gb340]? = some (.cells #[.int .i64 x341000_2, .int .i64 x341001_2] 171 (0, 0))) ∧ Aside0 (Below w.heap.size w w'))
   case atStart => exact ⟨(x6_2), (a1_0), (a1_1), ra_, H, ⟨Nat.le_refl _⟩, ⟨rr_ HO_5⟩, ⟨bk_ BK340⟩, ⟨bl_⟩⟩
   case round =>
    clear H
    try clear c1
    try clear p2
    try clear p3
    try clear q3
    try clear hx3
    try clear c5
    try clear c5b0
    try clear c6
    try clear c6b0
    try clear p6
    try clear c7
    try clear c7b0
    try clear c8
    try clear hx341_0
    try clear hx341_1
    try clear hx342_0
    try clear hx342_1
    try clear p2
    try clear p3
    try clear p341
    try clear p342
    try clear p6
    try clear q3
    try clear q341
    try clear q342
    obtain ⟨x6_2, x341000_2, x341001_2, rfl, HA, HK2, HO_5, BK340, HB⟩ := hrel
    cases gk with
    | zero => exact absurd HA.out (by simp [aK.l1])
    | succ k2 =>
     have H := HA.out
     clear HA
     simp only [aK.l1] at H
     by_cases c13 : x6_2 < (l0.length : Int)
     rotate_left
     · rw [if_neg c13] at H
       have c13b0 := decide_eq_false c13
       clear c13
       obtain ⟨LMc31, H⟩ := ifa_ H
       obtain ⟨y359, hy359⟩ : ∃ y_ : List (S171), y_ = (x5_2 ++ [(⟨x341000_2, x341001_2⟩ : S171)]) := ⟨_, rfl⟩
       replace H : (if 0 ≤ x6_2 then (if x6_2 ≤ (l0.length : Int) then ((some (l0.drop (x6_2 : Int).toNat : List (S171))).bind fun y362 => (if y359.length + y362.length < 8796093022208 then (some (y359 ++ y362)) else (none))) else (none)) else (none)) = some r := by first | (rw [hy359]; with_reducible exact H) | (have H2_ := (Option.bind_some _ _).symm.trans H; rw [hy359]; with_reducible exact H2_) | (have H2_ := (Option.bind_some _ _).symm.trans H; with_reducible exact H2_) | with_reducible exact H | (rw [hy359]; exact H) | exact H
       have Ny359 := am_ hy359
       clear hy359
       obtain ⟨c32, H⟩ := ifn_ H
       have c32b0 := eq_true c32
       have c32b1 := decide_eq_true c32
       clear c32
       obtain ⟨c33, H⟩ := ifn_ H
       have c33b0 := eq_true c33
       have c33b1 := decide_eq_true c33
       clear c33
       obtain ⟨y362, hy362⟩ : ∃ y_ : List (S171), y_ = (l0.drop (x6_2 : Int).toNat) := ⟨_, rfl⟩
       replace H : (if y359.length + y362.length < 8796093022208 then (some (y359 ++ y362)) else (none)) = some r := by first | (rw [hy362]; with_reducible exact H) | (have H2_ := (Option.bind_some _ _).symm.trans H; rw [hy362]; with_reducible exact H2_) | (have H2_ := (Option.bind_some _ _).symm.trans H; with_reducible exact H2_) | with_reducible exact H | (rw [hy362]; exact H) | exact H
       have Ny362 := am_ hy362
       clear hy362
       obtain ⟨LMc34, H⟩ := ifa_ H
       obtain ⟨y366, hy366⟩ : ∃ y_ : List (S171), y_ = (y359 ++ y362) := ⟨_, rfl⟩
       replace H : (some y366) = some r := by first | (rw [hy366]; with_reducible exact H) | (have H2_ := (Option.bind_some _ _).symm.trans H; rw [hy366]; with_reducible exact H2_) | (have H2_ := (Option.bind_some _ _).symm.trans H; with_reducible exact H2_) | with_reducible exact H | (rw [hy366]; exact H) | exact H
       have Ny366 := am_ hy366
       clear hy366
       obtain rfl := sj_ H
       try go_wp2
       replace HO_5 := am_ (Kd.R_drew HO_5.out)
       replace BK340 := am_ (blk_drew BK340.out)
       replace HB := am_ (below_drew1 HB.out)
       refine start_ (n := 14) (S := fun w' => True) (ds := []) (bv 14 0) (by kernel_rfl) rfl rfl trivial (fun hHeld => ?_); refine with_tabW aK.tab6 aK.bits6 (fun HT_ HW_ => ?_)
       generalize wr.drew = w35 at HO_5 BK340 HB hHeld ⊢
       refine pu_ 0 30 (bv 14 1) ?_
       refine pu_ 1 31 (bv 14 3) ?_
       refine pu_ 2 32 (bv 14 7) ?_
       refine pu_ 3 33 (bv 14 15) ?_
       refine pu_ 4 34 (bv 14 31) ?_
       refine pure_ (i := 5) (N := some 35) (v := undef) (a' := ?_) #[true, true, true, true, true, true, false, false, false, false, false, false, false, false] rfl rfl (any_of HT_.out (by kernel_rfl)) (fun _ _ _ h => h) (Or.inr ⟨by rfl, rfl⟩) ?_ ?_
       rotate_left
       · simp only [Act.put, List.setIfInBounds_toArray, List.set_cons_zero, List.set_cons_succ, i64_w, i32_w]
         rfl
       refine pure_ (i := 6) (N := some 36) (v := undef) (a' := ?_) #[true, true, true, true, true, true, true, false, false, false, false, false, false, false] rfl rfl (any_of HT_.out (by kernel_rfl)) (fun _ _ _ h => h) (Or.inr ⟨by rfl, rfl⟩) ?_ ?_
       rotate_left
       · simp only [Act.put, List.setIfInBounds_toArray, List.set_cons_zero, List.set_cons_succ, i64_w, i32_w]
         rfl
       refine pure_ (i := 7) (N := some 37) (v := undef) (a' := ?_) #[true, true, true, true, true, true, true, true, false, false, false, false, false, false] rfl rfl (any_of HT_.out (by kernel_rfl)) (fun _ _ _ h => h) (Or.inr ⟨by rfl, rfl⟩) ?_ ?_
       rotate_left
       · simp only [Act.put, List.setIfInBounds_toArray, List.set_cons_zero, List.set_cons_succ, i64_w, i32_w]
         rfl
       refine pure_ (i := 8) (N := some 38) (v := undef) (a' := ?_) #[true, true, true, true, true, true, true, true, true, false, false, false, false, false] rfl rfl (any_of HT_.out (by kernel_rfl)) (fun _ _ _ h => h) (Or.inr ⟨by rfl, rfl⟩) ?_ ?_
       rotate_left
       · simp only [Act.put, List.setIfInBounds_toArray, List.set_cons_zero, List.set_cons_succ, i64_w, i32_w]
         rfl
       refine pure_ (i := 9) (N := some 39) (v := undef) (a' := ?_) #[true, true, true, true, true, true, true, true, true, true, false, false, false, false] rfl rfl (any_of HT_.out (by kernel_rfl)) (fun _ _ _ h => h) (Or.inr ⟨by rfl, rfl⟩) ?_ ?_
       rotate_left
       · simp only [Act.put, List.setIfInBounds_toArray, List.set_cons_zero, List.set_cons_succ, i64_w, i32_w]
         rfl
       refine pure_ (i := 10) (N := some 40) (v := undef) (a' := ?_) #[true, true, true, true, true, true, true, true, true, true, true, false, false, false] rfl rfl (any_of HT_.out (by kernel_rfl)) (fun _ _ _ h => h) (Or.inr ⟨by rfl, rfl⟩) ?_ ?_
       rotate_left
       · simp only [Act.put, List.setIfInBounds_toArray, List.set_cons_zero, List.set_cons_succ, i64_w, i32_w]
         rfl
       refine pure_ (i := 11) (N := some 41) (v := undef) (a' := ?_) #[true, true, true, true, true, true, true, true, true, true, true, true, false, false] rfl rfl (any_of HT_.out (by kernel_rfl)) (fun _ _ _ h => h) (Or.inr ⟨by rfl, rfl⟩) ?_ ?_
       rotate_left
       · simp only [Act.put, List.setIfInBounds_toArray, List.set_cons_zero, List.set_cons_succ, i64_w, i32_w]
         rfl
       refine pure_ (i := 12) (N := some 42) (v := undef) (a' := ?_) #[true, true, true, true, true, true, true, true, true, true, true, true, true, false] rfl rfl (any_of HT_.out (by kernel_rfl)) (fun _ _ _ h => h) (Or.inr ⟨by rfl, rfl⟩) ?_ ?_
       rotate_left
       · simp only [Act.put, List.setIfInBounds_toArray, List.set_cons_zero, List.set_cons_succ, i64_w, i32_w]
         rfl
       refine pu_ 13 43 (bv 14 16383) ?_
       refine done_ (done_of HT_.out (by kernel_rfl)) ?_
       have bz36 := bc2_ BK340
       try go_wp2_with (first | ((with_reducible refine gate_builtin (b := .append) (xs := #[.tmp 64, .tmp 66]) rfl ?_); at_builtin; refine Kd.R_append k171 (w0 := w) w.heap.size rfl (.tmp 64) (.tmp 66) 135 171 (.agg #[(.int .i64 0), (.int .i64 0)]) 16 rfl Tryz.underlying135 iY rfl (by decide) (by omega) u5 x5_2 (⟨x341000_2, x341001_2⟩ : S171) [.int .i64 x341000_2, .int .i64 x341001_2] (fun k_ => k_ ≠ gb340) (fun _ => False) rfl rfl ?aP (fun _ hk => hk.elim) ?aF ?aO ?aB ?aS ?aL ?_; (case aP => exact k171_mkM _ _ _ (⟨x341000_2, x341001_2⟩ : S171)); (case aB => exact bl_); (case aF => exact (fun k_ hk => Kd.freshB (g := gb340) (o := .cells #[.int .i64 x341000_2, .int .i64 x341001_2] 171 (0, 0)) (bk_ BK340) k_ hk)); (case aO => exact (rr_ HO_5)); (case aS => exact (below_size bl_)); (case aL => have := LMc31.out; omega); intro v360 w37 ho hb hg hat; rw [← Ny359.out] at ho; have n0_ := am_ (blk_grown (g := gb340) (o := .cells #[.int .i64 x341000_2, .int .i64 x341001_2] 171 (0, 0)) (bk_ BK340) hg (Kd.R_away HO_5.out (fun _ hk => hk))); have n1_ := am_ (hb); have n2_ := am_ (ho); clear BK340; clear HB; clear HO_5; have BK340 := n0_; have HB := n1_; have HO361 := n2_; clear n0_ n1_ n2_; clear ho hb hg hat; have q38 : (x6_2 : Int) ≤ ((l0.length : Int) : Int) := dt_; obtain ⟨i038, hi038, _, hsz38, _⟩ := info_parts iY; have hroom38 : l0.length ≤ c0 := HC0.out; have hC38 : Kd.C k171 _ A0 l0.length l0 := HR0.out; have q038 : (0 : Int) ≤ (x6_2 : Int) := dt_; have hcut38 := cut_from (P := Tryz.prog) 135 171 .i64 Tryz.underlying135 hi038 2 hsz38 A0 l0.length c0 x6_2 q038 q38; have hr38 := Kd.C_drop (m := (x6_2 : Int).toNat) (c := c0) hC38 (by omega) hroom38; obtain ⟨A38, hA38⟩ : ∃ A1, A1 = (if c0 = (x6_2 : Int).toNat then A0 else (A0 : Option Addr).map (·.add ((x6_2 : Int).toNat * 2))) := ⟨_, rfl⟩; obtain ⟨c38, hc38⟩ : ∃ c1, c1 = c0 - (x6_2 : Int).toNat := ⟨_, rfl⟩; have hy38 : y362.length = l0.length - (x6_2 : Int).toNat := (by rw [Ny362.out, List.length_drop] <;> omega); rw [show (l0).drop (x6_2 : Int).toNat = y362 from Ny362.out.symm] at hr38; replace hr38 : Kd.C k171 _ A38 y362.length y362 := (by rw [hA38]; exact hr38); rw [← hy38, ← hA38, ← hc38] at hcut38; have HR365 := am_ hr38; have HC365 := am_ (show y362.length ≤ c38 from by rw [hy38, hc38]; exact Nat.sub_le_sub_right hroom38 _); clear hr38 hC38 hroom38 hi038 hsz38 hc38; have KY38 := am_ hy38; have KA38 := am_ hA38; clear hy38 hA38; replace q38 := eq_true q38) | ((with_reducible refine gate_builtin (b := .append) (xs := #[.tmp 68, .tmp 71]) rfl ?_); at_builtin; refine Kd.R_append_rows k171 (w0 := w) w.heap.size rfl (.tmp 68) (.tmp 71) 135 171 (.agg #[(.int .i64 0), (.int .i64 0)]) 16 rfl Tryz.underlying135 iY rfl (by decide) (by omega) v360 y359 y362 _ _ _ (fun k_ => k_ ≠ gb340) (fun _ => False) rfl rfl ?aO ?aR (fun _ _ h => h) (fun _ h => h.elim) ?aF ?aB ?aS ?aL ?_; (case aR => exact cb_ (Kd.C_below HR365.out HB.out)); (case aB => exact bl_); (case aF => exact (fun k_ hk => Kd.freshB (g := gb340) (o := .cells #[.int .i64 x341000_2, .int .i64 x341001_2] 171 (0, 0)) (bk_ BK340) k_ hk)); (case aO => exact (rr_ HO361)); (case aS => exact (below_size bl_)); (case aL => have := LMc34.out; omega); intro v367 w39 ho hb hg hat; rw [← Ny366.out] at ho; have n0_ := am_ (blk_grown (g := gb340) (o := .cells #[.int .i64 x341000_2, .int .i64 x341001_2] 171 (0, 0)) (bk_ BK340) hg (Kd.R_away HO361.out (fun _ hk => hk))); have n1_ := am_ (hb); have n2_ := am_ (ho); clear BK340; clear HB; clear HO361; have BK340 := n0_; have HB := n1_; have HO368 := n2_; clear n0_ n1_ n2_; clear ho hb hg hat))
       go_ret
       exact ⟨_, er_, by (with_reducible repeat (first | apply Kd.R_alloc | apply Kd.R_drewN | apply Kd.R_drew)); exact Kd.R_mono HO368.out (fun _ hk => trivial), bl_⟩
     rw [if_pos c13] at H
     have c13b0 := decide_eq_true c13
     clear c13
     obtain ⟨c14b0, H⟩ := ifd_ H
     by_cases c15 : ((dC l0 x6_2).f0) ≤ x341001_2
     rotate_left
     · rw [if_neg c15] at H
       have c15b0 := decide_eq_false c15
       clear c15
       obtain ⟨LMc22, H⟩ := ifa_ H
       obtain ⟨y349, hy349⟩ : ∃ y_ : List (S171), y_ = (x5_2 ++ [(⟨x341000_2, x341001_2⟩ : S171)]) := ⟨_, rfl⟩
       replace H : (if x6_2 ≤ (l0.length : Int) then ((some (l0.drop (x6_2 : Int).toNat : List (S171))).bind fun y352 => (if y349.length + y352.length < 8796093022208 then (some (y349 ++ y352)) else (none))) else (none)) = some r := by first | (rw [hy349]; with_reducible exact H) | (have H2_ := (Option.bind_some _ _).symm.trans H; rw [hy349]; with_reducible exact H2_) | (have H2_ := (Option.bind_some _ _).symm.trans H; with_reducible exact H2_) | with_reducible exact H | (rw [hy349]; exact H) | exact H
       have Ny349 := am_ hy349
       clear hy349
       have c23b0 := eq_true (dt_ : 0 ≤ x6_2)
       obtain ⟨c24, H⟩ := ifn_ H
       have c24b0 := eq_true c24
       have c24b1 := decide_eq_true c24
       clear c24
       obtain ⟨y352, hy352⟩ : ∃ y_ : List (S171), y_ = (l0.drop (x6_2 : Int).toNat) := ⟨_, rfl⟩
       replace H : (if y349.length + y352.length < 8796093022208 then (some (y349 ++ y352)) else (none)) = some r := by first | (rw [hy352]; with_reducible exact H) | (have H2_ := (Option.bind_some _ _).symm.trans H; rw [hy352]; with_reducible exact H2_) | (have H2_ := (Option.bind_some _ _).symm.trans H; with_reducible exact H2_) | with_reducible exact H | (rw [hy352]; exact H) | exact H
       have Ny352 := am_ hy352
       clear hy352
       obtain ⟨LMc25, H⟩ := ifa_ H
       obtain ⟨y356, hy356⟩ : ∃ y_ : List (S171), y_ = (y349 ++ y352) := ⟨_, rfl⟩
       replace H : (some y356) = some r := by first | (rw [hy356]; with_reducible exact H) | (have H2_ := (Option.bind_some _ _).symm.trans H; rw [hy356]; with_reducible exact H2_) | (have H2_ := (Option.bind_some _ _).symm.trans H; with_reducible exact H2_) | with_reducible exact H | (rw [hy356]; exact H) | exact H
       have Ny356 := am_ hy356
       clear hy356
       obtain rfl := sj_ H
       try go_wp2
       replace HO_5 := am_ (Kd.R_drew HO_5.out)
       replace BK340 := am_ (blk_drew BK340.out)
       replace HB := am_ (below_drew1 HB.out)
       have p346 := pt_ x6_2
       have q346 := qt_ x6_2 l0.length
       obtain ⟨ad346, e346, hx346_0, hx346_1⟩ := fU HR0.out x6_2 (oe_ p346) (oe_ q346)
       have hw346_1 := hx346_1
       have hw346_0 := hx346_0
       cases e346
       replace hx346_0 := ce_ HB hx346_0
       replace hx346_1 := ce_ HB hx346_1
       refine start_ (n := 14) (S := fun w' => w'.cell? ⟨gb340, 0, none⟩ = some (.int .i64 x341000_2) ∧ w'.cell? ⟨gb340, 1, none⟩ = some (.int .i64 x341001_2) ∧ w'.cell? (ad346.add ((x6_2).toNat * 2)) = some (.int .i64 ((dC l0 x6_2).f0)) ∧ w'.cell? ⟨(ad346.add ((x6_2).toNat * 2)).block, (ad346.add ((x6_2).toNat * 2)).off + 1, none⟩ = some (.int .i64 ((dC l0 x6_2).f1))) (ds := []) (bv 14 0) (by kernel_rfl) rfl rfl ⟨(blk_cell BK340.out 0).trans rfl, (blk_cell BK340.out 1).trans rfl, (ce_ HB hw346_0), (ce_ HB hw346_1)⟩ (fun hHeld => ?_); refine with_tabW aK.tab6 aK.bits6 (fun HT_ HW_ => ?_)
       generalize wr.drew = w26 at HO_5 BK340 HB hx346_0 hx346_1 hHeld ⊢
       refine pu_ 0 30 (bv 14 1) ?_
       refine pu_ 1 31 (bv 14 3) ?_
       refine pu_ 2 32 (bv 14 7) ?_
       refine pu_ 3 33 (bv 14 15) ?_
       refine pu_ 4 34 (bv 14 31) ?_
       refine pu_ 5 35 (bv 14 63) ?_
       refine pu_ 6 36 (bv 14 127) ?_
       refine pu_ 7 37 (bv 14 255) ?_
       refine pu_ 8 38 (bv 14 511) ?_
       refine pu_ 10 40 (bv 14 1535) ?_
       refine tk_ 9 39 (bv 14 2047) hHeld ?_
       refine tk_ 11 41 (bv 14 4095) hHeld ?_
       refine pu_ 12 42 (bv 14 8191) ?_
       refine pu_ 13 43 (bv 14 16383) ?_
       refine done_ (done_of HT_.out (by kernel_rfl)) ?_
       have bz27 := bc2_ BK340
       try go_wp2_with (first | ((with_reducible refine gate_builtin (b := .append) (xs := #[.tmp 64, .tmp 66]) rfl ?_); at_builtin; refine Kd.R_append k171 (w0 := w) w.heap.size rfl (.tmp 64) (.tmp 66) 135 171 (.agg #[(.int .i64 0), (.int .i64 0)]) 16 rfl Tryz.underlying135 iY rfl (by decide) (by omega) u5 x5_2 (⟨x341000_2, x341001_2⟩ : S171) [.int .i64 x341000_2, .int .i64 x341001_2] (fun k_ => k_ ≠ gb340) (fun _ => False) rfl rfl ?aP (fun _ hk => hk.elim) ?aF ?aO ?aB ?aS ?aL ?_; (case aP => exact k171_mkM _ _ _ (⟨x341000_2, x341001_2⟩ : S171)); (case aB => exact bl_); (case aF => exact (fun k_ hk => Kd.freshB (g := gb340) (o := .cells #[.int .i64 x341000_2, .int .i64 x341001_2] 171 (0, 0)) (bk_ BK340) k_ hk)); (case aO => exact (rr_ HO_5)); (case aS => exact (below_size bl_)); (case aL => have := LMc22.out; omega); intro v350 w28 ho hb hg hat; rw [← Ny349.out] at ho; have n0_ := am_ (blk_grown (g := gb340) (o := .cells #[.int .i64 x341000_2, .int .i64 x341001_2] 171 (0, 0)) (bk_ BK340) hg (Kd.R_away HO_5.out (fun _ hk => hk))); have n1_ := am_ (hb); have n2_ := am_ (ho); clear BK340; clear HB; clear HO_5; have BK340 := n0_; have HB := n1_; have HO351 := n2_; clear n0_ n1_ n2_; clear ho hb hg hat; have q29 : (x6_2 : Int) ≤ ((l0.length : Int) : Int) := dt_; obtain ⟨i029, hi029, _, hsz29, _⟩ := info_parts iY; have hroom29 : l0.length ≤ c0 := HC0.out; have hC29 : Kd.C k171 _ (some ad346) l0.length l0 := HR0.out; have q029 : (0 : Int) ≤ (x6_2 : Int) := dt_; have hcut29 := cut_from (P := Tryz.prog) 135 171 .i64 Tryz.underlying135 hi029 2 hsz29 (some ad346) l0.length c0 x6_2 q029 q29; have hr29 := Kd.C_drop (m := (x6_2 : Int).toNat) (c := c0) hC29 (by omega) hroom29; obtain ⟨A29, hA29⟩ : ∃ A1, A1 = (if c0 = (x6_2 : Int).toNat then (some ad346) else ((some ad346) : Option Addr).map (·.add ((x6_2 : Int).toNat * 2))) := ⟨_, rfl⟩; obtain ⟨c29, hc29⟩ : ∃ c1, c1 = c0 - (x6_2 : Int).toNat := ⟨_, rfl⟩; have hy29 : y352.length = l0.length - (x6_2 : Int).toNat := (by rw [Ny352.out, List.length_drop] <;> omega); rw [show (l0).drop (x6_2 : Int).toNat = y352 from Ny352.out.symm] at hr29; replace hr29 : Kd.C k171 _ A29 y352.length y352 := (by rw [hA29]; exact hr29); rw [← hy29, ← hA29, ← hc29] at hcut29; have HR355 := am_ hr29; have HC355 := am_ (show y352.length ≤ c29 from by rw [hy29, hc29]; exact Nat.sub_le_sub_right hroom29 _); clear hr29 hC29 hroom29 hi029 hsz29 hc29; have KY29 := am_ hy29; have KA29 := am_ hA29; clear hy29 hA29; replace q29 := eq_true q29) | ((with_reducible refine gate_builtin (b := .append) (xs := #[.tmp 68, .tmp 71]) rfl ?_); at_builtin; refine Kd.R_append_rows k171 (w0 := w) w.heap.size rfl (.tmp 68) (.tmp 71) 135 171 (.agg #[(.int .i64 0), (.int .i64 0)]) 16 rfl Tryz.underlying135 iY rfl (by decide) (by omega) v350 y349 y352 _ _ _ (fun k_ => k_ ≠ gb340) (fun _ => False) rfl rfl ?aO ?aR (fun _ _ h => h) (fun _ h => h.elim) ?aF ?aB ?aS ?aL ?_; (case aR => exact cb_ (Kd.C_below HR355.out HB.out)); (case aB => exact bl_); (case aF => exact (fun k_ hk => Kd.freshB (g := gb340) (o := .cells #[.int .i64 x341000_2, .int .i64 x341001_2] 171 (0, 0)) (bk_ BK340) k_ hk)); (case aO => exact (rr_ HO351)); (case aS => exact (below_size bl_)); (case aL => have := LMc25.out; omega); intro v357 w30 ho hb hg hat; rw [← Ny356.out] at ho; have n0_ := am_ (blk_grown (g := gb340) (o := .cells #[.int .i64 x341000_2, .int .i64 x341001_2] 171 (0, 0)) (bk_ BK340) hg (Kd.R_away HO351.out (fun _ hk => hk))); have n1_ := am_ (hb); have n2_ := am_ (ho); clear BK340; clear HB; clear HO351; have BK340 := n0_; have HB := n1_; have HO358 := n2_; clear n0_ n1_ n2_; clear ho hb hg hat))
       go_ret
       exact ⟨_, er_, by (with_reducible repeat (first | apply Kd.R_alloc | apply Kd.R_drewN | apply Kd.R_drew)); exact Kd.R_mono HO358.out (fun _ hk => trivial), bl_⟩
     rw [if_pos c15] at H
     have c15b0 := decide_eq_true c15
     clear c15
     obtain ⟨ji16, hji16⟩ : ∃ j_ : Int, (mn x341000_2 ((dC l0 x6_2).f0)) = j_ := ⟨_, rfl⟩
     first | rw [hji16] at H | simp only [hji16] at H
     have hji16_ : (if ((dC l0 x6_2).f0) < x341000_2 then ((dC l0 x6_2).f0) else x341000_2) = ji16 := hji16
     obtain ⟨ji17, hji17⟩ : ∃ j_ : Int, (mx x341001_2 ((dC l0 x6_2).f1)) = j_ := ⟨_, rfl⟩
     first | rw [hji17] at H | simp only [hji17] at H
     have hji17_ : (if x341001_2 < ((dC l0 x6_2).f1) then ((dC l0 x6_2).f1) else x341001_2) = ji17 := hji17
     replace H := am_ H
     try go_wp2
     replace HO_5 := am_ (Kd.R_drew HO_5.out)
     replace BK340 := am_ (blk_drew BK340.out)
     replace HB := am_ (below_drew1 HB.out)
     have p346 := pt_ x6_2
     have q346 := qt_ x6_2 l0.length
     obtain ⟨ad346, e346, hx346_0, hx346_1⟩ := fU HR0.out x6_2 (oe_ p346) (oe_ q346)
     have hw346_1 := hx346_1
     have hw346_0 := hx346_0
     cases e346
     replace hx346_0 := ce_ HB hx346_0
     replace hx346_1 := ce_ HB hx346_1
     refine start_ (n := 14) (S := fun w' => w'.cell? ⟨gb340, 0, none⟩ = some (.int .i64 x341000_2) ∧ w'.cell? ⟨gb340, 1, none⟩ = some (.int .i64 x341001_2) ∧ w'.cell? (ad346.add ((x6_2).toNat * 2)) = some (.int .i64 ((dC l0 x6_2).f0)) ∧ w'.cell? ⟨(ad346.add ((x6_2).toNat * 2)).block, (ad346.add ((x6_2).toNat * 2)).off + 1, none⟩ = some (.int .i64 ((dC l0 x6_2).f1))) (ds := []) (bv 14 0) (by kernel_rfl) rfl rfl ⟨(blk_cell BK340.out 0).trans rfl, (blk_cell BK340.out 1).trans rfl, (ce_ HB hw346_0), (ce_ HB hw346_1)⟩ (fun hHeld => ?_); refine with_tabW aK.tab6 aK.bits6 (fun HT_ HW_ => ?_)
     generalize wr.drew = w18 at HO_5 BK340 HB hx346_0 hx346_1 hHeld ⊢
     refine pu_ 0 30 (bv 14 1) ?_
     refine pu_ 1 31 (bv 14 3) ?_
     refine pu_ 2 32 (bv 14 7) ?_
     refine pu_ 3 33 (bv 14 15) ?_
     refine pu_ 4 34 (bv 14 31) ?_
     refine pu_ 5 35 (bv 14 63) ?_
     refine pu_ 6 36 (bv 14 127) ?_
     refine pu_ 7 37 (bv 14 255) ?_
     refine pu_ 8 38 (bv 14 511) ?_
     refine pu_ 10 40 (bv 14 1535) ?_
     refine tk_ 9 39 (bv 14 2047) hHeld ?_
     refine tk_ 11 41 (bv 14 4095) hHeld ?_
     refine pu_ 12 42 (bv 14 8191) ?_
     refine pu_ 13 43 (bv 14 16383) ?_
     refine done_ (done_of HT_.out (by kernel_rfl)) ?_
     try go_wp2
     replace HO_5 := am_ (Kd.R_drew HO_5.out)
     replace BK340 := am_ (blk_drew BK340.out)
     replace HB := am_ (below_drew1 HB.out)
     have p347 := pt_ x6_2
     have q347 := qt_ x6_2 l0.length
     obtain ⟨ad347, e347, hx347_0, hx347_1⟩ := fU HR0.out x6_2 (oe_ p347) (oe_ q347)
     have hw347_1 := hx347_1
     have hw347_0 := hx347_0
     obtain rfl : ad346 = ad347 := (by injection e347)
     replace hx347_0 := ce_ HB hx347_0
     replace hx347_1 := ce_ HB hx347_1
     have p348 := pt_ x6_2
     have q348 := qt_ x6_2 l0.length
     obtain ⟨ad348, e348, hx348_0, hx348_1⟩ := fU HR0.out x6_2 (oe_ p348) (oe_ q348)
     have hw348_1 := hx348_1
     have hw348_0 := hx348_0
     obtain rfl : ad346 = ad348 := (by injection e348)
     replace hx348_0 := ce_ HB hx348_0
     replace hx348_1 := ce_ HB hx348_1
     refine start_ (n := 20) (S := fun w' => w'.cell? (ad346.add ((x6_2).toNat * 2)) = some (.int .i64 ((dC l0 x6_2).f0)) ∧ w'.cell? ⟨(ad346.add ((x6_2).toNat * 2)).block, (ad346.add ((x6_2).toNat * 2)).off + 1, none⟩ = some (.int .i64 ((dC l0 x6_2).f1)) ∧ w'.cell? (ad346.add ((x6_2).toNat * 2)) = some (.int .i64 ((dC l0 x6_2).f0)) ∧ w'.cell? ⟨(ad346.add ((x6_2).toNat * 2)).block, (ad346.add ((x6_2).toNat * 2)).off + 1, none⟩ = some (.int .i64 ((dC l0 x6_2).f1))) (ds := []) (bv 20 0) (by kernel_rfl) rfl rfl ⟨(ce_ HB hw347_0), (ce_ HB hw347_1), (ce_ HB hw348_0), (ce_ HB hw348_1)⟩ (fun hHeld => ?_); refine with_tabW aK.tab7 aK.jU (fun HT_ HW_ => ?_)
     generalize w18.drew = w19 at HO_5 BK340 HB hx347_0 hx347_1 hx348_0 hx348_1 hHeld ⊢
     refine pu_ 0 44 (bv 20 1) ?_
     refine pu_ 2 46 (bv 20 5) ?_
     refine pu_ 3 47 (bv 20 13) ?_
     refine pu_ 4 48 (bv 20 29) ?_
     refine pu_ 5 49 (bv 20 61) ?_
     refine pu_ 8 52 (bv 20 317) ?_
     refine pu_ 10 54 (bv 20 1341) ?_
     refine pu_ 11 55 (bv 20 3389) ?_
     refine pu_ 12 56 (bv 20 7485) ?_
     refine pu_ 13 57 (bv 20 15677) ?_
     refine tk_ 6 50 (bv 20 15741) hHeld ?_
     refine tk_ 14 58 (bv 20 32125) hHeld ?_
     refine two_ (i := 1) (j := 9) (Ni := some 45) (Nj := some 53) (bv 20 32127) (bv 20 32637) rfl rfl rfl rfl (two_of HT_.out (by kernel_rfl)) (by decide) (by decide) (fun K hK => ?_) (fun K hK => ?_)
     · skip
       have hs1_ : w19.cell? ⟨gb340, 0, none⟩ = some (.int .i64 x341000_2) := (blk_cell BK340.out 0).trans rfl
       refine value_ (w1 := ?_) (v := ?_) (by rfl) rfl ?_ ?_
       rotate_left 2
       · go_simp
         constructor
         · rfl
         rfl
       refine hK.out _ _ hHeld (fun hHeld => ?_)
       clear hK K
       refine norm_ (a' := ?_) ?_ ?_
       rotate_left
       · show Act.put _ (some 45) _ = _
         simp only [Act.put, List.setIfInBounds_toArray, List.set_cons_zero, List.set_cons_succ, i64_w, i32_w]
         rfl
       refine pu_ 7 51 (bv 20 32255) ?_
       refine one_ (i := 9) (N := some 53) (bv 20 32767) rfl rfl (one_of HT_.out (by kernel_rfl)) (by decide) (fun K hK => ?_)
       have hs9_ : w19.cell? ⟨gb340, 1, none⟩ = some (.int .i64 x341001_2) := (blk_cell BK340.out 1).trans rfl
       refine value_ (w1 := ?_) (v := ?_) (by rfl) rfl ?_ ?_
       rotate_left 2
       · go_simp
         constructor
         · rfl
         rfl
       refine hK.out _ _ hHeld (fun hHeld => ?_)
       clear hK K
       refine norm_ (a' := ?_) ?_ ?_
       rotate_left
       · show Act.put _ (some 53) _ = _
         simp only [Act.put, List.setIfInBounds_toArray, List.set_cons_zero, List.set_cons_succ, i64_w, i32_w]
         rfl
       refine pu_ 15 59 (bv 20 65535) ?_
       refine pu_ 16 60 (bv 20 131071) ?_
       refine one_ (i := 17) (N := none) (bv 20 262143) rfl rfl (one_of HT_.out (by kernel_rfl)) (by decide) (fun K hK => ?_)
       have hs20 : w19.cell? ⟨gb340, 0, none⟩ = some (.int .i64 x341000_2) := (blk_cell BK340.out 0).trans rfl
       have hfs20 := blk_frozen BK340.out 0
       refine skip_ (w1 := ?_) (by rfl) rfl ?_ ?_
       rotate_left
       · go_simp
         rfl
       refine hK.out _ _ ⟨(cell_far (p := ⟨gb340, _, none⟩) (fb_ hw347_0 GW340) _).trans hHeld.1, (cell_far (p := ⟨gb340, _, none⟩) (fb_ hw347_1 GW340) _).trans hHeld.2.1, (cell_far (p := ⟨gb340, _, none⟩) (fb_ hw348_0 GW340) _).trans hHeld.2.2.1, (cell_far (p := ⟨gb340, _, none⟩) (fb_ hw348_1 GW340) _).trans hHeld.2.2.2⟩ (fun hHeld => ?_)
       clear hK K
       refine pu_ 18 61 (bv 20 524287) ?_
       refine one_ (i := 19) (N := none) (bv 20 1048575) rfl rfl (one_of HT_.out (by kernel_rfl)) (by decide) (fun K hK => ?_)
       have hs21 : w19.cell? ⟨gb340, 1, none⟩ = some (.int .i64 x341001_2) := (blk_cell BK340.out 1).trans rfl
       have hfs21 := blk_frozen BK340.out 1
       refine skip_ (w1 := ?_) (by rfl) rfl ?_ ?_
       rotate_left
       · go_simp
         rfl
       refine hK.out _ _ ⟨(cell_far (p := ⟨gb340, _, none⟩) (fb_ hw347_0 GW340) _).trans hHeld.1, (cell_far (p := ⟨gb340, _, none⟩) (fb_ hw347_1 GW340) _).trans hHeld.2.1, (cell_far (p := ⟨gb340, _, none⟩) (fb_ hw348_0 GW340) _).trans hHeld.2.2.1, (cell_far (p := ⟨gb340, _, none⟩) (fb_ hw348_1 GW340) _).trans hHeld.2.2.2⟩ (fun hHeld => ?_)
       clear hK K
       refine done_ (done_of HT_.out (by kernel_rfl)) ?_
       try go_wp2
       go_roundg k2
       case measure => have := HJ2.out; have := HK2.out; omega
       case rel => exact ⟨(wrap64 (x6_2 + 1)), (ji16), (ji17), ra_, H, ⟨by have := HJ2.out; have := HK2.out; omega⟩, ⟨by (with_reducible repeat (first | apply Kd.R_alloc | apply Kd.R_drewN | apply Kd.R_drew)); exact Kd.R_mono (Kd.R_far (p := ⟨gb340, 1, none⟩) (Kd.R_far (p := ⟨gb340, 0, none⟩) (Kd.R_mono HO_5.out (fun k_ hk => (⟨hk, hk⟩ : _ ∧ k_ ≠ gb340))) (fun _ hk => hk.2) (.int .i64 ji16)) (fun _ hk => hk.2) (.int .i64 ji17)) (fun _ hk => hk.1)⟩, ⟨by (with_reducible repeat (first | refine blk_drewN ?_ _ | refine blk_drew ?_ | refine blk_alloc ?_ _)); refine blk_put (cs := #[.int .i64 ji16, .int .i64 x341001_2]) ?_ 1 _ rfl; (with_reducible repeat (first | refine blk_drewN ?_ _ | refine blk_drew ?_ | refine blk_alloc ?_ _)); refine blk_put (cs := #[.int .i64 x341000_2, .int .i64 x341001_2]) ?_ 0 _ rfl; (with_reducible repeat (first | refine blk_drewN ?_ _ | refine blk_drew ?_ | refine blk_alloc ?_ _)); exact BK340.out⟩, ⟨bl_⟩⟩
     skip
     have hs9_ : w19.cell? ⟨gb340, 1, none⟩ = some (.int .i64 x341001_2) := (blk_cell BK340.out 1).trans rfl
     refine value_ (w1 := ?_) (v := ?_) (by rfl) rfl ?_ ?_
     rotate_left 2
     · go_simp
       constructor
       · rfl
       rfl
     refine hK.out _ _ hHeld (fun hHeld => ?_)
     clear hK K
     refine norm_ (a' := ?_) ?_ ?_
     rotate_left
     · show Act.put _ (some 53) _ = _
       simp only [Act.put, List.setIfInBounds_toArray, List.set_cons_zero, List.set_cons_succ, i64_w, i32_w]
       rfl
     refine pu_ 15 59 (bv 20 65405) ?_
     refine one_ (i := 1) (N := some 45) (bv 20 65407) rfl rfl (one_of HT_.out (by kernel_rfl)) (by decide) (fun K hK => ?_)
     have hs1_ : w19.cell? ⟨gb340, 0, none⟩ = some (.int .i64 x341000_2) := (blk_cell BK340.out 0).trans rfl
     refine value_ (w1 := ?_) (v := ?_) (by rfl) rfl ?_ ?_
     rotate_left 2
     · go_simp
       constructor
       · rfl
       rfl
     refine hK.out _ _ hHeld (fun hHeld => ?_)
     clear hK K
     refine norm_ (a' := ?_) ?_ ?_
     rotate_left
     · show Act.put _ (some 45) _ = _
       simp only [Act.put, List.setIfInBounds_toArray, List.set_cons_zero, List.set_cons_succ, i64_w, i32_w]
       rfl
     refine pu_ 7 51 (bv 20 65535) ?_
     refine pu_ 16 60 (bv 20 131071) ?_
     refine one_ (i := 17) (N := none) (bv 20 262143) rfl rfl (one_of HT_.out (by kernel_rfl)) (by decide) (fun K hK => ?_)
     have hs20 : w19.cell? ⟨gb340, 0, none⟩ = some (.int .i64 x341000_2) := (blk_cell BK340.out 0).trans rfl
     have hfs20 := blk_frozen BK340.out 0
     refine skip_ (w1 := ?_) (by rfl) rfl ?_ ?_
     rotate_left
     · go_simp
       rfl
     refine hK.out _ _ ⟨(cell_far (p := ⟨gb340, _, none⟩) (fb_ hw347_0 GW340) _).trans hHeld.1, (cell_far (p := ⟨gb340, _, none⟩) (fb_ hw347_1 GW340) _).trans hHeld.2.1, (cell_far (p := ⟨gb340, _, none⟩) (fb_ hw348_0 GW340) _).trans hHeld.2.2.1, (cell_far (p := ⟨gb340, _, none⟩) (fb_ hw348_1 GW340) _).trans hHeld.2.2.2⟩ (fun hHeld => ?_)
     clear hK K
     refine pu_ 18 61 (bv 20 524287) ?_
     refine one_ (i := 19) (N := none) (bv 20 1048575) rfl rfl (one_of HT_.out (by kernel_rfl)) (by decide) (fun K hK => ?_)
     have hs21 : w19.cell? ⟨gb340, 1, none⟩ = some (.int .i64 x341001_2) := (blk_cell BK340.out 1).trans rfl
     have hfs21 := blk_frozen BK340.out 1
     refine skip_ (w1 := ?_) (by rfl) rfl ?_ ?_
     rotate_left
     · go_simp
       rfl
     refine hK.out _ _ ⟨(cell_far (p := ⟨gb340, _, none⟩) (fb_ hw347_0 GW340) _).trans hHeld.1, (cell_far (p := ⟨gb340, _, none⟩) (fb_ hw347_1 GW340) _).trans hHeld.2.1, (cell_far (p := ⟨gb340, _, none⟩) (fb_ hw348_0 GW340) _).trans hHeld.2.2.1, (cell_far (p := ⟨gb340, _, none⟩) (fb_ hw348_1 GW340) _).trans hHeld.2.2.2⟩ (fun hHeld => ?_)
     clear hK K
     refine done_ (done_of HT_.out (by kernel_rfl)) ?_
     try go_wp2
     go_roundg k2
     case measure => have := HJ2.out; have := HK2.out; omega
     case rel => exact ⟨(wrap64 (x6_2 + 1)), (ji16), (ji17), ra_, H, ⟨by have := HJ2.out; have := HK2.out; omega⟩, ⟨by (with_reducible repeat (first | apply Kd.R_alloc | apply Kd.R_drewN | apply Kd.R_drew)); exact Kd.R_mono (Kd.R_far (p := ⟨gb340, 1, none⟩) (Kd.R_far (p := ⟨gb340, 0, none⟩) (Kd.R_mono HO_5.out (fun k_ hk => (⟨hk, hk⟩ : _ ∧ k_ ≠ gb340))) (fun _ hk => hk.2) (.int .i64 ji16)) (fun _ hk => hk.2) (.int .i64 ji17)) (fun _ hk => hk.1)⟩, ⟨by (with_reducible repeat (first | refine blk_drewN ?_ _ | refine blk_drew ?_ | refine blk_alloc ?_ _)); refine blk_put (cs := #[.int .i64 ji16, .int .i64 x341001_2]) ?_ 1 _ rfl; (with_reducible repeat (first | refine blk_drewN ?_ _ | refine blk_drew ?_ | refine blk_alloc ?_ _)); refine blk_put (cs := #[.int .i64 x341000_2, .int .i64 x341001_2]) ?_ 0 _ rfl; (with_reducible repeat (first | refine blk_drewN ?_ _ | refine blk_drew ?_ | refine blk_alloc ?_ _)); exact BK340.out⟩, ⟨bl_⟩⟩
end Go.Proofs.YthkeonbmgcphkaaGreatDoor.PM
