-- Written by this session's own programs (wip/tools).
import Derived.Test.YthkeonbmgcphkaaGreatDoorDPTx0
import Derived.Test.YthkeonbmgcphkaaGreatDoorDPTx4
namespace Go.Proofs.YthkeonbmgcphkaaGreatDoor.PT
open Go.RowKit Go.Proofs.YthkeonbmgcphkaaGreatDoorW.PrintWords Go.Proofs.YthkeonbmgcphkaaGreatDoorW.PrintLast Go.Proofs.YthkeonbmgcphkaaGreatDoorW.PrintMore
attribute [local go_sem] max2_int min2_int max_two min_two max_three min_three max_four min_four
set_option linter.unusedVariables false
set_option linter.unusedSimpArgs false
def shape_stretches.l0 : Nat → List (S44) → List Int → List (S44) → Int → Int → Option (List Int × (List (S44)))
  | 0, _, _, _, _, _ => none
  | k + 1, x0, x3, x9, x10, x11 => if x11 < x10 then (if 0 ≤ x11 then (if x11 < (x9.length : Int) then (if (wrap64 ((x3.length : Int) - 1)) ≥ 0 then (if 0 ≤ (wrap64 ((x3.length : Int) - 1)) then (if (wrap64 ((x3.length : Int) - 1)) < (x3.length : Int) then (if ((rd_T44 x9 x11).f0) ≤ (rd x3 (wrap64 ((x3.length : Int) - 1))) then (shape_stretches.l0 k x0 (x3.set ((wrap64 ((x3.length : Int) - 1)) : Int).toNat (mx (rd x3 (wrap64 ((x3.length : Int) - 1))) ((rd_T44 x9 x11).f2))) x9 x10 (wrap64 (x11 + 1))) else ((some (([(rd_T44 x9 x11).f0, (rd_T44 x9 x11).f2] : List Int) : List Int)).bind fun y145 => (if x3.length + y145.length < 17592186044416 then (shape_stretches.l0 k x0 (x3 ++ y145) x9 x10 (wrap64 (x11 + 1))) else (none)))) else (none)) else (none)) else ((some (([(rd_T44 x9 x11).f0, (rd_T44 x9 x11).f2] : List Int) : List Int)).bind fun y151 => (if x3.length + y151.length < 17592186044416 then (shape_stretches.l0 k x0 (x3 ++ y151) x9 x10 (wrap64 (x11 + 1))) else (none)))) else (none)) else (none)) else (some (x3, x0))
def shape_stretches.f (k : Nat) (l0 : List (S44)) : Option (List Int × (List (S44))) := (api_Rect_87_with_shape_stretches_1.f l0).bind fun t139 => (shape_stretches.l0 k t139 ([] : List Int) t139 (l0.length : Int) 0)
def shape_stretches.T7 : Bool × List (List Nat × List Nat) := (true, [([], []), ([0], [0]), ([1], [1]), ([2], [2]), ([3, 2], [2, 3]), ([2], [2]), ([2], [2]), ([5, 6, 2], [2, 5, 6]), ([7, 2], [2, 7]), ([4, 8, 2], [2, 4, 8]), ([2, 9], [2, 9])])
def shape_stretches.B7 : List Nat := [0, 1, 3, 7, 15, 7, 7, 103, 231, 511, 1023]
theorem shape_stretches.tab7 : rtab .any (opsOf Tryz.f94 7) = shape_stretches.T7 := by kernel_rfl
theorem shape_stretches.bits7 : waitsOk shape_stretches.T7.2 shape_stretches.B7 = true := by kernel_rfl
def shape_stretches.T8 : Bool × List (List Nat × List Nat) := (true, [([], []), ([], []), ([], []), ([], []), ([2, 3], [2, 3]), ([4], [4]), ([], []), ([6], [6]), ([5, 7], [5, 7]), ([0, 1, 0, 1, 2, 3, 4, 5, 6, 7, 8], [0, 1]), ([9, 8, 0, 1, 2, 3, 4, 5, 6, 7, 8], [8, 9])])
def shape_stretches.B8 : List Nat := [0, 0, 0, 0, 12, 28, 0, 64, 252, 511, 1023]
theorem shape_stretches.tab8 : rtab .any (opsOf Tryz.f94 8) = shape_stretches.T8 := by kernel_rfl
theorem shape_stretches.bits8 : waitsOk shape_stretches.T8.2 shape_stretches.B8 = true := by kernel_rfl
set_option maxHeartbeats 8000000 in
set_option maxRecDepth 100000 in
theorem shape_stretches.calls (k : Nat) (P0_ : Nat → Prop) (u9000_ : Value) (l0 : List (S44)) (r1 : List Int) (r2 : List (S44)) (w0 w : World) (hG : Tryz.GW w0) (hB : Below w0.heap.size w0 w) (ho0 : Kd.R k44 44 w w0.heap.size P0_ u9000_ l0) (h : shape_stretches.f k l0 = some (r1, r2)) :
    Calls Tryz.prog 94 #[u9000_] w fun e w' => ∃ v0_ : Value, e = .returned (v0_) ∧ Kd.R (Kd.int .i64) 3 w' w0.heap.size (fun k_ => (P0_ k_ ∨ w.heap.size ≤ k_)) v0_ r1 ∧ Kd.R k44 44 w' w0.heap.size (fun k_ => (P0_ k_ ∨ w.heap.size ≤ k_)) u9000_ r2 ∧ Below w0.heap.size w0 w' ∧ Kept w w' (fun k_ => P0_ k_) := by
  have hu44 := Tryz.underlying44
  have HO0 := Aside0.mk (show Kd.R k44 44 w w0.heap.size (fun k_ => (P0_ k_ ∨ w.heap.size ≤ k_)) u9000_ l0 from Kd.R_mono ho0 (fun k_ hk => (.inl hk)))
  have HK := Aside0.mk (Kept.refl w (fun k_ => P0_ k_))
  have HG := Aside0.mk hG
  clear hG
  have HW0 := Aside0.mk hB.size
  have HB := Aside0.mk hB
  clear hB
  have H : ((api_Rect_87_with_shape_stretches_1.f l0).bind fun t139 => (shape_stretches.l0 k t139 ([] : List Int) t139 (l0.length : Int) 0)) = some (r1, r2) := h
  clear h
  replace H := Option.bind_eq_some_iff.mp H
  obtain ⟨t139, A20, H⟩ := H
  try dsimp only at H
  have A2 := Aside0.mk A20
  clear A20
  have H' := Aside0.mk H
  clear H
  obtain ⟨Ao3, co3, eo3⟩ := Kd.R_slice HO0.out
  subst eo3
  go_enter Tryz.func94, Tryz.ntmps94
  go_wp2_with (first | ((with_reducible refine gate_callee (f := 87) rfl ?_); refine gl_ (some 8) Tryz.func87 #[.slice Ao3 l0.length co3, .func (.func 130) #[] #[]] ?_; (with_reducible refine (api_Rect_87_with_shape_stretches_1.calls (fun k_ => some k_ = (.slice Ao3 l0.length co3 : Value).ownBlock) (.slice Ao3 l0.length co3) l0  t139 w0 _ ?side1 ?side2 ?side3 A2.out).mono ?_); (case side1 => exact HG.out); (case side2 => repeat (first | (with_reducible first | exact HB.out | apply below_alloc | apply pw_below_drewN | apply below_drew1) | exact HB.out)); (case side3 => exact Kd.R_tight rfl HO0.out); rintro e w4 ⟨rfl, hy0, hb, hkp⟩; refine ⟨_, rfl, ?_⟩; replace HK := Aside0.mk (Kept.then_ (S := (fun k_ => P0_ k_)) (by repeat (first | (with_reducible first | exact HK.out | apply Kept.alloc | apply Kept.drewN | apply Kept.drew) | exact HK.out)) hkp (fun k_ hs_ => (fun e_ => (HO0.out.1 k_ e_.symm)) hs_)); replace HO0 := Aside0.mk (Kd.R_reok rfl hy0 (fun k_ e_ => HO0.out.1 k_ e_)); replace HB := Aside0.mk (hb); (try clear hb); (try clear hkp); (try clear hy0)))
  go_loopg [3, 11] k (fun kq v3 v11 w' => ∃ (x3_1 : List Int) (x11_1 : Int), v11 = .int .i64 x11_1 ∧ Aside0 (shape_stretches.l0 kq t139 x3_1 t139 (l0.length : Int) x11_1 = some (r1, r2)) ∧ Aside0 (kq ≤ k) ∧ Aside0 (Kd.R k44 44 w' w0.heap.size (fun k_ => (P0_ k_ ∨ w.heap.size ≤ k_)) (.slice Ao3 l0.length co3) t139) ∧ Aside0 (Kd.R (Kd.int .i64) 3 w' w0.heap.size (fun k_ => (P0_ k_ ∨ w.heap.size ≤ k_)) v3 x3_1) ∧ Aside0 (Kd.R k44 44 w' w0.heap.size (fun k_ => (P0_ k_ ∨ w.heap.size ≤ k_)) (.slice Ao3 l0.length co3) t139) ∧ Aside0 (Kept w w' (fun k_ => P0_ k_)) ∧ Aside0 (Below w0.heap.size w0 w'))
  case atStart => exact ⟨(([] : List Int)), (0), (by first | rfl | (simp; done) | (simp [*]; done)), H', ⟨Nat.le_refl _⟩, ⟨by (with_reducible repeat (first | apply Kd.R_alloc | apply Kd.R_drewN | apply Kd.R_drew)); exact HO0.out⟩, ⟨by first | exact Kd.R_nil _ _ _ _ _ | exact Kd.N_nil _ _ _ _ _ | exact Kd.V_nil _ _ _ _ _ | exact Kd.Q_nil _ _ _ _ _ | exact Kd.S_nil _ _ _ _ _⟩, ⟨by (with_reducible repeat (first | apply Kd.R_alloc | apply Kd.R_drewN | apply Kd.R_drew)); exact HO0.out⟩, ⟨by repeat (first | (with_reducible first | exact HK.out | apply Kept.alloc | apply Kept.drewN | apply Kept.drew) | exact HK.out)⟩, ⟨bl_⟩⟩
  case round =>
    clear H'
    try clear c1
    try clear p2
    obtain ⟨x3_1, x11_1, rfl, HA, HK1, HO_0, HO_3, HO_9, HK, HB⟩ := hrel
    have hl0_1 := (Kd.R_reads' HO_0.out).1
    rw [hl0_1] at HO_0
    (try simp only [hl0_1])
    (try simp only [hl0_1] at HO_3)
    (try simp only [hl0_1] at HO_9)
    have hl9_1 := (Kd.R_reads' HO_9.out).1
    rw [hl9_1] at HO_9
    (try simp only [hl9_1])
    (try simp only [hl9_1] at HO_0)
    (try simp only [hl9_1] at HO_3)
    cases gk with
    | zero => exact absurd HA.out (by simp [shape_stretches.l0])
    | succ k1 =>
      have H := HA.out
      clear HA
      simp only [shape_stretches.l0] at H
      by_cases c5 : x11_1 < (l0.length : Int)
      · rw [if_pos c5] at H
        have c5b0 : decide (x11_1 < (l0.length : Int)) = true := decide_eq_true c5
        clear c5
        by_cases c6 : 0 ≤ x11_1
        · rw [if_pos c6] at H
          have c6b0 : decide (0 ≤ x11_1) = true := decide_eq_true c6
          clear c6
          by_cases c7 : x11_1 < (t139.length : Int)
          · rw [if_pos c7] at H
            have c7b0 : decide (x11_1 < (t139.length : Int)) = true := decide_eq_true c7
            clear c7
            by_cases c8 : (wrap64 ((x3_1.length : Int) - 1)) ≥ 0
            · rw [if_pos c8] at H
              have c8b0 : decide (0 ≤ (wrap64 ((x3_1.length : Int) - 1))) = true := decide_eq_true c8
              clear c8
              obtain ⟨ji9, hji9⟩ : ∃ j_ : Int, (wrap64 ((x3_1.length : Int) - 1)) = j_ := ⟨_, rfl⟩
              first | rw [hji9] at H | simp only [hji9] at H
              (try rw [hji9] at c8b0)
              have hji9w : (IntKind.i64.wrap ((x3_1.length : Int) - 1)) = ji9 := (i64_w _).trans hji9
              by_cases c10 : 0 ≤ (ji9)
              · rw [if_pos c10] at H
                have c10b0 : decide (0 ≤ (ji9)) = true := decide_eq_true c10
                clear c10
                by_cases c11 : (ji9) < (x3_1.length : Int)
                · rw [if_pos c11] at H
                  have c11b0 : decide ((ji9) < (x3_1.length : Int)) = true := decide_eq_true c11
                  clear c11
                  by_cases c12 : ((rd_T44 t139 x11_1).f0) ≤ (rd x3_1 (ji9))
                  · rw [if_pos c12] at H
                    have c12b0 : decide (((rd_T44 t139 x11_1).f0) ≤ (rd x3_1 (ji9))) = true := decide_eq_true c12
                    clear c12
                    obtain ⟨ji13, hji13⟩ : ∃ j_ : Int, (mx (rd x3_1 (ji9)) ((rd_T44 t139 x11_1).f2)) = j_ := ⟨_, rfl⟩
                    first | rw [hji13] at H | simp only [hji13] at H
                    have hji13_ : (if (rd x3_1 (ji9)) < ((rd_T44 t139 x11_1).f2) then ((rd_T44 t139 x11_1).f2) else (rd x3_1 (ji9))) = ji13 := hji13
                    obtain ⟨y144, hy144⟩ : ∃ y_ : List Int, y_ = (x3_1.set ((ji9) : Int).toNat (ji13)) := ⟨_, rfl⟩
                    replace H : (shape_stretches.l0 k1 t139 y144 t139 (l0.length : Int) (wrap64 (x11_1 + 1))) = some (r1, r2) := by first | (rw [hy144]; with_reducible exact H) | (have H2_ := (Option.bind_some _ _).symm.trans H; rw [hy144]; with_reducible exact H2_) | (have H2_ := (Option.bind_some _ _).symm.trans H; with_reducible exact H2_) | with_reducible exact H | (rw [hy144]; exact H) | exact H
                    have Ny144 := Aside0.mk hy144
                    clear hy144
                    have H' := Aside0.mk H
                    clear H
                    have p140 : 0 ≤ (x11_1 : Int) := dt_
                    have q140 : x11_1 < (t139.length : Int) := dt_
                    obtain ⟨ad140, e140, hx140_0, hx140_1, hx140_2, hx140_3⟩ := at_T44 (Kd.R_reads' HO_9.out).2.2 x11_1 p140 q140
                    cases e140
                    replace p140 := eq_true p140
                    replace q140 := eq_true q140
                    try go_wp2_with (first | ((with_reducible refine gate_dst (N := 5) rfl ?_); refine bx_ (N := 5) (cs := #[.int .i64 0, .int .i64 0, .int .i64 0, .int .i64 0]) (t := 44) ?_; intro gb141 hg w15 hbox hb; have BK141 := Aside0.mk (hbox); have GW141 := Aside0.mk ((by rw [hg]; exact (by first | exact HK.out.1 | exact (show Kept w _ (fun k_ => P0_ k_) from by repeat (first | (with_reducible first | exact HK.out | apply Kept.alloc | apply Kept.drewN | apply Kept.drew) | exact HK.out)).1) : w.heap.size ≤ gb141)); have GE141 := Aside0.mk ((gs_ hg : w0.heap.size ≤ gb141)); replace HO_0 := Aside0.mk (Kd.R_below (Kd.R_elderB (rr_ HO_0) gb141 (Nat.le_of_eq hg.symm)) hb); replace HO_3 := Aside0.mk (Kd.R_below (rr_ HO_3) hb); replace HO_9 := Aside0.mk (Kd.R_below (Kd.R_elderB (rr_ HO_9) gb141 (Nat.le_of_eq hg.symm)) hb); replace HK := Aside0.mk (Kept.below (S := (fun k_ => P0_ k_)) (by repeat (first | (with_reducible first | exact HK.out | apply Kept.alloc | apply Kept.drewN | apply Kept.drew) | exact HK.out)) hb); replace HB := Aside0.mk (below_step bl_ hb); clear hb hbox hg; obtain ⟨hcz16_0, hcz16_1, hcz16_2, hcz16_3, hfz16_0, hfz16_1, hfz16_2, hfz16_3⟩ := bc4_ BK141; obtain ⟨Ao17, co17, eo17⟩ := Kd.R_slice HO_3.out; subst eo17))
                    have n0_ : Aside0 (Kd.R k44 44 ((((w15.setCell ⟨gb141, 0, none⟩ (.int .i64 ((rd_T44 t139 x11_1).f0))).setCell ⟨gb141, 1, none⟩ (.int .i64 ((rd_T44 t139 x11_1).f1))).setCell ⟨gb141, 2, none⟩ (.int .i64 ((rd_T44 t139 x11_1).f2))).setCell ⟨gb141, 3, none⟩ (.int .i64 ((rd_T44 t139 x11_1).f3))) w0.heap.size (fun k_ => (P0_ k_ ∨ w.heap.size ≤ k_) ∧ k_ ≠ gb141) (.slice (some ad140) t139.length co3) t139) := ⟨by (with_reducible repeat (first | apply Kd.R_alloc | apply Kd.R_drewN | apply Kd.R_drew)); exact Kd.R_mono (Kd.R_far (p := ⟨gb141, 3, none⟩) (Kd.R_far (p := ⟨gb141, 2, none⟩) (Kd.R_far (p := ⟨gb141, 1, none⟩) (Kd.R_far (p := ⟨gb141, 0, none⟩) (Kd.R_mono HO_0.out (fun k_ hk => (⟨hk, hk.2⟩ : _ ∧ k_ ≠ gb141))) (fun _ hk => hk.2) (.int .i64 ((rd_T44 t139 x11_1).f0))) (fun _ hk => hk.2) (.int .i64 ((rd_T44 t139 x11_1).f1))) (fun _ hk => hk.2) (.int .i64 ((rd_T44 t139 x11_1).f2))) (fun _ hk => hk.2) (.int .i64 ((rd_T44 t139 x11_1).f3))) (fun _ hk => ⟨hk.1.1, hk.1.2⟩)⟩
                    have n1_ : Aside0 (Kd.R (Kd.int .i64) 3 ((((w15.setCell ⟨gb141, 0, none⟩ (.int .i64 ((rd_T44 t139 x11_1).f0))).setCell ⟨gb141, 1, none⟩ (.int .i64 ((rd_T44 t139 x11_1).f1))).setCell ⟨gb141, 2, none⟩ (.int .i64 ((rd_T44 t139 x11_1).f2))).setCell ⟨gb141, 3, none⟩ (.int .i64 ((rd_T44 t139 x11_1).f3))) w0.heap.size (fun k_ => (P0_ k_ ∨ w.heap.size ≤ k_)) (.slice Ao17 x3_1.length co17) x3_1) := ⟨by (with_reducible repeat (first | apply Kd.R_alloc | apply Kd.R_drewN | apply Kd.R_drew)); exact Kd.R_mono (Kd.R_far (p := ⟨gb141, 3, none⟩) (Kd.R_far (p := ⟨gb141, 2, none⟩) (Kd.R_far (p := ⟨gb141, 1, none⟩) (Kd.R_far (p := ⟨gb141, 0, none⟩) (Kd.R_types HO_3.out BK141.out (by decide)) (fun _ hk => hk.2) (.int .i64 ((rd_T44 t139 x11_1).f0))) (fun _ hk => hk.2) (.int .i64 ((rd_T44 t139 x11_1).f1))) (fun _ hk => hk.2) (.int .i64 ((rd_T44 t139 x11_1).f2))) (fun _ hk => hk.2) (.int .i64 ((rd_T44 t139 x11_1).f3))) (fun _ hk => hk.1)⟩
                    have n2_ : Aside0 (Kd.R k44 44 ((((w15.setCell ⟨gb141, 0, none⟩ (.int .i64 ((rd_T44 t139 x11_1).f0))).setCell ⟨gb141, 1, none⟩ (.int .i64 ((rd_T44 t139 x11_1).f1))).setCell ⟨gb141, 2, none⟩ (.int .i64 ((rd_T44 t139 x11_1).f2))).setCell ⟨gb141, 3, none⟩ (.int .i64 ((rd_T44 t139 x11_1).f3))) w0.heap.size (fun k_ => (P0_ k_ ∨ w.heap.size ≤ k_) ∧ k_ ≠ gb141) (.slice (some ad140) t139.length co3) t139) := ⟨by (with_reducible repeat (first | apply Kd.R_alloc | apply Kd.R_drewN | apply Kd.R_drew)); exact Kd.R_mono (Kd.R_far (p := ⟨gb141, 3, none⟩) (Kd.R_far (p := ⟨gb141, 2, none⟩) (Kd.R_far (p := ⟨gb141, 1, none⟩) (Kd.R_far (p := ⟨gb141, 0, none⟩) (Kd.R_mono HO_9.out (fun k_ hk => (⟨hk, hk.2⟩ : _ ∧ k_ ≠ gb141))) (fun _ hk => hk.2) (.int .i64 ((rd_T44 t139 x11_1).f0))) (fun _ hk => hk.2) (.int .i64 ((rd_T44 t139 x11_1).f1))) (fun _ hk => hk.2) (.int .i64 ((rd_T44 t139 x11_1).f2))) (fun _ hk => hk.2) (.int .i64 ((rd_T44 t139 x11_1).f3))) (fun _ hk => ⟨hk.1.1, hk.1.2⟩)⟩
                    have n3_ : Aside0 (((((w15.setCell ⟨gb141, 0, none⟩ (.int .i64 ((rd_T44 t139 x11_1).f0))).setCell ⟨gb141, 1, none⟩ (.int .i64 ((rd_T44 t139 x11_1).f1))).setCell ⟨gb141, 2, none⟩ (.int .i64 ((rd_T44 t139 x11_1).f2))).setCell ⟨gb141, 3, none⟩ (.int .i64 ((rd_T44 t139 x11_1).f3))).heap[gb141]? = some (.cells #[.int .i64 ((rd_T44 t139 x11_1).f0), .int .i64 ((rd_T44 t139 x11_1).f1), .int .i64 ((rd_T44 t139 x11_1).f2), .int .i64 ((rd_T44 t139 x11_1).f3)] 44 (0, 0))) := ⟨by (with_reducible repeat (first | refine blk_drewN ?_ _ | refine blk_drew ?_ | refine blk_alloc ?_ _)); refine blk_put (cs := #[.int .i64 ((rd_T44 t139 x11_1).f0), .int .i64 ((rd_T44 t139 x11_1).f1), .int .i64 ((rd_T44 t139 x11_1).f2), .int .i64 0]) ?_ 3 _ rfl; (with_reducible repeat (first | refine blk_drewN ?_ _ | refine blk_drew ?_ | refine blk_alloc ?_ _)); refine blk_put (cs := #[.int .i64 ((rd_T44 t139 x11_1).f0), .int .i64 ((rd_T44 t139 x11_1).f1), .int .i64 0, .int .i64 0]) ?_ 2 _ rfl; (with_reducible repeat (first | refine blk_drewN ?_ _ | refine blk_drew ?_ | refine blk_alloc ?_ _)); refine blk_put (cs := #[.int .i64 ((rd_T44 t139 x11_1).f0), .int .i64 0, .int .i64 0, .int .i64 0]) ?_ 1 _ rfl; (with_reducible repeat (first | refine blk_drewN ?_ _ | refine blk_drew ?_ | refine blk_alloc ?_ _)); refine blk_put (cs := #[.int .i64 0, .int .i64 0, .int .i64 0, .int .i64 0]) ?_ 0 _ rfl; (with_reducible repeat (first | refine blk_drewN ?_ _ | refine blk_drew ?_ | refine blk_alloc ?_ _)); exact BK141.out⟩
                    have n4_ : Aside0 (Kept w ((((w15.setCell ⟨gb141, 0, none⟩ (.int .i64 ((rd_T44 t139 x11_1).f0))).setCell ⟨gb141, 1, none⟩ (.int .i64 ((rd_T44 t139 x11_1).f1))).setCell ⟨gb141, 2, none⟩ (.int .i64 ((rd_T44 t139 x11_1).f2))).setCell ⟨gb141, 3, none⟩ (.int .i64 ((rd_T44 t139 x11_1).f3))) (fun k_ => P0_ k_)) := ⟨by repeat (first | (with_reducible first | exact HK.out | apply Kept.alloc | apply Kept.drewN | apply Kept.drew | refine Kept.setCell ?_ (.inr GW141.out) _) | exact HK.out)⟩
                    have n5_ : Aside0 (Below w0.heap.size w0 ((((w15.setCell ⟨gb141, 0, none⟩ (.int .i64 ((rd_T44 t139 x11_1).f0))).setCell ⟨gb141, 1, none⟩ (.int .i64 ((rd_T44 t139 x11_1).f1))).setCell ⟨gb141, 2, none⟩ (.int .i64 ((rd_T44 t139 x11_1).f2))).setCell ⟨gb141, 3, none⟩ (.int .i64 ((rd_T44 t139 x11_1).f3)))) := ⟨bl_⟩
                    (try clear HO_0)
                    (try clear HO_3)
                    (try clear HO_9)
                    (try clear BK141)
                    (try clear HK)
                    (try clear HB)
                    generalize ((((w15.setCell ⟨gb141, 0, none⟩ (.int .i64 ((rd_T44 t139 x11_1).f0))).setCell ⟨gb141, 1, none⟩ (.int .i64 ((rd_T44 t139 x11_1).f1))).setCell ⟨gb141, 2, none⟩ (.int .i64 ((rd_T44 t139 x11_1).f2))).setCell ⟨gb141, 3, none⟩ (.int .i64 ((rd_T44 t139 x11_1).f3))) = w18 at n0_ n1_ n2_ n3_ n4_ n5_ ⊢
                    have HO_0 := n0_
                    have HO_3 := n1_
                    have HO_9 := n2_
                    have BK141 := n3_
                    have HK := n4_
                    have HB := n5_
                    clear n0_ n1_ n2_ n3_ n4_ n5_
                    replace HO_0 := Aside0.mk (Kd.R_drew HO_0.out)
                    replace HO_3 := Aside0.mk (Kd.R_drew HO_3.out)
                    replace HO_9 := Aside0.mk (Kd.R_drew HO_9.out)
                    replace BK141 := Aside0.mk (blk_drew BK141.out)
                    replace HK := Aside0.mk (Kept.drew HK.out)
                    replace HB := Aside0.mk (below_drew1 HB.out)
                    have p142 : 0 ≤ ((ji9) : Int) := dt_
                    have q142 : (ji9) < (x3_1.length : Int) := dt_
                    obtain ⟨ad142, e142, hx142_0⟩ := Kd.at_int (Kd.R_reads' HO_3.out).2.2 (ji9) p142 q142
                    cases e142
                    replace p142 := eq_true p142
                    replace q142 := eq_true q142
                    refine start_ (n := 11) (S := fun w' => w'.cell? ⟨gb141, 0, none⟩ = some (.int .i64 ((rd_T44 t139 x11_1).f0)) ∧ w'.cell? ⟨gb141, 1, none⟩ = some (.int .i64 ((rd_T44 t139 x11_1).f1)) ∧ w'.cell? ⟨gb141, 2, none⟩ = some (.int .i64 ((rd_T44 t139 x11_1).f2)) ∧ w'.cell? ⟨gb141, 3, none⟩ = some (.int .i64 ((rd_T44 t139 x11_1).f3)) ∧ w'.cell? (ad142.add ((ji9)).toNat) = some (.int .i64 (rd x3_1 (ji9)))) (ds := []) (bv 11 0) (by kernel_rfl) rfl rfl ⟨(blk_cell BK141.out 0).trans rfl, (blk_cell BK141.out 1).trans rfl, (blk_cell BK141.out 2).trans rfl, (blk_cell BK141.out 3).trans rfl, hx142_0⟩ (fun hHeld => ?_); refine with_tabW shape_stretches.tab7 shape_stretches.bits7 (fun HT_ HW_ => ?_)
                    generalize w18.drew = w19 at HO_0 HO_3 HO_9 BK141 HK HB hx142_0 hHeld ⊢
                    refine pu_ 0 18 (bv 11 1) ?_
                    refine pu_ 1 19 (bv 11 3) ?_
                    refine pu_ 2 20 (bv 11 7) ?_
                    refine pu_ 3 21 (bv 11 15) ?_
                    refine pu_ 5 23 (bv 11 47) ?_
                    refine pu_ 6 24 (bv 11 111) ?_
                    refine pu_ 7 25 (bv 11 239) ?_
                    refine tk_ 4 22 (bv 11 255) hHeld ?_
                    refine tk_ 8 26 (bv 11 511) hHeld ?_
                    refine pu_ 9 27 (bv 11 1023) ?_
                    refine pu_ 10 28 (bv 11 2047) ?_
                    refine done_ (done_of HT_.out (by kernel_rfl)) ?_
                    try go_wp2
                    replace HO_0 := Aside0.mk (Kd.R_drew HO_0.out)
                    replace HO_3 := Aside0.mk (Kd.R_drew HO_3.out)
                    replace HO_9 := Aside0.mk (Kd.R_drew HO_9.out)
                    replace BK141 := Aside0.mk (blk_drew BK141.out)
                    replace HK := Aside0.mk (Kept.drew HK.out)
                    replace HB := Aside0.mk (below_drew1 HB.out)
                    have p143 : 0 ≤ ((ji9) : Int) := dt_
                    have q143 : (ji9) < (x3_1.length : Int) := dt_
                    obtain ⟨ad143, e143, hx143_0⟩ := Kd.at_int (Kd.R_reads' HO_3.out).2.2 (ji9) p143 q143
                    obtain rfl : ad142 = ad143 := (by injection e143)
                    replace p143 := eq_true p143
                    replace q143 := eq_true q143
                    have p14 : 0 ≤ ((ji9) : Int) := dt_
                    have q14 : ((ji9) : Int) < ((x3_1.length : Int) : Int) := dt_
                    obtain ⟨go14, co14, eo14, gb14, gl14, cl14, HG14⟩ := Kd.R_form HO_3.out (by omega)
                    (first | cases eo14 | (injection eo14 with ea_ en_ ec_; (first | subst ea_ | (injection ea_ with ea_; subst ea_)); subst ec_; clear en_))
                    have GB14 := Aside0.mk gb14
                    have GG14 := Aside0.mk HG14
                    clear gb14 gl14 HG14
                    have HMgo14 := Aside0.mk (show (P0_ go14 ∨ w.heap.size ≤ go14) from (HO_3.out.1 _ rfl))
                    (first | simp only [add_plain] at hx142_0 | skip)
                    (first | simp only [add_plain] at hx143_0 | skip)
                    obtain ⟨hx14_0, hf14_0⟩ := Kd.R_celln 0 HO_3.out ((ji9) : Int) p14 q14
                    replace p14 := eq_true p14
                    replace q14 := eq_true q14
                    have HP21 := Kd.R_putn HO_3.out ((ji9) : Int) ji13
                    rw [← Ny144.out] at HP21
                    have HQ21 := Aside0.mk HP21
                    clear HP21
                    refine start_ (n := 11) (S := fun w' => w'.cell? ⟨gb141, 0, none⟩ = some (.int .i64 ((rd_T44 t139 x11_1).f0)) ∧ w'.cell? ⟨gb141, 1, none⟩ = some (.int .i64 ((rd_T44 t139 x11_1).f1)) ∧ w'.cell? ⟨gb141, 2, none⟩ = some (.int .i64 ((rd_T44 t139 x11_1).f2)) ∧ w'.cell? ⟨gb141, 3, none⟩ = some (.int .i64 ((rd_T44 t139 x11_1).f3)) ∧ w'.cell? ⟨go14, ((ji9)).toNat, none⟩ = some (.int .i64 (rd x3_1 (ji9)))) (ds := [10]) (bv 11 0) (by kernel_rfl) rfl rfl ⟨(blk_cell BK141.out 0).trans rfl, (blk_cell BK141.out 1).trans rfl, (blk_cell BK141.out 2).trans rfl, (blk_cell BK141.out 3).trans rfl, hx143_0⟩ (fun hHeld => ?_); refine with_tabW shape_stretches.tab8 shape_stretches.bits8 (fun HT_ HW_ => ?_)
                    generalize w19.drew = w20 at HO_0 HO_3 HO_9 BK141 HK HB GG14 HQ21 hf14_0 hx142_0 hx143_0 hx14_0 hHeld ⊢
                    refine pu_ 0 29 (bv 11 1) ?_
                    refine pu_ 1 30 (bv 11 3) ?_
                    refine pu_ 2 31 (bv 11 7) ?_
                    refine pu_ 3 32 (bv 11 15) ?_
                    refine pu_ 4 33 (bv 11 31) ?_
                    refine pu_ 6 35 (bv 11 95) ?_
                    refine tk_ 5 34 (bv 11 127) hHeld ?_
                    refine tk_ 7 36 (bv 11 255) hHeld ?_
                    refine pu_ 8 37 (bv 11 511) ?_
                    refine pu_ 9 38 (bv 11 1023) ?_
                    refine last_ (i := 10) (N := none) (bv 11 2047) rfl rfl (one_of HT_.out (by kernel_rfl)) (by decide) (fun K hK => ?_)
                    refine skip_ (w1 := ?_) (by rfl) rfl ?_ ?_
                    rotate_left
                    · go_simp
                      rfl
                    refine hK.out _ _ ?_
                    clear hK K
                    refine done_ (done_of HT_.out (by kernel_rfl)) ?_
                    try go_wp2
                    (try simp only [← hl0_1]); (try simp only [← hl9_1])
                    go_roundg k1
                    case measure => have := HK1.out; omega
                    case rel => exact ⟨(y144), (wrap64 (x11_1 + 1)), (by first | rfl | (simp; done) | (simp [*]; done)), H', ⟨by have := HK1.out; omega⟩, ⟨by (try simp only [hl0_1]); (try simp only [hl9_1]); (with_reducible repeat (first | apply Kd.R_alloc | apply Kd.R_drewN | apply Kd.R_drew)); exact Kd.R_mono (Kd.R_far (p := ⟨go14, ((ji9) : Int).toNat, none⟩) (Kd.R_types HO_0.out GG14.out (by decide)) (fun _ hk => hk.2) (.int .i64 ji13)) (fun _ hk => hk.1.1)⟩, ⟨by (try simp only [hl0_1]); (try simp only [hl9_1]); (with_reducible repeat (first | apply Kd.R_alloc | apply Kd.R_drewN | apply Kd.R_drew)); exact HQ21.out⟩, ⟨by (try simp only [hl0_1]); (try simp only [hl9_1]); (with_reducible repeat (first | apply Kd.R_alloc | apply Kd.R_drewN | apply Kd.R_drew)); exact Kd.R_mono (Kd.R_far (p := ⟨go14, ((ji9) : Int).toNat, none⟩) (Kd.R_types HO_9.out GG14.out (by decide)) (fun _ hk => hk.2) (.int .i64 ji13)) (fun _ hk => hk.1.1)⟩, ⟨by repeat (first | (with_reducible first | exact HK.out | apply Kept.alloc | apply Kept.drewN | apply Kept.drew | refine Kept.setCell ?_ HMgo14.out _ | refine Kept.setCell ?_ (.inr GW141.out) _) | exact HK.out)⟩, ⟨by repeat (first | (with_reducible first | exact HB.out | apply below_alloc | apply pw_below_drewN | apply below_drew1 | refine below_set ?_ GB14.out | refine below_set ?_ GE141.out) | exact HB.out)⟩⟩
                  · rw [if_neg c12] at H
                    have c12b0 : decide (((rd_T44 t139 x11_1).f0) ≤ (rd x3_1 (ji9))) = false := decide_eq_false c12
                    clear c12
                    obtain ⟨y145, hy145⟩ : ∃ y_ : List Int, y_ = (([(rd_T44 t139 x11_1).f0, (rd_T44 t139 x11_1).f2] : List Int)) := ⟨_, rfl⟩
                    replace H : (if x3_1.length + y145.length < 17592186044416 then (shape_stretches.l0 k1 t139 (x3_1 ++ y145) t139 (l0.length : Int) (wrap64 (x11_1 + 1))) else (none)) = some (r1, r2) := by first | (rw [hy145]; with_reducible exact H) | (have H2_ := (Option.bind_some _ _).symm.trans H; rw [hy145]; with_reducible exact H2_) | (have H2_ := (Option.bind_some _ _).symm.trans H; with_reducible exact H2_) | with_reducible exact H | (rw [hy145]; exact H) | exact H
                    have Ny145 := Aside0.mk hy145
                    clear hy145
                    by_cases c22 : x3_1.length + y145.length < 17592186044416
                    · rw [if_pos c22] at H
                      have LMc22 := Aside0.mk c22
                      clear c22
                      obtain ⟨y148, hy148⟩ : ∃ y_ : List Int, y_ = (x3_1 ++ y145) := ⟨_, rfl⟩
                      replace H : (shape_stretches.l0 k1 t139 y148 t139 (l0.length : Int) (wrap64 (x11_1 + 1))) = some (r1, r2) := by first | (rw [hy148]; with_reducible exact H) | (have H2_ := (Option.bind_some _ _).symm.trans H; rw [hy148]; with_reducible exact H2_) | (have H2_ := (Option.bind_some _ _).symm.trans H; with_reducible exact H2_) | with_reducible exact H | (rw [hy148]; exact H) | exact H
                      have Ny148 := Aside0.mk hy148
                      clear hy148
                      have H' := Aside0.mk H
                      clear H
                      have p140 : 0 ≤ (x11_1 : Int) := dt_
                      have q140 : x11_1 < (t139.length : Int) := dt_
                      obtain ⟨ad140, e140, hx140_0, hx140_1, hx140_2, hx140_3⟩ := at_T44 (Kd.R_reads' HO_9.out).2.2 x11_1 p140 q140
                      cases e140
                      replace p140 := eq_true p140
                      replace q140 := eq_true q140
                      try go_wp2_with (first | ((with_reducible refine gate_dst (N := 5) rfl ?_); refine bx_ (N := 5) (cs := #[.int .i64 0, .int .i64 0, .int .i64 0, .int .i64 0]) (t := 44) ?_; intro gb141 hg w23 hbox hb; have BK141 := Aside0.mk (hbox); have GW141 := Aside0.mk ((by rw [hg]; exact (by first | exact HK.out.1 | exact (show Kept w _ (fun k_ => P0_ k_) from by repeat (first | (with_reducible first | exact HK.out | apply Kept.alloc | apply Kept.drewN | apply Kept.drew) | exact HK.out)).1) : w.heap.size ≤ gb141)); have GE141 := Aside0.mk ((gs_ hg : w0.heap.size ≤ gb141)); replace HO_0 := Aside0.mk (Kd.R_below (Kd.R_elderB (rr_ HO_0) gb141 (Nat.le_of_eq hg.symm)) hb); replace HO_3 := Aside0.mk (Kd.R_below (rr_ HO_3) hb); replace HO_9 := Aside0.mk (Kd.R_below (Kd.R_elderB (rr_ HO_9) gb141 (Nat.le_of_eq hg.symm)) hb); replace HK := Aside0.mk (Kept.below (S := (fun k_ => P0_ k_)) (by repeat (first | (with_reducible first | exact HK.out | apply Kept.alloc | apply Kept.drewN | apply Kept.drew) | exact HK.out)) hb); replace HB := Aside0.mk (below_step bl_ hb); clear hb hbox hg; obtain ⟨hcz24_0, hcz24_1, hcz24_2, hcz24_3, hfz24_0, hfz24_1, hfz24_2, hfz24_3⟩ := bc4_ BK141; obtain ⟨Ao25, co25, eo25⟩ := Kd.R_slice HO_3.out; subst eo25))
                      have n0_ : Aside0 (Kd.R k44 44 ((((w23.setCell ⟨gb141, 0, none⟩ (.int .i64 ((rd_T44 t139 x11_1).f0))).setCell ⟨gb141, 1, none⟩ (.int .i64 ((rd_T44 t139 x11_1).f1))).setCell ⟨gb141, 2, none⟩ (.int .i64 ((rd_T44 t139 x11_1).f2))).setCell ⟨gb141, 3, none⟩ (.int .i64 ((rd_T44 t139 x11_1).f3))) w0.heap.size (fun k_ => (P0_ k_ ∨ w.heap.size ≤ k_) ∧ k_ ≠ gb141) (.slice (some ad140) t139.length co3) t139) := ⟨by (with_reducible repeat (first | apply Kd.R_alloc | apply Kd.R_drewN | apply Kd.R_drew)); exact Kd.R_mono (Kd.R_far (p := ⟨gb141, 3, none⟩) (Kd.R_far (p := ⟨gb141, 2, none⟩) (Kd.R_far (p := ⟨gb141, 1, none⟩) (Kd.R_far (p := ⟨gb141, 0, none⟩) (Kd.R_mono HO_0.out (fun k_ hk => (⟨hk, hk.2⟩ : _ ∧ k_ ≠ gb141))) (fun _ hk => hk.2) (.int .i64 ((rd_T44 t139 x11_1).f0))) (fun _ hk => hk.2) (.int .i64 ((rd_T44 t139 x11_1).f1))) (fun _ hk => hk.2) (.int .i64 ((rd_T44 t139 x11_1).f2))) (fun _ hk => hk.2) (.int .i64 ((rd_T44 t139 x11_1).f3))) (fun _ hk => ⟨hk.1.1, hk.1.2⟩)⟩
                      have n1_ : Aside0 (Kd.R (Kd.int .i64) 3 ((((w23.setCell ⟨gb141, 0, none⟩ (.int .i64 ((rd_T44 t139 x11_1).f0))).setCell ⟨gb141, 1, none⟩ (.int .i64 ((rd_T44 t139 x11_1).f1))).setCell ⟨gb141, 2, none⟩ (.int .i64 ((rd_T44 t139 x11_1).f2))).setCell ⟨gb141, 3, none⟩ (.int .i64 ((rd_T44 t139 x11_1).f3))) w0.heap.size (fun k_ => (P0_ k_ ∨ w.heap.size ≤ k_)) (.slice Ao25 x3_1.length co25) x3_1) := ⟨by (with_reducible repeat (first | apply Kd.R_alloc | apply Kd.R_drewN | apply Kd.R_drew)); exact Kd.R_mono (Kd.R_far (p := ⟨gb141, 3, none⟩) (Kd.R_far (p := ⟨gb141, 2, none⟩) (Kd.R_far (p := ⟨gb141, 1, none⟩) (Kd.R_far (p := ⟨gb141, 0, none⟩) (Kd.R_types HO_3.out BK141.out (by decide)) (fun _ hk => hk.2) (.int .i64 ((rd_T44 t139 x11_1).f0))) (fun _ hk => hk.2) (.int .i64 ((rd_T44 t139 x11_1).f1))) (fun _ hk => hk.2) (.int .i64 ((rd_T44 t139 x11_1).f2))) (fun _ hk => hk.2) (.int .i64 ((rd_T44 t139 x11_1).f3))) (fun _ hk => hk.1)⟩
                      have n2_ : Aside0 (Kd.R k44 44 ((((w23.setCell ⟨gb141, 0, none⟩ (.int .i64 ((rd_T44 t139 x11_1).f0))).setCell ⟨gb141, 1, none⟩ (.int .i64 ((rd_T44 t139 x11_1).f1))).setCell ⟨gb141, 2, none⟩ (.int .i64 ((rd_T44 t139 x11_1).f2))).setCell ⟨gb141, 3, none⟩ (.int .i64 ((rd_T44 t139 x11_1).f3))) w0.heap.size (fun k_ => (P0_ k_ ∨ w.heap.size ≤ k_) ∧ k_ ≠ gb141) (.slice (some ad140) t139.length co3) t139) := ⟨by (with_reducible repeat (first | apply Kd.R_alloc | apply Kd.R_drewN | apply Kd.R_drew)); exact Kd.R_mono (Kd.R_far (p := ⟨gb141, 3, none⟩) (Kd.R_far (p := ⟨gb141, 2, none⟩) (Kd.R_far (p := ⟨gb141, 1, none⟩) (Kd.R_far (p := ⟨gb141, 0, none⟩) (Kd.R_mono HO_9.out (fun k_ hk => (⟨hk, hk.2⟩ : _ ∧ k_ ≠ gb141))) (fun _ hk => hk.2) (.int .i64 ((rd_T44 t139 x11_1).f0))) (fun _ hk => hk.2) (.int .i64 ((rd_T44 t139 x11_1).f1))) (fun _ hk => hk.2) (.int .i64 ((rd_T44 t139 x11_1).f2))) (fun _ hk => hk.2) (.int .i64 ((rd_T44 t139 x11_1).f3))) (fun _ hk => ⟨hk.1.1, hk.1.2⟩)⟩
                      have n3_ : Aside0 (((((w23.setCell ⟨gb141, 0, none⟩ (.int .i64 ((rd_T44 t139 x11_1).f0))).setCell ⟨gb141, 1, none⟩ (.int .i64 ((rd_T44 t139 x11_1).f1))).setCell ⟨gb141, 2, none⟩ (.int .i64 ((rd_T44 t139 x11_1).f2))).setCell ⟨gb141, 3, none⟩ (.int .i64 ((rd_T44 t139 x11_1).f3))).heap[gb141]? = some (.cells #[.int .i64 ((rd_T44 t139 x11_1).f0), .int .i64 ((rd_T44 t139 x11_1).f1), .int .i64 ((rd_T44 t139 x11_1).f2), .int .i64 ((rd_T44 t139 x11_1).f3)] 44 (0, 0))) := ⟨by (with_reducible repeat (first | refine blk_drewN ?_ _ | refine blk_drew ?_ | refine blk_alloc ?_ _)); refine blk_put (cs := #[.int .i64 ((rd_T44 t139 x11_1).f0), .int .i64 ((rd_T44 t139 x11_1).f1), .int .i64 ((rd_T44 t139 x11_1).f2), .int .i64 0]) ?_ 3 _ rfl; (with_reducible repeat (first | refine blk_drewN ?_ _ | refine blk_drew ?_ | refine blk_alloc ?_ _)); refine blk_put (cs := #[.int .i64 ((rd_T44 t139 x11_1).f0), .int .i64 ((rd_T44 t139 x11_1).f1), .int .i64 0, .int .i64 0]) ?_ 2 _ rfl; (with_reducible repeat (first | refine blk_drewN ?_ _ | refine blk_drew ?_ | refine blk_alloc ?_ _)); refine blk_put (cs := #[.int .i64 ((rd_T44 t139 x11_1).f0), .int .i64 0, .int .i64 0, .int .i64 0]) ?_ 1 _ rfl; (with_reducible repeat (first | refine blk_drewN ?_ _ | refine blk_drew ?_ | refine blk_alloc ?_ _)); refine blk_put (cs := #[.int .i64 0, .int .i64 0, .int .i64 0, .int .i64 0]) ?_ 0 _ rfl; (with_reducible repeat (first | refine blk_drewN ?_ _ | refine blk_drew ?_ | refine blk_alloc ?_ _)); exact BK141.out⟩
                      have n4_ : Aside0 (Kept w ((((w23.setCell ⟨gb141, 0, none⟩ (.int .i64 ((rd_T44 t139 x11_1).f0))).setCell ⟨gb141, 1, none⟩ (.int .i64 ((rd_T44 t139 x11_1).f1))).setCell ⟨gb141, 2, none⟩ (.int .i64 ((rd_T44 t139 x11_1).f2))).setCell ⟨gb141, 3, none⟩ (.int .i64 ((rd_T44 t139 x11_1).f3))) (fun k_ => P0_ k_)) := ⟨by repeat (first | (with_reducible first | exact HK.out | apply Kept.alloc | apply Kept.drewN | apply Kept.drew | refine Kept.setCell ?_ (.inr GW141.out) _) | exact HK.out)⟩
                      have n5_ : Aside0 (Below w0.heap.size w0 ((((w23.setCell ⟨gb141, 0, none⟩ (.int .i64 ((rd_T44 t139 x11_1).f0))).setCell ⟨gb141, 1, none⟩ (.int .i64 ((rd_T44 t139 x11_1).f1))).setCell ⟨gb141, 2, none⟩ (.int .i64 ((rd_T44 t139 x11_1).f2))).setCell ⟨gb141, 3, none⟩ (.int .i64 ((rd_T44 t139 x11_1).f3)))) := ⟨bl_⟩
                      (try clear HO_0)
                      (try clear HO_3)
                      (try clear HO_9)
                      (try clear BK141)
                      (try clear HK)
                      (try clear HB)
                      generalize ((((w23.setCell ⟨gb141, 0, none⟩ (.int .i64 ((rd_T44 t139 x11_1).f0))).setCell ⟨gb141, 1, none⟩ (.int .i64 ((rd_T44 t139 x11_1).f1))).setCell ⟨gb141, 2, none⟩ (.int .i64 ((rd_T44 t139 x11_1).f2))).setCell ⟨gb141, 3, none⟩ (.int .i64 ((rd_T44 t139 x11_1).f3))) = w26 at n0_ n1_ n2_ n3_ n4_ n5_ ⊢
                      have HO_0 := n0_
                      have HO_3 := n1_
                      have HO_9 := n2_
                      have BK141 := n3_
                      have HK := n4_
                      have HB := n5_
                      clear n0_ n1_ n2_ n3_ n4_ n5_
                      replace HO_0 := Aside0.mk (Kd.R_drew HO_0.out)
                      replace HO_3 := Aside0.mk (Kd.R_drew HO_3.out)
                      replace HO_9 := Aside0.mk (Kd.R_drew HO_9.out)
                      replace BK141 := Aside0.mk (blk_drew BK141.out)
                      replace HK := Aside0.mk (Kept.drew HK.out)
                      replace HB := Aside0.mk (below_drew1 HB.out)
                      have p142 : 0 ≤ ((ji9) : Int) := dt_
                      have q142 : (ji9) < (x3_1.length : Int) := dt_
                      obtain ⟨ad142, e142, hx142_0⟩ := Kd.at_int (Kd.R_reads' HO_3.out).2.2 (ji9) p142 q142
                      cases e142
                      replace p142 := eq_true p142
                      replace q142 := eq_true q142
                      refine start_ (n := 11) (S := fun w' => w'.cell? ⟨gb141, 0, none⟩ = some (.int .i64 ((rd_T44 t139 x11_1).f0)) ∧ w'.cell? ⟨gb141, 1, none⟩ = some (.int .i64 ((rd_T44 t139 x11_1).f1)) ∧ w'.cell? ⟨gb141, 2, none⟩ = some (.int .i64 ((rd_T44 t139 x11_1).f2)) ∧ w'.cell? ⟨gb141, 3, none⟩ = some (.int .i64 ((rd_T44 t139 x11_1).f3)) ∧ w'.cell? (ad142.add ((ji9)).toNat) = some (.int .i64 (rd x3_1 (ji9)))) (ds := []) (bv 11 0) (by kernel_rfl) rfl rfl ⟨(blk_cell BK141.out 0).trans rfl, (blk_cell BK141.out 1).trans rfl, (blk_cell BK141.out 2).trans rfl, (blk_cell BK141.out 3).trans rfl, hx142_0⟩ (fun hHeld => ?_); refine with_tabW shape_stretches.tab7 shape_stretches.bits7 (fun HT_ HW_ => ?_)
                      generalize w26.drew = w27 at HO_0 HO_3 HO_9 BK141 HK HB hx142_0 hHeld ⊢
                      refine pu_ 0 18 (bv 11 1) ?_
                      refine pu_ 1 19 (bv 11 3) ?_
                      refine pu_ 2 20 (bv 11 7) ?_
                      refine pu_ 3 21 (bv 11 15) ?_
                      refine pu_ 5 23 (bv 11 47) ?_
                      refine pu_ 6 24 (bv 11 111) ?_
                      refine pu_ 7 25 (bv 11 239) ?_
                      refine tk_ 4 22 (bv 11 255) hHeld ?_
                      refine tk_ 8 26 (bv 11 511) hHeld ?_
                      refine pu_ 9 27 (bv 11 1023) ?_
                      refine pu_ 10 28 (bv 11 2047) ?_
                      refine done_ (done_of HT_.out (by kernel_rfl)) ?_
                      obtain ⟨hcz28_0, hcz28_1, hcz28_2, hcz28_3, hfz28_0, hfz28_1, hfz28_2, hfz28_3⟩ := bc4_ BK141
                      try go_wp2_with (first | ((with_reducible refine gate_dst (N := 44) rfl ?_); refine Kd.R_lit (Kd.int .i64) _ 3 ?hg (N := 44) ?hd (xs := ([(rd_T44 t139 x11_1).f0, (rd_T44 t139 x11_1).f2] : List Int)) (inner := [.int .i64 ((rd_T44 t139 x11_1).f0), .int .i64 ((rd_T44 t139 x11_1).f2)]) (ok := fun _ => True) (okp := fun _ => True) ?hr ?hp (fun _ hk => hk) trivial (Below.refl _ _) (Nat.le_refl _) (by simp) ?_; (case hd => rfl); (case hg => rfl); (case hr => first | (go_simp; done) | (go_simp; rfl)); (case hp => exact (Reps.one (show Kd.M (Kd.int .i64) _ _ _ ((rd_T44 t139 x11_1).f0) [.int .i64 ((rd_T44 t139 x11_1).f0)] from rfl) (Reps.one (show Kd.M (Kd.int .i64) _ _ _ ((rd_T44 t139 x11_1).f2) [.int .i64 ((rd_T44 t139 x11_1).f2)] from rfl) (Reps.none _ _)))); intro v146 w29 ho30 hb hg_ hnew_; clear hg_ hnew_; (first | rw [← Ny145.out] at ho30 | (simp only [Int.reduceToNat] at ho30; rw [← Ny145.out] at ho30)); have HO147 := Aside0.mk (Kd.R_lower (Kd.R_new' (Kd.R_newM (M := fun k_ => (P0_ k_ ∨ w.heap.size ≤ k_)) ho30 (by first | exact HK.out.1 | exact (show Kept w _ (fun k_ => P0_ k_) from by repeat (first | (with_reducible first | exact HK.out | apply Kept.alloc | apply Kept.drewN | apply Kept.drew | refine Kept.setCell ?_ (.inr GW141.out) _) | exact HK.out)).1) (fun k_ h_ => .inr h_)) (Kd.R_lt (rr_ HO_3))) (below_size bl_)); replace HO_0 := Aside0.mk (Kd.R_below (rr_ HO_0) hb); replace HO_3 := Aside0.mk (Kd.R_elder' (rr_ HO_3) (Kd.R_base ho30) hb); replace HO_9 := Aside0.mk (Kd.R_below (rr_ HO_9) hb); replace BK141 := bb_ BK141 hb; replace HK := Aside0.mk (Kept.below (S := (fun k_ => P0_ k_)) (by repeat (first | (with_reducible first | exact HK.out | apply Kept.alloc | apply Kept.drewN | apply Kept.drew | refine Kept.setCell ?_ (.inr GW141.out) _) | exact HK.out)) hb); replace HB := Aside0.mk (below_step bl_ hb); clear hb ho30; obtain ⟨Ao32, co32, eo32⟩ := Kd.R_slice HO147.out; subst eo32) | ((with_reducible refine gate_builtin (b := .append) (xs := #[.tmp 39, .tmp 44]) rfl ?_); at_builtin; refine Kd.R_append_rows (Kd.int .i64) (w0 := w0) w0.heap.size rfl (.tmp 39) (.tmp 44) 72 3 (.int .i64 0) 8 rfl Tryz.underlying72 info3 rfl (by decide) (by omega) (.slice (some ad142) x3_1.length co25) x3_1 y145 _ _ _ (fun k_ => (P0_ k_ ∨ w.heap.size ≤ k_) ∧ some k_ ≠ (.slice Ao32 y145.length co32 : Value).ownBlock) (fun _ => False) rfl rfl ?aO ?aR (fun _ _ h => h) (fun _ h => h.elim) ?aF ?aB ?aS ?aL ?_; (case aR => exact cb_ (Kd.R_reads' HO147.out).2.2); (case aB => exact bl_); (case aF => exact (fun k_ hk => ⟨(.inr (Nat.le_trans (by first | exact HK.out.1 | exact (show Kept w _ (fun k_ => P0_ k_) from by repeat (first | (with_reducible first | exact HK.out | apply Kept.alloc | apply Kept.drewN | apply Kept.drew | refine Kept.setCell ?_ (.inr GW141.out) _) | exact HK.out)).1) hk)), Kd.fresh' (Kd.R_lt (rr_ HO147)) k_ hk⟩)); (case aO => exact (rr_ HO_3)); (case aS => exact (below_size bl_)); (case aL => have := LMc22.out; omega); intro v149 w31 ho hb hg hat; rw [← Ny148.out] at ho; have n0_ := Aside0.mk (Kd.R_over' (rr_ HO_0) (Kd.R_typed (rr_ HO_3)) (by decide) hg); have n1_ := Aside0.mk (Kd.R_over' (rr_ HO_9) (Kd.R_typed (rr_ HO_3)) (by decide) hg); have n2_ := Aside0.mk (blk_grown (g := gb141) (o := .cells #[.int .i64 ((rd_T44 t139 x11_1).f0), .int .i64 ((rd_T44 t139 x11_1).f1), .int .i64 ((rd_T44 t139 x11_1).f2), .int .i64 ((rd_T44 t139 x11_1).f3)] 44 (0, 0)) (bk_ BK141) hg (Kd.R_ne HO_3.out BK141.out (by decide))); have n3_ := Aside0.mk (Kd.R_after (ok := (fun k_ => (P0_ k_ ∨ w.heap.size ≤ k_))) (by (with_reducible repeat (first | apply Kd.R_alloc | apply Kd.R_drewN | apply Kd.R_drew)); exact Kd.R_mono HO147.out (fun _ hk => ⟨hk.1.1, hk.2⟩)) hg hat); have n4_ := Aside0.mk (hb); have n5_ := Aside0.mk (Kept.of_grown (S := (fun k_ => P0_ k_)) hg (by repeat (first | (with_reducible first | exact HK.out | apply Kept.alloc | apply Kept.drewN | apply Kept.drew | refine Kept.setCell ?_ (.inr GW141.out) _) | exact HK.out)) (fun k_ e_ => (HO_3.out.1 k_ e_).1)); have n6_ := Aside0.mk (ho); clear HO_0; clear HO_9; clear BK141; clear HO147; clear HB; clear HK; clear HO_3; have HO_0 := n0_; have HO_9 := n1_; have BK141 := n2_; have HO147 := n3_; have HB := n4_; have HK := n5_; have HO150 := n6_; clear n0_ n1_ n2_ n3_ n4_ n5_ n6_; clear ho hb hg hat))
                      (try simp only [← hl0_1]); (try simp only [← hl9_1])
                      go_roundg k1
                      case measure => have := HK1.out; omega
                      case rel => exact ⟨(y148), (wrap64 (x11_1 + 1)), (by first | rfl | (simp; done) | (simp [*]; done)), H', ⟨by have := HK1.out; omega⟩, ⟨by (try simp only [hl0_1]); (try simp only [hl9_1]); (with_reducible repeat (first | apply Kd.R_alloc | apply Kd.R_drewN | apply Kd.R_drew)); exact Kd.R_mono HO_0.out (fun _ hk => hk.1)⟩, ⟨by (try simp only [hl0_1]); (try simp only [hl9_1]); (with_reducible repeat (first | apply Kd.R_alloc | apply Kd.R_drewN | apply Kd.R_drew)); exact Kd.R_mono HO150.out (fun _ hk => hk.1)⟩, ⟨by (try simp only [hl0_1]); (try simp only [hl9_1]); (with_reducible repeat (first | apply Kd.R_alloc | apply Kd.R_drewN | apply Kd.R_drew)); exact Kd.R_mono HO_9.out (fun _ hk => hk.1)⟩, ⟨by repeat (first | (with_reducible first | exact HK.out | apply Kept.alloc | apply Kept.drewN | apply Kept.drew | refine Kept.setCell ?_ (.inr GW141.out) _) | exact HK.out)⟩, ⟨bl_⟩⟩
                    · rw [if_neg c22] at H
                      exact absurd H (by simp)
                · rw [if_neg c11] at H
                  exact absurd H (by simp)
              · rw [if_neg c10] at H
                exact absurd H (by simp)
            · rw [if_neg c8] at H
              have c8b0 : decide (0 ≤ (wrap64 ((x3_1.length : Int) - 1))) = false := decide_eq_false c8
              clear c8
              obtain ⟨y151, hy151⟩ : ∃ y_ : List Int, y_ = (([(rd_T44 t139 x11_1).f0, (rd_T44 t139 x11_1).f2] : List Int)) := ⟨_, rfl⟩
              replace H : (if x3_1.length + y151.length < 17592186044416 then (shape_stretches.l0 k1 t139 (x3_1 ++ y151) t139 (l0.length : Int) (wrap64 (x11_1 + 1))) else (none)) = some (r1, r2) := by first | (rw [hy151]; with_reducible exact H) | (have H2_ := (Option.bind_some _ _).symm.trans H; rw [hy151]; with_reducible exact H2_) | (have H2_ := (Option.bind_some _ _).symm.trans H; with_reducible exact H2_) | with_reducible exact H | (rw [hy151]; exact H) | exact H
              have Ny151 := Aside0.mk hy151
              clear hy151
              by_cases c33 : x3_1.length + y151.length < 17592186044416
              · rw [if_pos c33] at H
                have LMc33 := Aside0.mk c33
                clear c33
                obtain ⟨y154, hy154⟩ : ∃ y_ : List Int, y_ = (x3_1 ++ y151) := ⟨_, rfl⟩
                replace H : (shape_stretches.l0 k1 t139 y154 t139 (l0.length : Int) (wrap64 (x11_1 + 1))) = some (r1, r2) := by first | (rw [hy154]; with_reducible exact H) | (have H2_ := (Option.bind_some _ _).symm.trans H; rw [hy154]; with_reducible exact H2_) | (have H2_ := (Option.bind_some _ _).symm.trans H; with_reducible exact H2_) | with_reducible exact H | (rw [hy154]; exact H) | exact H
                have Ny154 := Aside0.mk hy154
                clear hy154
                have H' := Aside0.mk H
                clear H
                have p140 : 0 ≤ (x11_1 : Int) := dt_
                have q140 : x11_1 < (t139.length : Int) := dt_
                obtain ⟨ad140, e140, hx140_0, hx140_1, hx140_2, hx140_3⟩ := at_T44 (Kd.R_reads' HO_9.out).2.2 x11_1 p140 q140
                cases e140
                replace p140 := eq_true p140
                replace q140 := eq_true q140
                try go_wp2_with (first | ((with_reducible refine gate_dst (N := 5) rfl ?_); refine bx_ (N := 5) (cs := #[.int .i64 0, .int .i64 0, .int .i64 0, .int .i64 0]) (t := 44) ?_; intro gb141 hg w34 hbox hb; have BK141 := Aside0.mk (hbox); have GW141 := Aside0.mk ((by rw [hg]; exact (by first | exact HK.out.1 | exact (show Kept w _ (fun k_ => P0_ k_) from by repeat (first | (with_reducible first | exact HK.out | apply Kept.alloc | apply Kept.drewN | apply Kept.drew) | exact HK.out)).1) : w.heap.size ≤ gb141)); have GE141 := Aside0.mk ((gs_ hg : w0.heap.size ≤ gb141)); replace HO_0 := Aside0.mk (Kd.R_below (Kd.R_elderB (rr_ HO_0) gb141 (Nat.le_of_eq hg.symm)) hb); replace HO_3 := Aside0.mk (Kd.R_below (rr_ HO_3) hb); replace HO_9 := Aside0.mk (Kd.R_below (Kd.R_elderB (rr_ HO_9) gb141 (Nat.le_of_eq hg.symm)) hb); replace HK := Aside0.mk (Kept.below (S := (fun k_ => P0_ k_)) (by repeat (first | (with_reducible first | exact HK.out | apply Kept.alloc | apply Kept.drewN | apply Kept.drew) | exact HK.out)) hb); replace HB := Aside0.mk (below_step bl_ hb); clear hb hbox hg; obtain ⟨hcz35_0, hcz35_1, hcz35_2, hcz35_3, hfz35_0, hfz35_1, hfz35_2, hfz35_3⟩ := bc4_ BK141; obtain ⟨Ao36, co36, eo36⟩ := Kd.R_slice HO_3.out; subst eo36))
                have n0_ : Aside0 (Kd.R k44 44 ((((w34.setCell ⟨gb141, 0, none⟩ (.int .i64 ((rd_T44 t139 x11_1).f0))).setCell ⟨gb141, 1, none⟩ (.int .i64 ((rd_T44 t139 x11_1).f1))).setCell ⟨gb141, 2, none⟩ (.int .i64 ((rd_T44 t139 x11_1).f2))).setCell ⟨gb141, 3, none⟩ (.int .i64 ((rd_T44 t139 x11_1).f3))) w0.heap.size (fun k_ => (P0_ k_ ∨ w.heap.size ≤ k_) ∧ k_ ≠ gb141) (.slice (some ad140) t139.length co3) t139) := ⟨by (with_reducible repeat (first | apply Kd.R_alloc | apply Kd.R_drewN | apply Kd.R_drew)); exact Kd.R_mono (Kd.R_far (p := ⟨gb141, 3, none⟩) (Kd.R_far (p := ⟨gb141, 2, none⟩) (Kd.R_far (p := ⟨gb141, 1, none⟩) (Kd.R_far (p := ⟨gb141, 0, none⟩) (Kd.R_mono HO_0.out (fun k_ hk => (⟨hk, hk.2⟩ : _ ∧ k_ ≠ gb141))) (fun _ hk => hk.2) (.int .i64 ((rd_T44 t139 x11_1).f0))) (fun _ hk => hk.2) (.int .i64 ((rd_T44 t139 x11_1).f1))) (fun _ hk => hk.2) (.int .i64 ((rd_T44 t139 x11_1).f2))) (fun _ hk => hk.2) (.int .i64 ((rd_T44 t139 x11_1).f3))) (fun _ hk => ⟨hk.1.1, hk.1.2⟩)⟩
                have n1_ : Aside0 (Kd.R (Kd.int .i64) 3 ((((w34.setCell ⟨gb141, 0, none⟩ (.int .i64 ((rd_T44 t139 x11_1).f0))).setCell ⟨gb141, 1, none⟩ (.int .i64 ((rd_T44 t139 x11_1).f1))).setCell ⟨gb141, 2, none⟩ (.int .i64 ((rd_T44 t139 x11_1).f2))).setCell ⟨gb141, 3, none⟩ (.int .i64 ((rd_T44 t139 x11_1).f3))) w0.heap.size (fun k_ => (P0_ k_ ∨ w.heap.size ≤ k_)) (.slice Ao36 x3_1.length co36) x3_1) := ⟨by (with_reducible repeat (first | apply Kd.R_alloc | apply Kd.R_drewN | apply Kd.R_drew)); exact Kd.R_mono (Kd.R_far (p := ⟨gb141, 3, none⟩) (Kd.R_far (p := ⟨gb141, 2, none⟩) (Kd.R_far (p := ⟨gb141, 1, none⟩) (Kd.R_far (p := ⟨gb141, 0, none⟩) (Kd.R_types HO_3.out BK141.out (by decide)) (fun _ hk => hk.2) (.int .i64 ((rd_T44 t139 x11_1).f0))) (fun _ hk => hk.2) (.int .i64 ((rd_T44 t139 x11_1).f1))) (fun _ hk => hk.2) (.int .i64 ((rd_T44 t139 x11_1).f2))) (fun _ hk => hk.2) (.int .i64 ((rd_T44 t139 x11_1).f3))) (fun _ hk => hk.1)⟩
                have n2_ : Aside0 (Kd.R k44 44 ((((w34.setCell ⟨gb141, 0, none⟩ (.int .i64 ((rd_T44 t139 x11_1).f0))).setCell ⟨gb141, 1, none⟩ (.int .i64 ((rd_T44 t139 x11_1).f1))).setCell ⟨gb141, 2, none⟩ (.int .i64 ((rd_T44 t139 x11_1).f2))).setCell ⟨gb141, 3, none⟩ (.int .i64 ((rd_T44 t139 x11_1).f3))) w0.heap.size (fun k_ => (P0_ k_ ∨ w.heap.size ≤ k_) ∧ k_ ≠ gb141) (.slice (some ad140) t139.length co3) t139) := ⟨by (with_reducible repeat (first | apply Kd.R_alloc | apply Kd.R_drewN | apply Kd.R_drew)); exact Kd.R_mono (Kd.R_far (p := ⟨gb141, 3, none⟩) (Kd.R_far (p := ⟨gb141, 2, none⟩) (Kd.R_far (p := ⟨gb141, 1, none⟩) (Kd.R_far (p := ⟨gb141, 0, none⟩) (Kd.R_mono HO_9.out (fun k_ hk => (⟨hk, hk.2⟩ : _ ∧ k_ ≠ gb141))) (fun _ hk => hk.2) (.int .i64 ((rd_T44 t139 x11_1).f0))) (fun _ hk => hk.2) (.int .i64 ((rd_T44 t139 x11_1).f1))) (fun _ hk => hk.2) (.int .i64 ((rd_T44 t139 x11_1).f2))) (fun _ hk => hk.2) (.int .i64 ((rd_T44 t139 x11_1).f3))) (fun _ hk => ⟨hk.1.1, hk.1.2⟩)⟩
                have n3_ : Aside0 (((((w34.setCell ⟨gb141, 0, none⟩ (.int .i64 ((rd_T44 t139 x11_1).f0))).setCell ⟨gb141, 1, none⟩ (.int .i64 ((rd_T44 t139 x11_1).f1))).setCell ⟨gb141, 2, none⟩ (.int .i64 ((rd_T44 t139 x11_1).f2))).setCell ⟨gb141, 3, none⟩ (.int .i64 ((rd_T44 t139 x11_1).f3))).heap[gb141]? = some (.cells #[.int .i64 ((rd_T44 t139 x11_1).f0), .int .i64 ((rd_T44 t139 x11_1).f1), .int .i64 ((rd_T44 t139 x11_1).f2), .int .i64 ((rd_T44 t139 x11_1).f3)] 44 (0, 0))) := ⟨by (with_reducible repeat (first | refine blk_drewN ?_ _ | refine blk_drew ?_ | refine blk_alloc ?_ _)); refine blk_put (cs := #[.int .i64 ((rd_T44 t139 x11_1).f0), .int .i64 ((rd_T44 t139 x11_1).f1), .int .i64 ((rd_T44 t139 x11_1).f2), .int .i64 0]) ?_ 3 _ rfl; (with_reducible repeat (first | refine blk_drewN ?_ _ | refine blk_drew ?_ | refine blk_alloc ?_ _)); refine blk_put (cs := #[.int .i64 ((rd_T44 t139 x11_1).f0), .int .i64 ((rd_T44 t139 x11_1).f1), .int .i64 0, .int .i64 0]) ?_ 2 _ rfl; (with_reducible repeat (first | refine blk_drewN ?_ _ | refine blk_drew ?_ | refine blk_alloc ?_ _)); refine blk_put (cs := #[.int .i64 ((rd_T44 t139 x11_1).f0), .int .i64 0, .int .i64 0, .int .i64 0]) ?_ 1 _ rfl; (with_reducible repeat (first | refine blk_drewN ?_ _ | refine blk_drew ?_ | refine blk_alloc ?_ _)); refine blk_put (cs := #[.int .i64 0, .int .i64 0, .int .i64 0, .int .i64 0]) ?_ 0 _ rfl; (with_reducible repeat (first | refine blk_drewN ?_ _ | refine blk_drew ?_ | refine blk_alloc ?_ _)); exact BK141.out⟩
                have n4_ : Aside0 (Kept w ((((w34.setCell ⟨gb141, 0, none⟩ (.int .i64 ((rd_T44 t139 x11_1).f0))).setCell ⟨gb141, 1, none⟩ (.int .i64 ((rd_T44 t139 x11_1).f1))).setCell ⟨gb141, 2, none⟩ (.int .i64 ((rd_T44 t139 x11_1).f2))).setCell ⟨gb141, 3, none⟩ (.int .i64 ((rd_T44 t139 x11_1).f3))) (fun k_ => P0_ k_)) := ⟨by repeat (first | (with_reducible first | exact HK.out | apply Kept.alloc | apply Kept.drewN | apply Kept.drew | refine Kept.setCell ?_ (.inr GW141.out) _) | exact HK.out)⟩
                have n5_ : Aside0 (Below w0.heap.size w0 ((((w34.setCell ⟨gb141, 0, none⟩ (.int .i64 ((rd_T44 t139 x11_1).f0))).setCell ⟨gb141, 1, none⟩ (.int .i64 ((rd_T44 t139 x11_1).f1))).setCell ⟨gb141, 2, none⟩ (.int .i64 ((rd_T44 t139 x11_1).f2))).setCell ⟨gb141, 3, none⟩ (.int .i64 ((rd_T44 t139 x11_1).f3)))) := ⟨bl_⟩
                (try clear HO_0)
                (try clear HO_3)
                (try clear HO_9)
                (try clear BK141)
                (try clear HK)
                (try clear HB)
                generalize ((((w34.setCell ⟨gb141, 0, none⟩ (.int .i64 ((rd_T44 t139 x11_1).f0))).setCell ⟨gb141, 1, none⟩ (.int .i64 ((rd_T44 t139 x11_1).f1))).setCell ⟨gb141, 2, none⟩ (.int .i64 ((rd_T44 t139 x11_1).f2))).setCell ⟨gb141, 3, none⟩ (.int .i64 ((rd_T44 t139 x11_1).f3))) = w37 at n0_ n1_ n2_ n3_ n4_ n5_ ⊢
                have HO_0 := n0_
                have HO_3 := n1_
                have HO_9 := n2_
                have BK141 := n3_
                have HK := n4_
                have HB := n5_
                clear n0_ n1_ n2_ n3_ n4_ n5_
                replace HO_0 := Aside0.mk (Kd.R_drew HO_0.out)
                replace HO_3 := Aside0.mk (Kd.R_drew HO_3.out)
                replace HO_9 := Aside0.mk (Kd.R_drew HO_9.out)
                replace BK141 := Aside0.mk (blk_drew BK141.out)
                replace HK := Aside0.mk (Kept.drew HK.out)
                replace HB := Aside0.mk (below_drew1 HB.out)
                refine start_ (n := 11) (S := fun w' => True) (ds := []) (bv 11 0) (by kernel_rfl) rfl rfl trivial (fun hHeld => ?_); refine with_tabW shape_stretches.tab7 shape_stretches.bits7 (fun HT_ HW_ => ?_)
                generalize w37.drew = w38 at HO_0 HO_3 HO_9 BK141 HK HB hHeld ⊢
                refine pu_ 0 18 (bv 11 1) ?_
                refine pu_ 1 19 (bv 11 3) ?_
                refine pu_ 2 20 (bv 11 7) ?_
                refine pure_ (i := 3) (N := some 21) (v := undef) (a' := ?_) #[true, true, true, true, false, false, false, false, false, false, false] rfl rfl (any_of HT_.out (by kernel_rfl)) (fun _ _ _ h => h) (Or.inr ⟨by rfl, rfl⟩) ?_ ?_
                rotate_left
                · simp only [Act.put, List.setIfInBounds_toArray, List.set_cons_zero, List.set_cons_succ, i64_w, i32_w]
                  rfl
                refine pure_ (i := 4) (N := some 22) (v := undef) (a' := ?_) #[true, true, true, true, true, false, false, false, false, false, false] rfl rfl (any_of HT_.out (by kernel_rfl)) (fun _ _ _ h => h) (Or.inr ⟨by rfl, rfl⟩) ?_ ?_
                rotate_left
                · simp only [Act.put, List.setIfInBounds_toArray, List.set_cons_zero, List.set_cons_succ, i64_w, i32_w]
                  rfl
                refine pure_ (i := 5) (N := some 23) (v := undef) (a' := ?_) #[true, true, true, true, true, true, false, false, false, false, false] rfl rfl (any_of HT_.out (by kernel_rfl)) (fun _ _ _ h => h) (Or.inr ⟨by rfl, rfl⟩) ?_ ?_
                rotate_left
                · simp only [Act.put, List.setIfInBounds_toArray, List.set_cons_zero, List.set_cons_succ, i64_w, i32_w]
                  rfl
                refine pure_ (i := 6) (N := some 24) (v := undef) (a' := ?_) #[true, true, true, true, true, true, true, false, false, false, false] rfl rfl (any_of HT_.out (by kernel_rfl)) (fun _ _ _ h => h) (Or.inr ⟨by rfl, rfl⟩) ?_ ?_
                rotate_left
                · simp only [Act.put, List.setIfInBounds_toArray, List.set_cons_zero, List.set_cons_succ, i64_w, i32_w]
                  rfl
                refine pure_ (i := 7) (N := some 25) (v := undef) (a' := ?_) #[true, true, true, true, true, true, true, true, false, false, false] rfl rfl (any_of HT_.out (by kernel_rfl)) (fun _ _ _ h => h) (Or.inr ⟨by rfl, rfl⟩) ?_ ?_
                rotate_left
                · simp only [Act.put, List.setIfInBounds_toArray, List.set_cons_zero, List.set_cons_succ, i64_w, i32_w]
                  rfl
                refine pure_ (i := 8) (N := some 26) (v := undef) (a' := ?_) #[true, true, true, true, true, true, true, true, true, false, false] rfl rfl (any_of HT_.out (by kernel_rfl)) (fun _ _ _ h => h) (Or.inr ⟨by rfl, rfl⟩) ?_ ?_
                rotate_left
                · simp only [Act.put, List.setIfInBounds_toArray, List.set_cons_zero, List.set_cons_succ, i64_w, i32_w]
                  rfl
                refine pure_ (i := 9) (N := some 27) (v := undef) (a' := ?_) #[true, true, true, true, true, true, true, true, true, true, false] rfl rfl (any_of HT_.out (by kernel_rfl)) (fun _ _ _ h => h) (Or.inr ⟨by rfl, rfl⟩) ?_ ?_
                rotate_left
                · simp only [Act.put, List.setIfInBounds_toArray, List.set_cons_zero, List.set_cons_succ, i64_w, i32_w]
                  rfl
                refine pu_ 10 28 (bv 11 2047) ?_
                refine done_ (done_of HT_.out (by kernel_rfl)) ?_
                obtain ⟨hcz39_0, hcz39_1, hcz39_2, hcz39_3, hfz39_0, hfz39_1, hfz39_2, hfz39_3⟩ := bc4_ BK141
                try go_wp2_with (first | ((with_reducible refine gate_dst (N := 44) rfl ?_); refine Kd.R_lit (Kd.int .i64) _ 3 ?hg (N := 44) ?hd (xs := ([(rd_T44 t139 x11_1).f0, (rd_T44 t139 x11_1).f2] : List Int)) (inner := [.int .i64 ((rd_T44 t139 x11_1).f0), .int .i64 ((rd_T44 t139 x11_1).f2)]) (ok := fun _ => True) (okp := fun _ => True) ?hr ?hp (fun _ hk => hk) trivial (Below.refl _ _) (Nat.le_refl _) (by simp) ?_; (case hd => rfl); (case hg => rfl); (case hr => first | (go_simp; done) | (go_simp; rfl)); (case hp => exact (Reps.one (show Kd.M (Kd.int .i64) _ _ _ ((rd_T44 t139 x11_1).f0) [.int .i64 ((rd_T44 t139 x11_1).f0)] from rfl) (Reps.one (show Kd.M (Kd.int .i64) _ _ _ ((rd_T44 t139 x11_1).f2) [.int .i64 ((rd_T44 t139 x11_1).f2)] from rfl) (Reps.none _ _)))); intro v152 w40 ho41 hb hg_ hnew_; clear hg_ hnew_; (first | rw [← Ny151.out] at ho41 | (simp only [Int.reduceToNat] at ho41; rw [← Ny151.out] at ho41)); have HO153 := Aside0.mk (Kd.R_lower (Kd.R_new' (Kd.R_newM (M := fun k_ => (P0_ k_ ∨ w.heap.size ≤ k_)) ho41 (by first | exact HK.out.1 | exact (show Kept w _ (fun k_ => P0_ k_) from by repeat (first | (with_reducible first | exact HK.out | apply Kept.alloc | apply Kept.drewN | apply Kept.drew | refine Kept.setCell ?_ (.inr GW141.out) _) | exact HK.out)).1) (fun k_ h_ => .inr h_)) (Kd.R_lt (rr_ HO_3))) (below_size bl_)); replace HO_0 := Aside0.mk (Kd.R_below (rr_ HO_0) hb); replace HO_3 := Aside0.mk (Kd.R_elder' (rr_ HO_3) (Kd.R_base ho41) hb); replace HO_9 := Aside0.mk (Kd.R_below (rr_ HO_9) hb); replace BK141 := bb_ BK141 hb; replace HK := Aside0.mk (Kept.below (S := (fun k_ => P0_ k_)) (by repeat (first | (with_reducible first | exact HK.out | apply Kept.alloc | apply Kept.drewN | apply Kept.drew | refine Kept.setCell ?_ (.inr GW141.out) _) | exact HK.out)) hb); replace HB := Aside0.mk (below_step bl_ hb); clear hb ho41; obtain ⟨Ao43, co43, eo43⟩ := Kd.R_slice HO153.out; subst eo43) | ((with_reducible refine gate_builtin (b := .append) (xs := #[.tmp 39, .tmp 44]) rfl ?_); at_builtin; refine Kd.R_append_rows (Kd.int .i64) (w0 := w0) w0.heap.size rfl (.tmp 39) (.tmp 44) 72 3 (.int .i64 0) 8 rfl Tryz.underlying72 info3 rfl (by decide) (by omega) (.slice Ao36 x3_1.length co36) x3_1 y151 _ _ _ (fun k_ => (P0_ k_ ∨ w.heap.size ≤ k_) ∧ some k_ ≠ (.slice Ao43 y151.length co43 : Value).ownBlock) (fun _ => False) rfl rfl ?aO ?aR (fun _ _ h => h) (fun _ h => h.elim) ?aF ?aB ?aS ?aL ?_; (case aR => exact cb_ (Kd.R_reads' HO153.out).2.2); (case aB => exact bl_); (case aF => exact (fun k_ hk => ⟨(.inr (Nat.le_trans (by first | exact HK.out.1 | exact (show Kept w _ (fun k_ => P0_ k_) from by repeat (first | (with_reducible first | exact HK.out | apply Kept.alloc | apply Kept.drewN | apply Kept.drew | refine Kept.setCell ?_ (.inr GW141.out) _) | exact HK.out)).1) hk)), Kd.fresh' (Kd.R_lt (rr_ HO153)) k_ hk⟩)); (case aO => exact (rr_ HO_3)); (case aS => exact (below_size bl_)); (case aL => have := LMc33.out; omega); intro v155 w42 ho hb hg hat; rw [← Ny154.out] at ho; have n0_ := Aside0.mk (Kd.R_over' (rr_ HO_0) (Kd.R_typed (rr_ HO_3)) (by decide) hg); have n1_ := Aside0.mk (Kd.R_over' (rr_ HO_9) (Kd.R_typed (rr_ HO_3)) (by decide) hg); have n2_ := Aside0.mk (blk_grown (g := gb141) (o := .cells #[.int .i64 ((rd_T44 t139 x11_1).f0), .int .i64 ((rd_T44 t139 x11_1).f1), .int .i64 ((rd_T44 t139 x11_1).f2), .int .i64 ((rd_T44 t139 x11_1).f3)] 44 (0, 0)) (bk_ BK141) hg (Kd.R_ne HO_3.out BK141.out (by decide))); have n3_ := Aside0.mk (Kd.R_after (ok := (fun k_ => (P0_ k_ ∨ w.heap.size ≤ k_))) (by (with_reducible repeat (first | apply Kd.R_alloc | apply Kd.R_drewN | apply Kd.R_drew)); exact Kd.R_mono HO153.out (fun _ hk => ⟨hk.1.1, hk.2⟩)) hg hat); have n4_ := Aside0.mk (hb); have n5_ := Aside0.mk (Kept.of_grown (S := (fun k_ => P0_ k_)) hg (by repeat (first | (with_reducible first | exact HK.out | apply Kept.alloc | apply Kept.drewN | apply Kept.drew | refine Kept.setCell ?_ (.inr GW141.out) _) | exact HK.out)) (fun k_ e_ => (HO_3.out.1 k_ e_).1)); have n6_ := Aside0.mk (ho); clear HO_0; clear HO_9; clear BK141; clear HO153; clear HB; clear HK; clear HO_3; have HO_0 := n0_; have HO_9 := n1_; have BK141 := n2_; have HO153 := n3_; have HB := n4_; have HK := n5_; have HO156 := n6_; clear n0_ n1_ n2_ n3_ n4_ n5_ n6_; clear ho hb hg hat))
                (try simp only [← hl0_1]); (try simp only [← hl9_1])
                go_roundg k1
                case measure => have := HK1.out; omega
                case rel => exact ⟨(y154), (wrap64 (x11_1 + 1)), (by first | rfl | (simp; done) | (simp [*]; done)), H', ⟨by have := HK1.out; omega⟩, ⟨by (try simp only [hl0_1]); (try simp only [hl9_1]); (with_reducible repeat (first | apply Kd.R_alloc | apply Kd.R_drewN | apply Kd.R_drew)); exact Kd.R_mono HO_0.out (fun _ hk => hk.1)⟩, ⟨by (try simp only [hl0_1]); (try simp only [hl9_1]); (with_reducible repeat (first | apply Kd.R_alloc | apply Kd.R_drewN | apply Kd.R_drew)); exact Kd.R_mono HO156.out (fun _ hk => hk.1)⟩, ⟨by (try simp only [hl0_1]); (try simp only [hl9_1]); (with_reducible repeat (first | apply Kd.R_alloc | apply Kd.R_drewN | apply Kd.R_drew)); exact Kd.R_mono HO_9.out (fun _ hk => hk.1)⟩, ⟨by repeat (first | (with_reducible first | exact HK.out | apply Kept.alloc | apply Kept.drewN | apply Kept.drew | refine Kept.setCell ?_ (.inr GW141.out) _) | exact HK.out)⟩, ⟨bl_⟩⟩
              · rw [if_neg c33] at H
                exact absurd H (by simp)
          · rw [if_neg c7] at H
            exact absurd H (by simp)
        · rw [if_neg c6] at H
          exact absurd H (by simp)
      · rw [if_neg c5] at H
        have c5b0 : decide (x11_1 < (l0.length : Int)) = false := decide_eq_false c5
        (try simp only [hl0_1] at c5b0)
        clear c5
        simp only [Option.some.injEq, Prod.mk.injEq] at H
        obtain ⟨rfl, rfl⟩ := H
        go_wp2
        go_ret
        exact ⟨_, by first | rfl | (simp [errW_none, errW_some] <;> rfl) | (simp [*, errW_none, errW_some] <;> rfl), rr_ HO_3, (by first | exact (rr_ HO_0) | (simp only [hl0_1, hl9_1]; exact (rr_ HO_0))), bl_, by repeat (first | (with_reducible first | exact HK.out | apply Kept.alloc | apply Kept.drewN | apply Kept.drew) | exact HK.out)⟩
def api_Rect_87_with_shape_SetOf_1.Ok (x : S44) : Prop := -4611686018427387904 ≤ x.f1 ∧ x.f1 < 4611686018427387904
instance (x : S44) : Decidable (api_Rect_87_with_shape_SetOf_1.Ok x) := by unfold api_Rect_87_with_shape_SetOf_1.Ok; infer_instance
structure api_Rect_87_with_shape_SetOf_1.E where
  v : S44
  ok : api_Rect_87_with_shape_SetOf_1.Ok v
instance : Inhabited api_Rect_87_with_shape_SetOf_1.E := ⟨⟨z44, by decide⟩⟩
def api_Rect_87_with_shape_SetOf_1.enc (x : api_Rect_87_with_shape_SetOf_1.E) : List Value := [.int .i64 x.v.f0, .int .i64 x.v.f1, .int .i64 x.v.f2, .int .i64 x.v.f3]
def api_Rect_87_with_shape_SetOf_1.cf (x y : api_Rect_87_with_shape_SetOf_1.E) : Int := x.v.f1 - y.v.f1
def api_Rect_87_with_shape_SetOf_1.row (l : List S44) (h : ∀ x ∈ l, api_Rect_87_with_shape_SetOf_1.Ok x) : List api_Rect_87_with_shape_SetOf_1.E := l.pmap api_Rect_87_with_shape_SetOf_1.E.mk h
def api_Rect_87_with_shape_SetOf_1.f (l0 : List S44) : Option (List S44) := if h : (∀ x ∈ l0, api_Rect_87_with_shape_SetOf_1.Ok x) ∧ l0.length < 4611686018427387904 then some (if l0.length = 0 then [] else ((Sort.pdq (ltOf api_Rect_87_with_shape_SetOf_1.cf) (api_Rect_87_with_shape_SetOf_1.row l0 h.1).toArray 0 l0.length (Lib.bitLen l0.length) true true).toList.map api_Rect_87_with_shape_SetOf_1.E.v)) else none
theorem api_Rect_87_with_shape_SetOf_1.swo : Sort.SWO (ltOf api_Rect_87_with_shape_SetOf_1.cf) where
  irrefl x := decide_eq_false (by unfold api_Rect_87_with_shape_SetOf_1.cf; omega)
  trans x y z h1 h2 := decide_eq_true (by
    have h1 := of_decide_eq_true h1
    have h2 := of_decide_eq_true h2
    unfold api_Rect_87_with_shape_SetOf_1.cf at *; omega)
  ntrans x y z h1 h2 := decide_eq_false (by
    have h1 := of_decide_eq_false h1
    have h2 := of_decide_eq_false h2
    unfold api_Rect_87_with_shape_SetOf_1.cf at *; omega)
theorem api_Rect_87_with_shape_SetOf_1.cmp (x y : api_Rect_87_with_shape_SetOf_1.E) (W : World) : Calls Tryz.prog 88 #[.agg (api_Rect_87_with_shape_SetOf_1.enc x).toArray, .agg (api_Rect_87_with_shape_SetOf_1.enc y).toArray] W fun e w' => e = .returned (.int .i64 (api_Rect_87_with_shape_SetOf_1.cf x y)) ∧ ∃ q os', w' = Sort.grow (W.drewN q) os' := by
  obtain ⟨⟨x0, x1, x2, x3⟩, hx⟩ := x
  obtain ⟨⟨y0, y1, y2, y3⟩, hy⟩ := y
  have hw : wrap64 (x1 - y1) = x1 - y1 := by have hx := hx; have hy := hy; unfold api_Rect_87_with_shape_SetOf_1.Ok at hx hy; simp only at hx hy; unfold wrap64; omega
  show Calls Tryz.prog 88 #[.agg #[.int .i64 x0, .int .i64 x1, .int .i64 x2, .int .i64 x3], .agg #[.int .i64 y0, .int .i64 y1, .int .i64 y2, .int .i64 y3]] W fun e w' => e = .returned (.int .i64 (x1 - y1)) ∧ _
  rw [← hw]
  have hu44 := Tryz.underlying44
  go_enter Tryz.func88, Tryz.ntmps88
  go_wp2
  go_ret
  exact ⟨rfl, 0, _, by rw [Sort.alloc_eq_grow, Sort.alloc_eq_grow, Sort.grow_grow]; rfl⟩
theorem api_Rect_87_with_shape_SetOf_1.flat (l : List api_Rect_87_with_shape_SetOf_1.E) : ∃ cs, cs = l.flatMap api_Rect_87_with_shape_SetOf_1.enc ∧ ∀ (w : World) (base : Nat) (ok : Nat → Prop), Reps (k44.M w base ok) 4 (l.map api_Rect_87_with_shape_SetOf_1.E.v) cs := by
  refine ⟨_, rfl, fun w base ok => ⟨?_, fun j p hj => ?_⟩⟩
  · rw [YthkeonbmgcphkaaGreatDoorSort.flat_length api_Rect_87_with_shape_SetOf_1.enc 4 (fun _ => rfl)]; simp
  · rw [List.getElem?_map] at hj
    obtain ⟨x, hx, rfl⟩ := Option.map_eq_some_iff.1 hj
    have : ((l.flatMap api_Rect_87_with_shape_SetOf_1.enc).drop (j * 4)).take 4 = api_Rect_87_with_shape_SetOf_1.enc x := by
      have hlt := (List.getElem?_eq_some_iff.1 hx).1
      apply List.ext_getElem?
      intro t
      by_cases ht : t < 4
      · rw [List.getElem?_take_of_lt ht, List.getElem?_drop, YthkeonbmgcphkaaGreatDoorSort.flat_get api_Rect_87_with_shape_SetOf_1.enc 4 (fun _ => rfl) l _ (by omega)]
        rw [show (j * 4 + t) / 4 = j by omega, show (j * 4 + t) % 4 = t by omega, getElem!_pos _ j hlt, (List.getElem?_eq_some_iff.1 hx).2, getElem!_pos _ t (by exact ht), List.getElem?_eq_getElem]
        all_goals first | rfl | exact ht
      · rw [List.getElem?_eq_none (by rw [List.length_take]; omega), List.getElem?_eq_none (by show 4 ≤ t; omega)]
    rw [this]
    exact k44_mkM w base ok x.v
set_option maxHeartbeats 4000000 in
theorem api_Rect_87_with_shape_SetOf_1.calls (P0_ : Nat → Prop) (u9000_ : Value) (l0 : List S44)  (r : List S44) (w0 w : World) (hG : Tryz.GW w0) (hB : Below w0.heap.size w0 w) (ho0 : Kd.R k44 44 w w0.heap.size P0_ u9000_ l0) (h : api_Rect_87_with_shape_SetOf_1.f l0 = some r) :
    Calls Tryz.prog 87 #[u9000_, .func (.func 88) #[] #[]] w fun e w' => e = .returned (.tuple #[]) ∧ Kd.R k44 44 w' w0.heap.size (fun k_ => (P0_ k_ ∨ w.heap.size ≤ k_)) u9000_ r ∧ Below w0.heap.size w0 w' ∧ Kept w w' (fun k_ => P0_ k_) := by
  unfold api_Rect_87_with_shape_SetOf_1.f at h
  split at h
  · rename_i hc
    obtain rfl := Option.some.inj h
    by_cases hz : l0.length = 0
    · obtain rfl : l0 = [] := List.length_eq_zero_iff.1 hz
      obtain ⟨A, c, rfl⟩ := Kd.R_slice ho0
      exact (Tryz.sortRects_none A c _ w).mono fun e w' ⟨he, hw⟩ => by
        subst hw
        exact ⟨he, by simpa using Kd.R_mono ho0 (fun k hk => .inl hk), hB, Kept.refl _ _⟩
    · rw [if_neg hz]
      obtain ⟨g, cap, rfl, hbase, hlt, _⟩ := Kd.R_form ho0 (by omega)
      obtain ⟨hok, inner, ho, hr⟩ := ho0
      obtain ⟨cs, rfl, hM⟩ := api_Rect_87_with_shape_SetOf_1.flat (api_Rect_87_with_shape_SetOf_1.row l0 hc.1)
      have hval : (api_Rect_87_with_shape_SetOf_1.row l0 hc.1).map api_Rect_87_with_shape_SetOf_1.E.v = l0 := by simp [api_Rect_87_with_shape_SetOf_1.row, List.map_pmap]
      have hlen : (api_Rect_87_with_shape_SetOf_1.row l0 hc.1).length = l0.length := by simp [api_Rect_87_with_shape_SetOf_1.row]
      have hin : inner = (api_Rect_87_with_shape_SetOf_1.row l0 hc.1).flatMap api_Rect_87_with_shape_SetOf_1.enc := by
        have h1 := hM w w0.heap.size (fun k => P0_ k ∧ some k ≠ (Value.slice (some ⟨g, 0, none⟩) l0.length cap).ownBlock)
        rw [hval] at h1
        apply List.ext_getElem?
        intro t
        by_cases ht : t < l0.length * 4
        · have hj : t / 4 < l0.length := by omega
          have e1 := k44_openM (hr.2 (t / 4) _ (List.getElem?_eq_getElem hj))
          have e2 := k44_openM (h1.2 (t / 4) _ (List.getElem?_eq_getElem hj))
          have e3 := congrArg (fun l => l[t % 4]?) (e1.trans e2.symm)
          replace e3 : ((List.drop (t / 4 * k44.sz) inner).take k44.sz)[t % 4]? = ((List.drop (t / 4 * 4) ((api_Rect_87_with_shape_SetOf_1.row l0 hc.1).flatMap api_Rect_87_with_shape_SetOf_1.enc)).take 4)[t % 4]? := e3
          have hm : t % 4 < 4 := Nat.mod_lt _ (by decide)
          rw [show k44.sz = 4 from rfl, List.getElem?_take_of_lt hm, List.getElem?_take_of_lt hm, List.getElem?_drop, List.getElem?_drop, show t / 4 * 4 + t % 4 = t by omega] at e3
          exact e3
        · have l1 := hr.1
          have l2 := h1.1
          rw [show k44.sz = 4 from rfl] at l1
          rw [List.getElem?_eq_none (by omega), List.getElem?_eq_none (by omega)]
      subst hin
      clear hr
      have hn : l0.length < 4611686018427387904 := hc.2
      clear h hM hval
      generalize api_Rect_87_with_shape_SetOf_1.row l0 hc.1 = R at hlen ho ⊢
      generalize l0.length = n at *
      have ho4 : w.ownsRow w0.heap.size 44 4 (.slice (some ⟨g, 0, none⟩) n cap) n (R.flatMap api_Rect_87_with_shape_SetOf_1.enc) := ho
      clear ho
      have hH : Sort.HoldsK api_Rect_87_with_shape_SetOf_1.enc 4 w g 0 R.toArray := YthkeonbmgcphkaaGreatDoorSort.holdsK_of_own (enc := api_Rect_87_with_shape_SetOf_1.enc) (fun _ => rfl) ho4 hlen
      have eg : ∀ args w, (callFunc 88 args).run Tryz.prog w = .ok (.enter 88 args) w := enters_of Tryz.func88 (by kernel_rfl) rfl
      have hsz1 : R.toArray.size = n := by simpa using hlen
      have hcall := Tryz.sortRects api_Rect_87_with_shape_SetOf_1.enc (fun _ => rfl) (fun x v hv => by simp [api_Rect_87_with_shape_SetOf_1.enc] at hv; rcases hv with rfl | rfl | rfl | rfl <;> rfl) api_Rect_87_with_shape_SetOf_1.cf api_Rect_87_with_shape_SetOf_1.swo 88 g 0 cap R.toArray w eg (fun _ _ _ _ x y => api_Rect_87_with_shape_SetOf_1.cmp x y _) hH hlt (by rw [hsz1]; exact hn)
      rw [hsz1] at hcall
      have hsz : (Sort.pdq (ltOf api_Rect_87_with_shape_SetOf_1.cf) R.toArray 0 n (Lib.bitLen n) true true).size = n := by
        have := (Sort.pdq_sorts (ltOf api_Rect_87_with_shape_SetOf_1.cf) api_Rect_87_with_shape_SetOf_1.swo R.toArray 0 n (Lib.bitLen n) true true (Nat.zero_le _) (Nat.le_of_eq hsz1.symm) (Or.inl rfl)).1.1
        exact this.trans hsz1
      generalize Sort.pdq (ltOf api_Rect_87_with_shape_SetOf_1.cf) R.toArray 0 n (Lib.bitLen n) true true = d at hcall hsz ⊢
      refine hcall.mono fun e w' ⟨he, m, os, hw⟩ => ?_
      subst hw
      have ho5 := YthkeonbmgcphkaaGreatDoorSort.own_sortWorldK (enc := api_Rect_87_with_shape_SetOf_1.enc) (k := 4) (m := m) (d := d) (os := os) (fun _ => rfl) ho4 hsz
      have hl5 : (d.toList.map api_Rect_87_with_shape_SetOf_1.E.v).length = n := by simp [hsz]
      refine ⟨he, ⟨fun k hk => .inl (hok k hk), d.toList.flatMap api_Rect_87_with_shape_SetOf_1.enc, ?_, ?_⟩, YthkeonbmgcphkaaGreatDoorSort.below_sortWorldK hB hB.size hbase, YthkeonbmgcphkaaGreatDoorSort.kept_sortWorldK (hok g rfl)⟩
      · rw [hl5]
        exact ho5
      · obtain ⟨cs2, hcs2, hM2⟩ := api_Rect_87_with_shape_SetOf_1.flat d.toList
        rw [← hcs2]; exact hM2 _ _ _
  · cases h
end Go.Proofs.YthkeonbmgcphkaaGreatDoor.PT
