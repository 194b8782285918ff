import Derived.Test.YthkeonbmgcphkaaGreatDoorHg6
import Derived.Test.YthkeonbmgcphkaaGreatDoorHg10
namespace Go.Proofs.YthkeonbmgcphkaaGreatDoor.PM
open Go.RowKit Go.Proofs.YthkeonbmgcphkaaGreatDoorW.PrintWords Go.Proofs.YthkeonbmgcphkaaGreatDoorW.PrintLast Go.Proofs.YthkeonbmgcphkaaGreatDoorW.PrintMore
attribute [local go_sem] max2_int min2_int max_two min_two max_three min_three max_four min_four
set_option linter.unusedVariables false
set_option maxHeartbeats 8000000
set_option maxRecDepth 100000
set_option linter.unusedSimpArgs false
def bG.l0 : Nat → List (S44) → List Int → List (S44) → Int → Int → Option (List Int × (List (S44)))
 | 0, _, _, _, _, _ => none
 | k + 1, x0, x3, x9, x10, x11 => if x11 < x10 then (if 0 ≤ x11 then (if x11 < (x9.length : Int) then (if (wrap64 ((x3.length : Int) - 1)) ≥ 0 then (if 0 ≤ (wrap64 ((x3.length : Int) - 1)) then (if (wrap64 ((x3.length : Int) - 1)) < (x3.length : Int) then (if ((aI x9 x11).f0) ≤ (rd x3 (wrap64 ((x3.length : Int) - 1))) then (bG.l0 k x0 (x3.set ((wrap64 ((x3.length : Int) - 1)) : Int).toNat (mx (rd x3 (wrap64 ((x3.length : Int) - 1))) ((aI x9 x11).f2))) x9 x10 (wrap64 (x11 + 1))) else ((some (([(aI x9 x11).f0, (aI x9 x11).f2] : List Int) : List Int)).bind fun y145 => (if x3.length + y145.length < 17592186044416 then (bG.l0 k x0 (x3 ++ y145) x9 x10 (wrap64 (x11 + 1))) else (none)))) else (none)) else (none)) else ((some (([(aI x9 x11).f0, (aI x9 x11).f2] : List Int) : List Int)).bind fun y151 => (if x3.length + y151.length < 17592186044416 then (bG.l0 k x0 (x3 ++ y151) x9 x10 (wrap64 (x11 + 1))) else (none)))) else (none)) else (none)) else (some (x3, x0))
def bG.f (k : Nat) (l0 : List (S44)) : Option (List Int × (List (S44))) := (aC.f l0).bind fun t139 => (bG.l0 k t139 ([] : List Int) t139 (l0.length : Int) 0)
def bG.T7 : Bool × List (List Nat × List Nat) := (true, [([], []), ([0], [0]), ([1], [1]), ([2], [2]), ([3, 2], [2, 3]), ([2], [2]), ([2], [2]), ([5, 6, 2], [2, 5, 6]), ([7, 2], [2, 7]), ([4, 8, 2], [2, 4, 8]), ([2, 9], [2, 9])])
def bG.B7 : List Nat := [0, 1, 3, 7, 15, 7, 7, 103, 231, 511, 1023]
theorem bG.tab7 : rtab .any (opsOf Tryz.f94 7) = bG.T7 := by kernel_rfl
theorem bG.jU : waitsOk bG.T7.2 bG.B7 = true := by kernel_rfl
def bG.T8 : Bool × List (List Nat × List Nat) := (true, [([], []), ([], []), ([], []), ([], []), ([2, 3], [2, 3]), ([4], [4]), ([], []), ([6], [6]), ([5, 7], [5, 7]), ([0, 1, 0, 1, 2, 3, 4, 5, 6, 7, 8], [0, 1]), ([9, 8, 0, 1, 2, 3, 4, 5, 6, 7, 8], [8, 9])])
def bG.B8 : List Nat := [0, 0, 0, 0, 12, 28, 0, 64, 252, 511, 1023]
theorem bG.tab8 : rtab .any (opsOf Tryz.f94 8) = bG.T8 := by kernel_rfl
theorem bG.bits8 : waitsOk bG.T8.2 bG.B8 = true := by kernel_rfl
theorem bG.calls (k : Nat) (P0_ : Nat → Prop) (u9000_ : Value) (l0 : List (S44)) (r1 : List Int) (r2 : List (S44)) (w0 w : World) (hG : Tryz.GW w0) (hB : Below w0.heap.size w0 w) (ho0 : Kd.R k44 44 w w0.heap.size P0_ u9000_ l0) (h : bG.f k l0 = some (r1, r2)) :
 Calls Tryz.prog 94 #[u9000_] w fun e w' => ∃ v0_ : Value, e = .returned (v0_) ∧ Kd.R (Kd.int .i64) 3 w' w0.heap.size (fun k_ => (P0_ k_ ∨ w.heap.size ≤ k_)) v0_ r1 ∧ Kd.R k44 44 w' w0.heap.size (fun k_ => (P0_ k_ ∨ w.heap.size ≤ k_)) u9000_ r2 ∧ Below w0.heap.size w0 w' ∧ Kept w w' (fun k_ => P0_ k_) := by
 have hu44 := Tryz.underlying44
 have HO0 := am_ (show Kd.R k44 44 w w0.heap.size (fun k_ => (P0_ k_ ∨ w.heap.size ≤ k_)) u9000_ l0 from Kd.R_mono ho0 (fun k_ hk => (.inl hk)))
 have HK := am_ (Kept.refl w (fun k_ => P0_ k_))
 have HG := am_ hG
 clear hG
 have HW0 := am_ hB.size
 have HB := am_ hB
 clear hB
 have H : ((aC.f l0).bind fun t139 => (bG.l0 k t139 ([] : List Int) t139 (l0.length : Int) 0)) = some (r1, r2) := h
 clear h
 obtain ⟨t139, A2, H⟩ := bs_ H
 replace H := am_ H
 obtain ⟨Ao3, co3, eo3⟩ := Kd.R_slice HO0.out
 subst eo3
 go_enter Tryz.func94, Tryz.ntmps94
 go_wp2_with (first | ((with_reducible refine gf_ 87 rfl ?_); refine gl_ (some 8) Tryz.func87 #[.slice Ao3 l0.length co3, .func (.func 130) #[] #[]] ?_; refine (aC.calls (fun k_ => some k_ = (.slice Ao3 l0.length co3 : Value).ownBlock) (.slice Ao3 l0.length co3) l0  t139 w0 _ HG.out (by repeat (first | (with_reducible first | exact HB.out | apply below_alloc | apply pw_below_drewN | apply below_drew1) | exact HB.out)) (Kd.R_tight rfl HO0.out) A2.out).mono ?_; rintro e w4 ⟨rfl, hy0, hb, hkp⟩; refine ⟨_, rfl, ?_⟩; replace HK := am_ (Kept.then_ (S := (fun k_ => P0_ k_)) (by repeat (first | (with_reducible first | exact HK.out | apply Kept.alloc | apply Kept.drewN | apply Kept.drew) | exact HK.out)) hkp (fun k_ hs_ => (fun e_ => (HO0.out.1 k_ e_.symm)) hs_)); replace HO0 := am_ (Kd.R_reok rfl hy0 (fun k_ e_ => HO0.out.1 k_ e_)); replace HB := am_ (hb); (try clear hb); (try clear hkp); (try clear hy0)))
 go_loopg [3, 11] k (fun kq v3 v11 w' => ∃ (x3_1 : List Int) (x11_1 : Int), v11 = .int .i64 x11_1 ∧ Aside0 (bG.l0 kq t139 x3_1 t139 (l0.length : Int) x11_1 = some (r1, r2)) ∧ Aside0 (kq ≤ k) ∧ Aside0 (Kd.R k44 44 w' w0.heap.size (fun k_ => (P0_ k_ ∨ w.heap.size ≤ k_)) (.slice Ao3 l0.length co3) t139) ∧ Aside0 (Kd.R (Kd.int .i64) 3 w' w0.heap.size (fun k_ => (P0_ k_ ∨ w.heap.size ≤ k_)) v3 x3_1) ∧ Aside0 (Kd.R k44 44 w' w0.heap.size (fun k_ => (P0_ k_ ∨ w.heap.size ≤ k_)) (.slice Ao3 l0.length co3) t139) ∧ Aside0 (Kept w w' (fun k_ => P0_ k_)) ∧ Aside0 (Below w0.heap.size w0 w'))
 case atStart => exact ⟨(([] : List Int)), (0), ra_, H, ⟨Nat.le_refl _⟩, ⟨rr_ HO0⟩, ⟨by first | exact Kd.R_nil _ _ _ _ _ | exact Kd.N_nil _ _ _ _ _ | exact Kd.V_nil _ _ _ _ _ | exact Kd.Q_nil _ _ _ _ _ | exact Kd.S_nil _ _ _ _ _⟩, ⟨rr_ HO0⟩, ⟨by repeat (first | (with_reducible first | exact HK.out | apply Kept.alloc | apply Kept.drewN | apply Kept.drew) | exact HK.out)⟩, ⟨bl_⟩⟩
 case round =>
  clear H
  try clear c1
  try clear p2
  obtain ⟨x3_1, x11_1, rfl, HA, HK1, HO_0, HO_3, HO_9, HK, HB⟩ := hrel
  have hl0_1 := (Kd.R_reads' HO_0.out).1
  rw [hl0_1] at HO_0
  (try simp only [hl0_1])
  (try simp only [hl0_1] at HO_3)
  (try simp only [hl0_1] at HO_9)
  have hl9_1 := (Kd.R_reads' HO_9.out).1
  rw [hl9_1] at HO_9
  (try simp only [hl9_1])
  (try simp only [hl9_1] at HO_0)
  (try simp only [hl9_1] at HO_3)
  cases gk with
  | zero => exact absurd HA.out (by simp [bG.l0])
  | succ k1 =>
   have H := HA.out
   clear HA
   simp only [bG.l0] at H
   by_cases c5 : x11_1 < (l0.length : Int)
   rotate_left
   · rw [if_neg c5] at H
     have c5b0 := decide_eq_false c5
     (try simp only [hl0_1] at c5b0)
     clear c5
     simp only [Option.some.injEq, Prod.mk.injEq] at H
     obtain ⟨rfl, rfl⟩ := H
     go_wp2
     go_ret
     exact ⟨_, er_, rr_ HO_3, (by first | exact (rr_ HO_0) | (simp only [hl0_1, hl9_1]; exact (rr_ HO_0))), bl_, by repeat (first | (with_reducible first | exact HK.out | apply Kept.alloc | apply Kept.drewN | apply Kept.drew) | exact HK.out)⟩
   rw [if_pos c5] at H
   have c5b0 := decide_eq_true c5
   clear c5
   obtain ⟨c6b0, H⟩ := ifd_ H
   obtain ⟨c7b0, H⟩ := ifd_ H
   by_cases c8 : (wrap64 ((x3_1.length : Int) - 1)) ≥ 0
   rotate_left
   · rw [if_neg c8] at H
     have c8b0 : decide (0 ≤ (wrap64 ((x3_1.length : Int) - 1))) = false := decide_eq_false c8
     clear c8
     obtain ⟨y151, hy151⟩ : ∃ y_ : List Int, y_ = (([(aI t139 x11_1).f0, (aI t139 x11_1).f2] : List Int)) := ⟨_, rfl⟩
     replace H : (if x3_1.length + y151.length < 17592186044416 then (bG.l0 k1 t139 (x3_1 ++ y151) t139 (l0.length : Int) (wrap64 (x11_1 + 1))) else (none)) = some (r1, r2) := by first | (rw [hy151]; with_reducible exact H) | (have H2_ := (Option.bind_some _ _).symm.trans H; rw [hy151]; with_reducible exact H2_) | (have H2_ := (Option.bind_some _ _).symm.trans H; with_reducible exact H2_) | with_reducible exact H | (rw [hy151]; exact H) | exact H
     have Ny151 := am_ hy151
     clear hy151
     obtain ⟨LMc33, H⟩ := ifa_ H
     obtain ⟨y154, hy154⟩ : ∃ y_ : List Int, y_ = (x3_1 ++ y151) := ⟨_, rfl⟩
     replace H : (bG.l0 k1 t139 y154 t139 (l0.length : Int) (wrap64 (x11_1 + 1))) = some (r1, r2) := by first | (rw [hy154]; with_reducible exact H) | (have H2_ := (Option.bind_some _ _).symm.trans H; rw [hy154]; with_reducible exact H2_) | (have H2_ := (Option.bind_some _ _).symm.trans H; with_reducible exact H2_) | with_reducible exact H | (rw [hy154]; exact H) | exact H
     have Ny154 := am_ hy154
     clear hy154
     replace H := am_ H
     have p140 := pt_ x11_1
     have q140 := qt_ x11_1 t139.length
     obtain ⟨ad140, e140, hx140_0, hx140_1, hx140_2, hx140_3⟩ := dS (Kd.R_reads' HO_9.out).2.2 x11_1 (oe_ p140) (oe_ q140)
     cases e140
     try go_wp2_with (first | ((with_reducible refine gn_ 5 rfl ?_); refine bq_ (N := 5) (cs := #[.int .i64 0, .int .i64 0, .int .i64 0, .int .i64 0]) (t := 44) ?_; intro gb141 hg w34 BK141 hb; have GW141 := am_ ((by rw [hg]; exact (by first | exact HK.out.1 | exact (show Kept w _ (fun k_ => P0_ k_) from by repeat (first | (with_reducible first | exact HK.out | apply Kept.alloc | apply Kept.drewN | apply Kept.drew) | exact HK.out)).1) : w.heap.size ≤ gb141)); have GE141 := ga_ w0 hg; replace HO_0 := am_ (Kd.R_below (Kd.R_elderB (rr_ HO_0) gb141 (Nat.le_of_eq hg.symm)) hb); replace HO_3 := am_ (Kd.R_below (rr_ HO_3) hb); replace HO_9 := am_ (Kd.R_below (Kd.R_elderB (rr_ HO_9) gb141 (Nat.le_of_eq hg.symm)) hb); replace HK := am_ (Kept.below (S := (fun k_ => P0_ k_)) (by repeat (first | (with_reducible first | exact HK.out | apply Kept.alloc | apply Kept.drewN | apply Kept.drew) | exact HK.out)) hb); replace HB := bp_ hb; clear hb hg; have bz35 := bc4_ BK141; obtain ⟨Ao36, co36, eo36⟩ := Kd.R_slice HO_3.out; subst eo36))
     have n0_ : Aside0 (Kd.R k44 44 ((((w34.setCell ⟨gb141, 0, none⟩ (.int .i64 ((aI t139 x11_1).f0))).setCell ⟨gb141, 1, none⟩ (.int .i64 ((aI t139 x11_1).f1))).setCell ⟨gb141, 2, none⟩ (.int .i64 ((aI t139 x11_1).f2))).setCell ⟨gb141, 3, none⟩ (.int .i64 ((aI t139 x11_1).f3))) w0.heap.size (fun k_ => (P0_ k_ ∨ w.heap.size ≤ k_) ∧ k_ ≠ gb141) (.slice (some ad140) t139.length co3) t139) := ⟨by (with_reducible repeat (first | apply Kd.R_alloc | apply Kd.R_drewN | apply Kd.R_drew)); exact Kd.R_mono (Kd.R_far (p := ⟨gb141, 3, none⟩) (Kd.R_far (p := ⟨gb141, 2, none⟩) (Kd.R_far (p := ⟨gb141, 1, none⟩) (Kd.R_far (p := ⟨gb141, 0, none⟩) (Kd.R_mono HO_0.out (fun k_ hk => (⟨hk, hk.2⟩ : _ ∧ k_ ≠ gb141))) (fun _ hk => hk.2) (.int .i64 ((aI t139 x11_1).f0))) (fun _ hk => hk.2) (.int .i64 ((aI t139 x11_1).f1))) (fun _ hk => hk.2) (.int .i64 ((aI t139 x11_1).f2))) (fun _ hk => hk.2) (.int .i64 ((aI t139 x11_1).f3))) (fun _ hk => ⟨hk.1.1, hk.1.2⟩)⟩
     have n1_ : Aside0 (Kd.R (Kd.int .i64) 3 ((((w34.setCell ⟨gb141, 0, none⟩ (.int .i64 ((aI t139 x11_1).f0))).setCell ⟨gb141, 1, none⟩ (.int .i64 ((aI t139 x11_1).f1))).setCell ⟨gb141, 2, none⟩ (.int .i64 ((aI t139 x11_1).f2))).setCell ⟨gb141, 3, none⟩ (.int .i64 ((aI t139 x11_1).f3))) w0.heap.size (fun k_ => (P0_ k_ ∨ w.heap.size ≤ k_)) (.slice Ao36 x3_1.length co36) x3_1) := ⟨by (with_reducible repeat (first | apply Kd.R_alloc | apply Kd.R_drewN | apply Kd.R_drew)); exact Kd.R_mono (Kd.R_far (p := ⟨gb141, 3, none⟩) (Kd.R_far (p := ⟨gb141, 2, none⟩) (Kd.R_far (p := ⟨gb141, 1, none⟩) (Kd.R_far (p := ⟨gb141, 0, none⟩) (Kd.R_types HO_3.out BK141.out (by decide)) (fun _ hk => hk.2) (.int .i64 ((aI t139 x11_1).f0))) (fun _ hk => hk.2) (.int .i64 ((aI t139 x11_1).f1))) (fun _ hk => hk.2) (.int .i64 ((aI t139 x11_1).f2))) (fun _ hk => hk.2) (.int .i64 ((aI t139 x11_1).f3))) (fun _ hk => hk.1)⟩
     have n2_ : Aside0 (Kd.R k44 44 ((((w34.setCell ⟨gb141, 0, none⟩ (.int .i64 ((aI t139 x11_1).f0))).setCell ⟨gb141, 1, none⟩ (.int .i64 ((aI t139 x11_1).f1))).setCell ⟨gb141, 2, none⟩ (.int .i64 ((aI t139 x11_1).f2))).setCell ⟨gb141, 3, none⟩ (.int .i64 ((aI t139 x11_1).f3))) w0.heap.size (fun k_ => (P0_ k_ ∨ w.heap.size ≤ k_) ∧ k_ ≠ gb141) (.slice (some ad140) t139.length co3) t139) := ⟨by (with_reducible repeat (first | apply Kd.R_alloc | apply Kd.R_drewN | apply Kd.R_drew)); exact Kd.R_mono (Kd.R_far (p := ⟨gb141, 3, none⟩) (Kd.R_far (p := ⟨gb141, 2, none⟩) (Kd.R_far (p := ⟨gb141, 1, none⟩) (Kd.R_far (p := ⟨gb141, 0, none⟩) (Kd.R_mono HO_9.out (fun k_ hk => (⟨hk, hk.2⟩ : _ ∧ k_ ≠ gb141))) (fun _ hk => hk.2) (.int .i64 ((aI t139 x11_1).f0))) (fun _ hk => hk.2) (.int .i64 ((aI t139 x11_1).f1))) (fun _ hk => hk.2) (.int .i64 ((aI t139 x11_1).f2))) (fun _ hk => hk.2) (.int .i64 ((aI t139 x11_1).f3))) (fun _ hk => ⟨hk.1.1, hk.1.2⟩)⟩
     have n3_ : Aside0 (((((w34.setCell ⟨gb141, 0, none⟩ (.int .i64 ((aI t139 x11_1).f0))).setCell ⟨gb141, 1, none⟩ (.int .i64 ((aI t139 x11_1).f1))).setCell ⟨gb141, 2, none⟩ (.int .i64 ((aI t139 x11_1).f2))).setCell ⟨gb141, 3, none⟩ (.int .i64 ((aI t139 x11_1).f3))).heap[gb141]? = some (.cells #[.int .i64 ((aI t139 x11_1).f0), .int .i64 ((aI t139 x11_1).f1), .int .i64 ((aI t139 x11_1).f2), .int .i64 ((aI t139 x11_1).f3)] 44 (0, 0))) := ⟨by (with_reducible repeat (first | refine blk_drewN ?_ _ | refine blk_drew ?_ | refine blk_alloc ?_ _)); refine blk_put (cs := #[.int .i64 ((aI t139 x11_1).f0), .int .i64 ((aI t139 x11_1).f1), .int .i64 ((aI t139 x11_1).f2), .int .i64 0]) ?_ 3 _ rfl; (with_reducible repeat (first | refine blk_drewN ?_ _ | refine blk_drew ?_ | refine blk_alloc ?_ _)); refine blk_put (cs := #[.int .i64 ((aI t139 x11_1).f0), .int .i64 ((aI t139 x11_1).f1), .int .i64 0, .int .i64 0]) ?_ 2 _ rfl; (with_reducible repeat (first | refine blk_drewN ?_ _ | refine blk_drew ?_ | refine blk_alloc ?_ _)); refine blk_put (cs := #[.int .i64 ((aI t139 x11_1).f0), .int .i64 0, .int .i64 0, .int .i64 0]) ?_ 1 _ rfl; (with_reducible repeat (first | refine blk_drewN ?_ _ | refine blk_drew ?_ | refine blk_alloc ?_ _)); refine blk_put (cs := #[.int .i64 0, .int .i64 0, .int .i64 0, .int .i64 0]) ?_ 0 _ rfl; (with_reducible repeat (first | refine blk_drewN ?_ _ | refine blk_drew ?_ | refine blk_alloc ?_ _)); exact BK141.out⟩
     have n4_ : Aside0 (Kept w ((((w34.setCell ⟨gb141, 0, none⟩ (.int .i64 ((aI t139 x11_1).f0))).setCell ⟨gb141, 1, none⟩ (.int .i64 ((aI t139 x11_1).f1))).setCell ⟨gb141, 2, none⟩ (.int .i64 ((aI t139 x11_1).f2))).setCell ⟨gb141, 3, none⟩ (.int .i64 ((aI t139 x11_1).f3))) (fun k_ => P0_ k_)) := ⟨by repeat (first | (with_reducible first | exact HK.out | apply Kept.alloc | apply Kept.drewN | apply Kept.drew | refine Kept.setCell ?_ (.inr GW141.out) _) | exact HK.out)⟩
     have n5_ : Aside0 (Below w0.heap.size w0 ((((w34.setCell ⟨gb141, 0, none⟩ (.int .i64 ((aI t139 x11_1).f0))).setCell ⟨gb141, 1, none⟩ (.int .i64 ((aI t139 x11_1).f1))).setCell ⟨gb141, 2, none⟩ (.int .i64 ((aI t139 x11_1).f2))).setCell ⟨gb141, 3, none⟩ (.int .i64 ((aI t139 x11_1).f3)))) := ⟨bl_⟩
     (try clear HO_0)
     (try clear HO_3)
     (try clear HO_9)
     (try clear BK141)
     (try clear HK)
     (try clear HB)
     generalize ((((w34.setCell ⟨gb141, 0, none⟩ (.int .i64 ((aI t139 x11_1).f0))).setCell ⟨gb141, 1, none⟩ (.int .i64 ((aI t139 x11_1).f1))).setCell ⟨gb141, 2, none⟩ (.int .i64 ((aI t139 x11_1).f2))).setCell ⟨gb141, 3, none⟩ (.int .i64 ((aI t139 x11_1).f3))) = w37 at n0_ n1_ n2_ n3_ n4_ n5_ ⊢
     have HO_0 := n0_
     have HO_3 := n1_
     have HO_9 := n2_
     have BK141 := n3_
     have HK := n4_
     have HB := n5_
     clear n0_ n1_ n2_ n3_ n4_ n5_
     replace HO_0 := am_ (Kd.R_drew HO_0.out)
     replace HO_3 := am_ (Kd.R_drew HO_3.out)
     replace HO_9 := am_ (Kd.R_drew HO_9.out)
     replace BK141 := am_ (blk_drew BK141.out)
     replace HK := am_ (Kept.drew HK.out)
     replace HB := am_ (below_drew1 HB.out)
     refine start_ (n := 11) (S := fun w' => True) (ds := []) (bv 11 0) (by kernel_rfl) rfl rfl trivial (fun hHeld => ?_); refine with_tabW bG.tab7 bG.jU (fun HT_ HW_ => ?_)
     generalize w37.drew = w38 at HO_0 HO_3 HO_9 BK141 HK HB hHeld ⊢
     refine pu_ 0 18 (bv 11 1) ?_
     refine pu_ 1 19 (bv 11 3) ?_
     refine pu_ 2 20 (bv 11 7) ?_
     refine pure_ (i := 3) (N := some 21) (v := undef) (a' := ?_) #[true, true, true, true, false, false, false, false, false, false, false] rfl rfl (any_of HT_.out (by kernel_rfl)) (fun _ _ _ h => h) (Or.inr ⟨by rfl, rfl⟩) ?_ ?_
     rotate_left
     · simp only [Act.put, List.setIfInBounds_toArray, List.set_cons_zero, List.set_cons_succ, i64_w, i32_w]
       rfl
     refine pure_ (i := 4) (N := some 22) (v := undef) (a' := ?_) #[true, true, true, true, true, false, false, false, false, false, false] rfl rfl (any_of HT_.out (by kernel_rfl)) (fun _ _ _ h => h) (Or.inr ⟨by rfl, rfl⟩) ?_ ?_
     rotate_left
     · simp only [Act.put, List.setIfInBounds_toArray, List.set_cons_zero, List.set_cons_succ, i64_w, i32_w]
       rfl
     refine pure_ (i := 5) (N := some 23) (v := undef) (a' := ?_) #[true, true, true, true, true, true, false, false, false, false, false] rfl rfl (any_of HT_.out (by kernel_rfl)) (fun _ _ _ h => h) (Or.inr ⟨by rfl, rfl⟩) ?_ ?_
     rotate_left
     · simp only [Act.put, List.setIfInBounds_toArray, List.set_cons_zero, List.set_cons_succ, i64_w, i32_w]
       rfl
     refine pure_ (i := 6) (N := some 24) (v := undef) (a' := ?_) #[true, true, true, true, true, true, true, false, false, false, false] rfl rfl (any_of HT_.out (by kernel_rfl)) (fun _ _ _ h => h) (Or.inr ⟨by rfl, rfl⟩) ?_ ?_
     rotate_left
     · simp only [Act.put, List.setIfInBounds_toArray, List.set_cons_zero, List.set_cons_succ, i64_w, i32_w]
       rfl
     refine pure_ (i := 7) (N := some 25) (v := undef) (a' := ?_) #[true, true, true, true, true, true, true, true, false, false, false] rfl rfl (any_of HT_.out (by kernel_rfl)) (fun _ _ _ h => h) (Or.inr ⟨by rfl, rfl⟩) ?_ ?_
     rotate_left
     · simp only [Act.put, List.setIfInBounds_toArray, List.set_cons_zero, List.set_cons_succ, i64_w, i32_w]
       rfl
     refine pure_ (i := 8) (N := some 26) (v := undef) (a' := ?_) #[true, true, true, true, true, true, true, true, true, false, false] rfl rfl (any_of HT_.out (by kernel_rfl)) (fun _ _ _ h => h) (Or.inr ⟨by rfl, rfl⟩) ?_ ?_
     rotate_left
     · simp only [Act.put, List.setIfInBounds_toArray, List.set_cons_zero, List.set_cons_succ, i64_w, i32_w]
       rfl
     refine pure_ (i := 9) (N := some 27) (v := undef) (a' := ?_) #[true, true, true, true, true, true, true, true, true, true, false] rfl rfl (any_of HT_.out (by kernel_rfl)) (fun _ _ _ h => h) (Or.inr ⟨by rfl, rfl⟩) ?_ ?_
     rotate_left
     · simp only [Act.put, List.setIfInBounds_toArray, List.set_cons_zero, List.set_cons_succ, i64_w, i32_w]
       rfl
     refine pu_ 10 28 (bv 11 2047) ?_
     refine done_ (done_of HT_.out (by kernel_rfl)) ?_
     have bz39 := bc4_ BK141
     try go_wp2_with (first | ((with_reducible refine gn_ 44 rfl ?_); refine Kd.R_lit (Kd.int .i64) _ 3 ?hg (N := 44) ?hd (xs := ([(aI t139 x11_1).f0, (aI t139 x11_1).f2] : List Int)) (inner := [.int .i64 ((aI t139 x11_1).f0), .int .i64 ((aI t139 x11_1).f2)]) (ok := fun _ => True) (okp := fun _ => True) ?hr ?hp (fun _ hk => hk) trivial (Below.refl _ _) (Nat.le_refl _) (by simp) ?_; (case hd => rfl); (case hg => rfl); (case hr => first | (go_simp; done) | (go_simp; rfl)); (case hp => exact (Reps.one (show Kd.M (Kd.int .i64) _ _ _ ((aI t139 x11_1).f0) [.int .i64 ((aI t139 x11_1).f0)] from rfl) (Reps.one (show Kd.M (Kd.int .i64) _ _ _ ((aI t139 x11_1).f2) [.int .i64 ((aI t139 x11_1).f2)] from rfl) (Reps.none _ _)))); intro v152 w40 ho41 hb hg_ hnew_; clear hg_ hnew_; (first | rw [← Ny151.out] at ho41 | (simp only [Int.reduceToNat] at ho41; rw [← Ny151.out] at ho41)); have HO153 := am_ (Kd.R_lower (Kd.R_new' (Kd.R_newM (M := fun k_ => (P0_ k_ ∨ w.heap.size ≤ k_)) ho41 (by first | exact HK.out.1 | exact (show Kept w _ (fun k_ => P0_ k_) from by repeat (first | (with_reducible first | exact HK.out | apply Kept.alloc | apply Kept.drewN | apply Kept.drew | refine Kept.setCell ?_ (.inr GW141.out) _) | exact HK.out)).1) (fun k_ h_ => .inr h_)) (Kd.R_lt (rr_ HO_3))) (below_size bl_)); replace HO_0 := am_ (Kd.R_below (rr_ HO_0) hb); replace HO_3 := am_ (Kd.R_elder' (rr_ HO_3) (Kd.R_base ho41) hb); replace HO_9 := am_ (Kd.R_below (rr_ HO_9) hb); replace BK141 := bb_ BK141 hb; replace HK := am_ (Kept.below (S := (fun k_ => P0_ k_)) (by repeat (first | (with_reducible first | exact HK.out | apply Kept.alloc | apply Kept.drewN | apply Kept.drew | refine Kept.setCell ?_ (.inr GW141.out) _) | exact HK.out)) hb); replace HB := bp_ hb; clear hb ho41; obtain ⟨Ao43, co43, eo43⟩ := Kd.R_slice HO153.out; subst eo43) | ((with_reducible refine gate_builtin (b := .append) (xs := #[.tmp 39, .tmp 44]) rfl ?_); at_builtin; refine Kd.R_append_rows (Kd.int .i64) (w0 := w0) w0.heap.size rfl (.tmp 39) (.tmp 44) 72 3 (.int .i64 0) 8 rfl Tryz.underlying72 info3 rfl (by decide) (by omega) (.slice Ao36 x3_1.length co36) x3_1 y151 _ _ _ (fun k_ => (P0_ k_ ∨ w.heap.size ≤ k_) ∧ some k_ ≠ (.slice Ao43 y151.length co43 : Value).ownBlock) (fun _ => False) rfl rfl ?aO ?aR (fun _ _ h => h) (fun _ h => h.elim) ?aF ?aB ?aS ?aL ?_; (case aR => exact cb_ (Kd.R_reads' HO153.out).2.2); (case aB => exact bl_); (case aF => exact (fun k_ hk => ⟨(.inr (Nat.le_trans (by first | exact HK.out.1 | exact (show Kept w _ (fun k_ => P0_ k_) from by repeat (first | (with_reducible first | exact HK.out | apply Kept.alloc | apply Kept.drewN | apply Kept.drew | refine Kept.setCell ?_ (.inr GW141.out) _) | exact HK.out)).1) hk)), Kd.fresh' (Kd.R_lt (rr_ HO153)) k_ hk⟩)); (case aO => exact (rr_ HO_3)); (case aS => exact (below_size bl_)); (case aL => have := LMc33.out; omega); intro v155 w42 ho hb hg hat; rw [← Ny154.out] at ho; have n0_ := am_ (Kd.R_over' (rr_ HO_0) (Kd.R_typed (rr_ HO_3)) (by decide) hg); have n1_ := am_ (Kd.R_over' (rr_ HO_9) (Kd.R_typed (rr_ HO_3)) (by decide) hg); have n2_ := am_ (blk_grown (g := gb141) (o := .cells #[.int .i64 ((aI t139 x11_1).f0), .int .i64 ((aI t139 x11_1).f1), .int .i64 ((aI t139 x11_1).f2), .int .i64 ((aI t139 x11_1).f3)] 44 (0, 0)) (bk_ BK141) hg (Kd.R_ne HO_3.out BK141.out (by decide))); have n3_ := am_ (Kd.R_after (ok := (fun k_ => (P0_ k_ ∨ w.heap.size ≤ k_))) (by (with_reducible repeat (first | apply Kd.R_alloc | apply Kd.R_drewN | apply Kd.R_drew)); exact Kd.R_mono HO153.out (fun _ hk => ⟨hk.1.1, hk.2⟩)) hg hat); have n4_ := am_ (hb); have n5_ := am_ (Kept.of_grown (S := (fun k_ => P0_ k_)) hg (by repeat (first | (with_reducible first | exact HK.out | apply Kept.alloc | apply Kept.drewN | apply Kept.drew | refine Kept.setCell ?_ (.inr GW141.out) _) | exact HK.out)) (fun k_ e_ => (HO_3.out.1 k_ e_).1)); have n6_ := am_ (ho); clear HO_0; clear HO_9; clear BK141; clear HO153; clear HB; clear HK; clear HO_3; have HO_0 := n0_; have HO_9 := n1_; have BK141 := n2_; have HO153 := n3_; have HB := n4_; have HK := n5_; have HO156 := n6_; clear n0_ n1_ n2_ n3_ n4_ n5_ n6_; clear ho hb hg hat))
     (try simp only [← hl0_1]); (try simp only [← hl9_1])
     go_roundg k1
     case measure => have := HK1.out; omega
     case rel => exact ⟨(y154), (wrap64 (x11_1 + 1)), ra_, H, ⟨by have := HK1.out; omega⟩, ⟨by (try simp only [hl0_1]); (try simp only [hl9_1]); (with_reducible repeat (first | apply Kd.R_alloc | apply Kd.R_drewN | apply Kd.R_drew)); exact Kd.R_mono HO_0.out (fun _ hk => hk.1)⟩, ⟨by (try simp only [hl0_1]); (try simp only [hl9_1]); (with_reducible repeat (first | apply Kd.R_alloc | apply Kd.R_drewN | apply Kd.R_drew)); exact Kd.R_mono HO156.out (fun _ hk => hk.1)⟩, ⟨by (try simp only [hl0_1]); (try simp only [hl9_1]); (with_reducible repeat (first | apply Kd.R_alloc | apply Kd.R_drewN | apply Kd.R_drew)); exact Kd.R_mono HO_9.out (fun _ hk => hk.1)⟩, ⟨by repeat (first | (with_reducible first | exact HK.out | apply Kept.alloc | apply Kept.drewN | apply Kept.drew | refine Kept.setCell ?_ (.inr GW141.out) _) | exact HK.out)⟩, ⟨bl_⟩⟩
   rw [if_pos c8] at H
   have c8b0 : decide (0 ≤ (wrap64 ((x3_1.length : Int) - 1))) = true := decide_eq_true c8
   clear c8
   obtain ⟨ji9, hji9⟩ : ∃ j_ : Int, (wrap64 ((x3_1.length : Int) - 1)) = j_ := ⟨_, rfl⟩
   first | rw [hji9] at H | simp only [hji9] at H
   (try rw [hji9] at c8b0)
   have hji9w : (IntKind.i64.wrap ((x3_1.length : Int) - 1)) = ji9 := (i64_w _).trans hji9
   obtain ⟨c10b0, H⟩ := ifd_ H
   obtain ⟨c11b0, H⟩ := ifd_ H
   by_cases c12 : ((aI t139 x11_1).f0) ≤ (rd x3_1 (ji9))
   rotate_left
   · rw [if_neg c12] at H
     have c12b0 := decide_eq_false c12
     clear c12
     obtain ⟨y145, hy145⟩ : ∃ y_ : List Int, y_ = (([(aI t139 x11_1).f0, (aI t139 x11_1).f2] : List Int)) := ⟨_, rfl⟩
     replace H : (if x3_1.length + y145.length < 17592186044416 then (bG.l0 k1 t139 (x3_1 ++ y145) t139 (l0.length : Int) (wrap64 (x11_1 + 1))) else (none)) = some (r1, r2) := by first | (rw [hy145]; with_reducible exact H) | (have H2_ := (Option.bind_some _ _).symm.trans H; rw [hy145]; with_reducible exact H2_) | (have H2_ := (Option.bind_some _ _).symm.trans H; with_reducible exact H2_) | with_reducible exact H | (rw [hy145]; exact H) | exact H
     have Ny145 := am_ hy145
     clear hy145
     obtain ⟨LMc22, H⟩ := ifa_ H
     obtain ⟨y148, hy148⟩ : ∃ y_ : List Int, y_ = (x3_1 ++ y145) := ⟨_, rfl⟩
     replace H : (bG.l0 k1 t139 y148 t139 (l0.length : Int) (wrap64 (x11_1 + 1))) = some (r1, r2) := by first | (rw [hy148]; with_reducible exact H) | (have H2_ := (Option.bind_some _ _).symm.trans H; rw [hy148]; with_reducible exact H2_) | (have H2_ := (Option.bind_some _ _).symm.trans H; with_reducible exact H2_) | with_reducible exact H | (rw [hy148]; exact H) | exact H
     have Ny148 := am_ hy148
     clear hy148
     replace H := am_ H
     have p140 := pt_ x11_1
     have q140 := qt_ x11_1 t139.length
     obtain ⟨ad140, e140, hx140_0, hx140_1, hx140_2, hx140_3⟩ := dS (Kd.R_reads' HO_9.out).2.2 x11_1 (oe_ p140) (oe_ q140)
     cases e140
     try go_wp2_with (first | ((with_reducible refine gn_ 5 rfl ?_); refine bq_ (N := 5) (cs := #[.int .i64 0, .int .i64 0, .int .i64 0, .int .i64 0]) (t := 44) ?_; intro gb141 hg w23 BK141 hb; have GW141 := am_ ((by rw [hg]; exact (by first | exact HK.out.1 | exact (show Kept w _ (fun k_ => P0_ k_) from by repeat (first | (with_reducible first | exact HK.out | apply Kept.alloc | apply Kept.drewN | apply Kept.drew) | exact HK.out)).1) : w.heap.size ≤ gb141)); have GE141 := ga_ w0 hg; replace HO_0 := am_ (Kd.R_below (Kd.R_elderB (rr_ HO_0) gb141 (Nat.le_of_eq hg.symm)) hb); replace HO_3 := am_ (Kd.R_below (rr_ HO_3) hb); replace HO_9 := am_ (Kd.R_below (Kd.R_elderB (rr_ HO_9) gb141 (Nat.le_of_eq hg.symm)) hb); replace HK := am_ (Kept.below (S := (fun k_ => P0_ k_)) (by repeat (first | (with_reducible first | exact HK.out | apply Kept.alloc | apply Kept.drewN | apply Kept.drew) | exact HK.out)) hb); replace HB := bp_ hb; clear hb hg; have bz24 := bc4_ BK141; obtain ⟨Ao25, co25, eo25⟩ := Kd.R_slice HO_3.out; subst eo25))
     have n0_ : Aside0 (Kd.R k44 44 ((((w23.setCell ⟨gb141, 0, none⟩ (.int .i64 ((aI t139 x11_1).f0))).setCell ⟨gb141, 1, none⟩ (.int .i64 ((aI t139 x11_1).f1))).setCell ⟨gb141, 2, none⟩ (.int .i64 ((aI t139 x11_1).f2))).setCell ⟨gb141, 3, none⟩ (.int .i64 ((aI t139 x11_1).f3))) w0.heap.size (fun k_ => (P0_ k_ ∨ w.heap.size ≤ k_) ∧ k_ ≠ gb141) (.slice (some ad140) t139.length co3) t139) := ⟨by (with_reducible repeat (first | apply Kd.R_alloc | apply Kd.R_drewN | apply Kd.R_drew)); exact Kd.R_mono (Kd.R_far (p := ⟨gb141, 3, none⟩) (Kd.R_far (p := ⟨gb141, 2, none⟩) (Kd.R_far (p := ⟨gb141, 1, none⟩) (Kd.R_far (p := ⟨gb141, 0, none⟩) (Kd.R_mono HO_0.out (fun k_ hk => (⟨hk, hk.2⟩ : _ ∧ k_ ≠ gb141))) (fun _ hk => hk.2) (.int .i64 ((aI t139 x11_1).f0))) (fun _ hk => hk.2) (.int .i64 ((aI t139 x11_1).f1))) (fun _ hk => hk.2) (.int .i64 ((aI t139 x11_1).f2))) (fun _ hk => hk.2) (.int .i64 ((aI t139 x11_1).f3))) (fun _ hk => ⟨hk.1.1, hk.1.2⟩)⟩
     have n1_ : Aside0 (Kd.R (Kd.int .i64) 3 ((((w23.setCell ⟨gb141, 0, none⟩ (.int .i64 ((aI t139 x11_1).f0))).setCell ⟨gb141, 1, none⟩ (.int .i64 ((aI t139 x11_1).f1))).setCell ⟨gb141, 2, none⟩ (.int .i64 ((aI t139 x11_1).f2))).setCell ⟨gb141, 3, none⟩ (.int .i64 ((aI t139 x11_1).f3))) w0.heap.size (fun k_ => (P0_ k_ ∨ w.heap.size ≤ k_)) (.slice Ao25 x3_1.length co25) x3_1) := ⟨by (with_reducible repeat (first | apply Kd.R_alloc | apply Kd.R_drewN | apply Kd.R_drew)); exact Kd.R_mono (Kd.R_far (p := ⟨gb141, 3, none⟩) (Kd.R_far (p := ⟨gb141, 2, none⟩) (Kd.R_far (p := ⟨gb141, 1, none⟩) (Kd.R_far (p := ⟨gb141, 0, none⟩) (Kd.R_types HO_3.out BK141.out (by decide)) (fun _ hk => hk.2) (.int .i64 ((aI t139 x11_1).f0))) (fun _ hk => hk.2) (.int .i64 ((aI t139 x11_1).f1))) (fun _ hk => hk.2) (.int .i64 ((aI t139 x11_1).f2))) (fun _ hk => hk.2) (.int .i64 ((aI t139 x11_1).f3))) (fun _ hk => hk.1)⟩
     have n2_ : Aside0 (Kd.R k44 44 ((((w23.setCell ⟨gb141, 0, none⟩ (.int .i64 ((aI t139 x11_1).f0))).setCell ⟨gb141, 1, none⟩ (.int .i64 ((aI t139 x11_1).f1))).setCell ⟨gb141, 2, none⟩ (.int .i64 ((aI t139 x11_1).f2))).setCell ⟨gb141, 3, none⟩ (.int .i64 ((aI t139 x11_1).f3))) w0.heap.size (fun k_ => (P0_ k_ ∨ w.heap.size ≤ k_) ∧ k_ ≠ gb141) (.slice (some ad140) t139.length co3) t139) := ⟨by (with_reducible repeat (first | apply Kd.R_alloc | apply Kd.R_drewN | apply Kd.R_drew)); exact Kd.R_mono (Kd.R_far (p := ⟨gb141, 3, none⟩) (Kd.R_far (p := ⟨gb141, 2, none⟩) (Kd.R_far (p := ⟨gb141, 1, none⟩) (Kd.R_far (p := ⟨gb141, 0, none⟩) (Kd.R_mono HO_9.out (fun k_ hk => (⟨hk, hk.2⟩ : _ ∧ k_ ≠ gb141))) (fun _ hk => hk.2) (.int .i64 ((aI t139 x11_1).f0))) (fun _ hk => hk.2) (.int .i64 ((aI t139 x11_1).f1))) (fun _ hk => hk.2) (.int .i64 ((aI t139 x11_1).f2))) (fun _ hk => hk.2) (.int .i64 ((aI t139 x11_1).f3))) (fun _ hk => ⟨hk.1.1, hk.1.2⟩)⟩
     have n3_ : Aside0 (((((w23.setCell ⟨gb141, 0, none⟩ (.int .i64 ((aI t139 x11_1).f0))).setCell ⟨gb141, 1, none⟩ (.int .i64 ((aI t139 x11_1).f1))).setCell ⟨gb141, 2, none⟩ (.int .i64 ((aI t139 x11_1).f2))).setCell ⟨gb141, 3, none⟩ (.int .i64 ((aI t139 x11_1).f3))).heap[gb141]? = some (.cells #[.int .i64 ((aI t139 x11_1).f0), .int .i64 ((aI t139 x11_1).f1), .int .i64 ((aI t139 x11_1).f2), .int .i64 ((aI t139 x11_1).f3)] 44 (0, 0))) := ⟨by (with_reducible repeat (first | refine blk_drewN ?_ _ | refine blk_drew ?_ | refine blk_alloc ?_ _)); refine blk_put (cs := #[.int .i64 ((aI t139 x11_1).f0), .int .i64 ((aI t139 x11_1).f1), .int .i64 ((aI t139 x11_1).f2), .int .i64 0]) ?_ 3 _ rfl; (with_reducible repeat (first | refine blk_drewN ?_ _ | refine blk_drew ?_ | refine blk_alloc ?_ _)); refine blk_put (cs := #[.int .i64 ((aI t139 x11_1).f0), .int .i64 ((aI t139 x11_1).f1), .int .i64 0, .int .i64 0]) ?_ 2 _ rfl; (with_reducible repeat (first | refine blk_drewN ?_ _ | refine blk_drew ?_ | refine blk_alloc ?_ _)); refine blk_put (cs := #[.int .i64 ((aI t139 x11_1).f0), .int .i64 0, .int .i64 0, .int .i64 0]) ?_ 1 _ rfl; (with_reducible repeat (first | refine blk_drewN ?_ _ | refine blk_drew ?_ | refine blk_alloc ?_ _)); refine blk_put (cs := #[.int .i64 0, .int .i64 0, .int .i64 0, .int .i64 0]) ?_ 0 _ rfl; (with_reducible repeat (first | refine blk_drewN ?_ _ | refine blk_drew ?_ | refine blk_alloc ?_ _)); exact BK141.out⟩
     have n4_ : Aside0 (Kept w ((((w23.setCell ⟨gb141, 0, none⟩ (.int .i64 ((aI t139 x11_1).f0))).setCell ⟨gb141, 1, none⟩ (.int .i64 ((aI t139 x11_1).f1))).setCell ⟨gb141, 2, none⟩ (.int .i64 ((aI t139 x11_1).f2))).setCell ⟨gb141, 3, none⟩ (.int .i64 ((aI t139 x11_1).f3))) (fun k_ => P0_ k_)) := ⟨by repeat (first | (with_reducible first | exact HK.out | apply Kept.alloc | apply Kept.drewN | apply Kept.drew | refine Kept.setCell ?_ (.inr GW141.out) _) | exact HK.out)⟩
     have n5_ : Aside0 (Below w0.heap.size w0 ((((w23.setCell ⟨gb141, 0, none⟩ (.int .i64 ((aI t139 x11_1).f0))).setCell ⟨gb141, 1, none⟩ (.int .i64 ((aI t139 x11_1).f1))).setCell ⟨gb141, 2, none⟩ (.int .i64 ((aI t139 x11_1).f2))).setCell ⟨gb141, 3, none⟩ (.int .i64 ((aI t139 x11_1).f3)))) := ⟨bl_⟩
     (try clear HO_0)
     (try clear HO_3)
     (try clear HO_9)
     (try clear BK141)
     (try clear HK)
     (try clear HB)
     generalize ((((w23.setCell ⟨gb141, 0, none⟩ (.int .i64 ((aI t139 x11_1).f0))).setCell ⟨gb141, 1, none⟩ (.int .i64 ((aI t139 x11_1).f1))).setCell ⟨gb141, 2, none⟩ (.int .i64 ((aI t139 x11_1).f2))).setCell ⟨gb141, 3, none⟩ (.int .i64 ((aI t139 x11_1).f3))) = w26 at n0_ n1_ n2_ n3_ n4_ n5_ ⊢
     have HO_0 := n0_
     have HO_3 := n1_
     have HO_9 := n2_
     have BK141 := n3_
     have HK := n4_
     have HB := n5_
     clear n0_ n1_ n2_ n3_ n4_ n5_
     replace HO_0 := am_ (Kd.R_drew HO_0.out)
     replace HO_3 := am_ (Kd.R_drew HO_3.out)
     replace HO_9 := am_ (Kd.R_drew HO_9.out)
     replace BK141 := am_ (blk_drew BK141.out)
     replace HK := am_ (Kept.drew HK.out)
     replace HB := am_ (below_drew1 HB.out)
     have p142 := pt_ (ji9)
     have q142 := qt_ (ji9) x3_1.length
     obtain ⟨ad142, e142, hx142_0⟩ := Kd.at_int (Kd.R_reads' HO_3.out).2.2 (ji9) (oe_ p142) (oe_ q142)
     cases e142
     refine start_ (n := 11) (S := fun w' => w'.cell? ⟨gb141, 0, none⟩ = some (.int .i64 ((aI t139 x11_1).f0)) ∧ w'.cell? ⟨gb141, 1, none⟩ = some (.int .i64 ((aI t139 x11_1).f1)) ∧ w'.cell? ⟨gb141, 2, none⟩ = some (.int .i64 ((aI t139 x11_1).f2)) ∧ w'.cell? ⟨gb141, 3, none⟩ = some (.int .i64 ((aI t139 x11_1).f3)) ∧ w'.cell? (ad142.add ((ji9)).toNat) = some (.int .i64 (rd x3_1 (ji9)))) (ds := []) (bv 11 0) (by kernel_rfl) rfl rfl ⟨(blk_cell BK141.out 0).trans rfl, (blk_cell BK141.out 1).trans rfl, (blk_cell BK141.out 2).trans rfl, (blk_cell BK141.out 3).trans rfl, hx142_0⟩ (fun hHeld => ?_); refine with_tabW bG.tab7 bG.jU (fun HT_ HW_ => ?_)
     generalize w26.drew = w27 at HO_0 HO_3 HO_9 BK141 HK HB hx142_0 hHeld ⊢
     refine pu_ 0 18 (bv 11 1) ?_
     refine pu_ 1 19 (bv 11 3) ?_
     refine pu_ 2 20 (bv 11 7) ?_
     refine pu_ 3 21 (bv 11 15) ?_
     refine pu_ 5 23 (bv 11 47) ?_
     refine pu_ 6 24 (bv 11 111) ?_
     refine pu_ 7 25 (bv 11 239) ?_
     refine tk_ 4 22 (bv 11 255) hHeld ?_
     refine tk_ 8 26 (bv 11 511) hHeld ?_
     refine pu_ 9 27 (bv 11 1023) ?_
     refine pu_ 10 28 (bv 11 2047) ?_
     refine done_ (done_of HT_.out (by kernel_rfl)) ?_
     have bz28 := bc4_ BK141
     try go_wp2_with (first | ((with_reducible refine gn_ 44 rfl ?_); refine Kd.R_lit (Kd.int .i64) _ 3 ?hg (N := 44) ?hd (xs := ([(aI t139 x11_1).f0, (aI t139 x11_1).f2] : List Int)) (inner := [.int .i64 ((aI t139 x11_1).f0), .int .i64 ((aI t139 x11_1).f2)]) (ok := fun _ => True) (okp := fun _ => True) ?hr ?hp (fun _ hk => hk) trivial (Below.refl _ _) (Nat.le_refl _) (by simp) ?_; (case hd => rfl); (case hg => rfl); (case hr => first | (go_simp; done) | (go_simp; rfl)); (case hp => exact (Reps.one (show Kd.M (Kd.int .i64) _ _ _ ((aI t139 x11_1).f0) [.int .i64 ((aI t139 x11_1).f0)] from rfl) (Reps.one (show Kd.M (Kd.int .i64) _ _ _ ((aI t139 x11_1).f2) [.int .i64 ((aI t139 x11_1).f2)] from rfl) (Reps.none _ _)))); intro v146 w29 ho30 hb hg_ hnew_; clear hg_ hnew_; (first | rw [← Ny145.out] at ho30 | (simp only [Int.reduceToNat] at ho30; rw [← Ny145.out] at ho30)); have HO147 := am_ (Kd.R_lower (Kd.R_new' (Kd.R_newM (M := fun k_ => (P0_ k_ ∨ w.heap.size ≤ k_)) ho30 (by first | exact HK.out.1 | exact (show Kept w _ (fun k_ => P0_ k_) from by repeat (first | (with_reducible first | exact HK.out | apply Kept.alloc | apply Kept.drewN | apply Kept.drew | refine Kept.setCell ?_ (.inr GW141.out) _) | exact HK.out)).1) (fun k_ h_ => .inr h_)) (Kd.R_lt (rr_ HO_3))) (below_size bl_)); replace HO_0 := am_ (Kd.R_below (rr_ HO_0) hb); replace HO_3 := am_ (Kd.R_elder' (rr_ HO_3) (Kd.R_base ho30) hb); replace HO_9 := am_ (Kd.R_below (rr_ HO_9) hb); replace BK141 := bb_ BK141 hb; replace HK := am_ (Kept.below (S := (fun k_ => P0_ k_)) (by repeat (first | (with_reducible first | exact HK.out | apply Kept.alloc | apply Kept.drewN | apply Kept.drew | refine Kept.setCell ?_ (.inr GW141.out) _) | exact HK.out)) hb); replace HB := bp_ hb; clear hb ho30; obtain ⟨Ao32, co32, eo32⟩ := Kd.R_slice HO147.out; subst eo32) | ((with_reducible refine gate_builtin (b := .append) (xs := #[.tmp 39, .tmp 44]) rfl ?_); at_builtin; refine Kd.R_append_rows (Kd.int .i64) (w0 := w0) w0.heap.size rfl (.tmp 39) (.tmp 44) 72 3 (.int .i64 0) 8 rfl Tryz.underlying72 info3 rfl (by decide) (by omega) (.slice (some ad142) x3_1.length co25) x3_1 y145 _ _ _ (fun k_ => (P0_ k_ ∨ w.heap.size ≤ k_) ∧ some k_ ≠ (.slice Ao32 y145.length co32 : Value).ownBlock) (fun _ => False) rfl rfl ?aO ?aR (fun _ _ h => h) (fun _ h => h.elim) ?aF ?aB ?aS ?aL ?_; (case aR => exact cb_ (Kd.R_reads' HO147.out).2.2); (case aB => exact bl_); (case aF => exact (fun k_ hk => ⟨(.inr (Nat.le_trans (by first | exact HK.out.1 | exact (show Kept w _ (fun k_ => P0_ k_) from by repeat (first | (with_reducible first | exact HK.out | apply Kept.alloc | apply Kept.drewN | apply Kept.drew | refine Kept.setCell ?_ (.inr GW141.out) _) | exact HK.out)).1) hk)), Kd.fresh' (Kd.R_lt (rr_ HO147)) k_ hk⟩)); (case aO => exact (rr_ HO_3)); (case aS => exact (below_size bl_)); (case aL => have := LMc22.out; omega); intro v149 w31 ho hb hg hat; rw [← Ny148.out] at ho; have n0_ := am_ (Kd.R_over' (rr_ HO_0) (Kd.R_typed (rr_ HO_3)) (by decide) hg); have n1_ := am_ (Kd.R_over' (rr_ HO_9) (Kd.R_typed (rr_ HO_3)) (by decide) hg); have n2_ := am_ (blk_grown (g := gb141) (o := .cells #[.int .i64 ((aI t139 x11_1).f0), .int .i64 ((aI t139 x11_1).f1), .int .i64 ((aI t139 x11_1).f2), .int .i64 ((aI t139 x11_1).f3)] 44 (0, 0)) (bk_ BK141) hg (Kd.R_ne HO_3.out BK141.out (by decide))); have n3_ := am_ (Kd.R_after (ok := (fun k_ => (P0_ k_ ∨ w.heap.size ≤ k_))) (by (with_reducible repeat (first | apply Kd.R_alloc | apply Kd.R_drewN | apply Kd.R_drew)); exact Kd.R_mono HO147.out (fun _ hk => ⟨hk.1.1, hk.2⟩)) hg hat); have n4_ := am_ (hb); have n5_ := am_ (Kept.of_grown (S := (fun k_ => P0_ k_)) hg (by repeat (first | (with_reducible first | exact HK.out | apply Kept.alloc | apply Kept.drewN | apply Kept.drew | refine Kept.setCell ?_ (.inr GW141.out) _) | exact HK.out)) (fun k_ e_ => (HO_3.out.1 k_ e_).1)); have n6_ := am_ (ho); clear HO_0; clear HO_9; clear BK141; clear HO147; clear HB; clear HK; clear HO_3; have HO_0 := n0_; have HO_9 := n1_; have BK141 := n2_; have HO147 := n3_; have HB := n4_; have HK := n5_; have HO150 := n6_; clear n0_ n1_ n2_ n3_ n4_ n5_ n6_; clear ho hb hg hat))
     (try simp only [← hl0_1]); (try simp only [← hl9_1])
     go_roundg k1
     case measure => have := HK1.out; omega
     case rel => exact ⟨(y148), (wrap64 (x11_1 + 1)), ra_, H, ⟨by have := HK1.out; omega⟩, ⟨by (try simp only [hl0_1]); (try simp only [hl9_1]); (with_reducible repeat (first | apply Kd.R_alloc | apply Kd.R_drewN | apply Kd.R_drew)); exact Kd.R_mono HO_0.out (fun _ hk => hk.1)⟩, ⟨by (try simp only [hl0_1]); (try simp only [hl9_1]); (with_reducible repeat (first | apply Kd.R_alloc | apply Kd.R_drewN | apply Kd.R_drew)); exact Kd.R_mono HO150.out (fun _ hk => hk.1)⟩, ⟨by (try simp only [hl0_1]); (try simp only [hl9_1]); (with_reducible repeat (first | apply Kd.R_alloc | apply Kd.R_drewN | apply Kd.R_drew)); exact Kd.R_mono HO_9.out (fun _ hk => hk.1)⟩, ⟨by repeat (first | (with_reducible first | exact HK.out | apply Kept.alloc | apply Kept.drewN | apply Kept.drew | refine Kept.setCell ?_ (.inr GW141.out) _) | exact HK.out)⟩, ⟨bl_⟩⟩
   rw [if_pos c12] at H
   have c12b0 := decide_eq_true c12
   clear c12
   obtain ⟨ji13, hji13⟩ : ∃ j_ : Int, (mx (rd x3_1 (ji9)) ((aI t139 x11_1).f2)) = j_ := ⟨_, rfl⟩
   first | rw [hji13] at H | simp only [hji13] at H
   have hji13_ : (if (rd x3_1 (ji9)) < ((aI t139 x11_1).f2) then ((aI t139 x11_1).f2) else (rd x3_1 (ji9))) = ji13 := hji13
   obtain ⟨y144, hy144⟩ : ∃ y_ : List Int, y_ = (x3_1.set ((ji9) : Int).toNat (ji13)) := ⟨_, rfl⟩
   replace H : (bG.l0 k1 t139 y144 t139 (l0.length : Int) (wrap64 (x11_1 + 1))) = some (r1, r2) := by first | (rw [hy144]; with_reducible exact H) | (have H2_ := (Option.bind_some _ _).symm.trans H; rw [hy144]; with_reducible exact H2_) | (have H2_ := (Option.bind_some _ _).symm.trans H; with_reducible exact H2_) | with_reducible exact H | (rw [hy144]; exact H) | exact H
   have Ny144 := am_ hy144
   clear hy144
   replace H := am_ H
   have p140 := pt_ x11_1
   have q140 := qt_ x11_1 t139.length
   obtain ⟨ad140, e140, hx140_0, hx140_1, hx140_2, hx140_3⟩ := dS (Kd.R_reads' HO_9.out).2.2 x11_1 (oe_ p140) (oe_ q140)
   cases e140
   try go_wp2_with (first | ((with_reducible refine gn_ 5 rfl ?_); refine bq_ (N := 5) (cs := #[.int .i64 0, .int .i64 0, .int .i64 0, .int .i64 0]) (t := 44) ?_; intro gb141 hg w15 BK141 hb; have GW141 := am_ ((by rw [hg]; exact (by first | exact HK.out.1 | exact (show Kept w _ (fun k_ => P0_ k_) from by repeat (first | (with_reducible first | exact HK.out | apply Kept.alloc | apply Kept.drewN | apply Kept.drew) | exact HK.out)).1) : w.heap.size ≤ gb141)); have GE141 := ga_ w0 hg; replace HO_0 := am_ (Kd.R_below (Kd.R_elderB (rr_ HO_0) gb141 (Nat.le_of_eq hg.symm)) hb); replace HO_3 := am_ (Kd.R_below (rr_ HO_3) hb); replace HO_9 := am_ (Kd.R_below (Kd.R_elderB (rr_ HO_9) gb141 (Nat.le_of_eq hg.symm)) hb); replace HK := am_ (Kept.below (S := (fun k_ => P0_ k_)) (by repeat (first | (with_reducible first | exact HK.out | apply Kept.alloc | apply Kept.drewN | apply Kept.drew) | exact HK.out)) hb); replace HB := bp_ hb; clear hb hg; have bz16 := bc4_ BK141; obtain ⟨Ao17, co17, eo17⟩ := Kd.R_slice HO_3.out; subst eo17))
   have n0_ : Aside0 (Kd.R k44 44 ((((w15.setCell ⟨gb141, 0, none⟩ (.int .i64 ((aI t139 x11_1).f0))).setCell ⟨gb141, 1, none⟩ (.int .i64 ((aI t139 x11_1).f1))).setCell ⟨gb141, 2, none⟩ (.int .i64 ((aI t139 x11_1).f2))).setCell ⟨gb141, 3, none⟩ (.int .i64 ((aI t139 x11_1).f3))) w0.heap.size (fun k_ => (P0_ k_ ∨ w.heap.size ≤ k_) ∧ k_ ≠ gb141) (.slice (some ad140) t139.length co3) t139) := ⟨by (with_reducible repeat (first | apply Kd.R_alloc | apply Kd.R_drewN | apply Kd.R_drew)); exact Kd.R_mono (Kd.R_far (p := ⟨gb141, 3, none⟩) (Kd.R_far (p := ⟨gb141, 2, none⟩) (Kd.R_far (p := ⟨gb141, 1, none⟩) (Kd.R_far (p := ⟨gb141, 0, none⟩) (Kd.R_mono HO_0.out (fun k_ hk => (⟨hk, hk.2⟩ : _ ∧ k_ ≠ gb141))) (fun _ hk => hk.2) (.int .i64 ((aI t139 x11_1).f0))) (fun _ hk => hk.2) (.int .i64 ((aI t139 x11_1).f1))) (fun _ hk => hk.2) (.int .i64 ((aI t139 x11_1).f2))) (fun _ hk => hk.2) (.int .i64 ((aI t139 x11_1).f3))) (fun _ hk => ⟨hk.1.1, hk.1.2⟩)⟩
   have n1_ : Aside0 (Kd.R (Kd.int .i64) 3 ((((w15.setCell ⟨gb141, 0, none⟩ (.int .i64 ((aI t139 x11_1).f0))).setCell ⟨gb141, 1, none⟩ (.int .i64 ((aI t139 x11_1).f1))).setCell ⟨gb141, 2, none⟩ (.int .i64 ((aI t139 x11_1).f2))).setCell ⟨gb141, 3, none⟩ (.int .i64 ((aI t139 x11_1).f3))) w0.heap.size (fun k_ => (P0_ k_ ∨ w.heap.size ≤ k_)) (.slice Ao17 x3_1.length co17) x3_1) := ⟨by (with_reducible repeat (first | apply Kd.R_alloc | apply Kd.R_drewN | apply Kd.R_drew)); exact Kd.R_mono (Kd.R_far (p := ⟨gb141, 3, none⟩) (Kd.R_far (p := ⟨gb141, 2, none⟩) (Kd.R_far (p := ⟨gb141, 1, none⟩) (Kd.R_far (p := ⟨gb141, 0, none⟩) (Kd.R_types HO_3.out BK141.out (by decide)) (fun _ hk => hk.2) (.int .i64 ((aI t139 x11_1).f0))) (fun _ hk => hk.2) (.int .i64 ((aI t139 x11_1).f1))) (fun _ hk => hk.2) (.int .i64 ((aI t139 x11_1).f2))) (fun _ hk => hk.2) (.int .i64 ((aI t139 x11_1).f3))) (fun _ hk => hk.1)⟩
   have n2_ : Aside0 (Kd.R k44 44 ((((w15.setCell ⟨gb141, 0, none⟩ (.int .i64 ((aI t139 x11_1).f0))).setCell ⟨gb141, 1, none⟩ (.int .i64 ((aI t139 x11_1).f1))).setCell ⟨gb141, 2, none⟩ (.int .i64 ((aI t139 x11_1).f2))).setCell ⟨gb141, 3, none⟩ (.int .i64 ((aI t139 x11_1).f3))) w0.heap.size (fun k_ => (P0_ k_ ∨ w.heap.size ≤ k_) ∧ k_ ≠ gb141) (.slice (some ad140) t139.length co3) t139) := ⟨by (with_reducible repeat (first | apply Kd.R_alloc | apply Kd.R_drewN | apply Kd.R_drew)); exact Kd.R_mono (Kd.R_far (p := ⟨gb141, 3, none⟩) (Kd.R_far (p := ⟨gb141, 2, none⟩) (Kd.R_far (p := ⟨gb141, 1, none⟩) (Kd.R_far (p := ⟨gb141, 0, none⟩) (Kd.R_mono HO_9.out (fun k_ hk => (⟨hk, hk.2⟩ : _ ∧ k_ ≠ gb141))) (fun _ hk => hk.2) (.int .i64 ((aI t139 x11_1).f0))) (fun _ hk => hk.2) (.int .i64 ((aI t139 x11_1).f1))) (fun _ hk => hk.2) (.int .i64 ((aI t139 x11_1).f2))) (fun _ hk => hk.2) (.int .i64 ((aI t139 x11_1).f3))) (fun _ hk => ⟨hk.1.1, hk.1.2⟩)⟩
   have n3_ : Aside0 (((((w15.setCell ⟨gb141, 0, none⟩ (.int .i64 ((aI t139 x11_1).f0))).setCell ⟨gb141, 1, none⟩ (.int .i64 ((aI t139 x11_1).f1))).setCell ⟨gb141, 2, none⟩ (.int .i64 ((aI t139 x11_1).f2))).setCell ⟨gb141, 3, none⟩ (.int .i64 ((aI t139 x11_1).f3))).heap[gb141]? = some (.cells #[.int .i64 ((aI t139 x11_1).f0), .int .i64 ((aI t139 x11_1).f1), .int .i64 ((aI t139 x11_1).f2), .int .i64 ((aI t139 x11_1).f3)] 44 (0, 0))) := ⟨by (with_reducible repeat (first | refine blk_drewN ?_ _ | refine blk_drew ?_ | refine blk_alloc ?_ _)); refine blk_put (cs := #[.int .i64 ((aI t139 x11_1).f0), .int .i64 ((aI t139 x11_1).f1), .int .i64 ((aI t139 x11_1).f2), .int .i64 0]) ?_ 3 _ rfl; (with_reducible repeat (first | refine blk_drewN ?_ _ | refine blk_drew ?_ | refine blk_alloc ?_ _)); refine blk_put (cs := #[.int .i64 ((aI t139 x11_1).f0), .int .i64 ((aI t139 x11_1).f1), .int .i64 0, .int .i64 0]) ?_ 2 _ rfl; (with_reducible repeat (first | refine blk_drewN ?_ _ | refine blk_drew ?_ | refine blk_alloc ?_ _)); refine blk_put (cs := #[.int .i64 ((aI t139 x11_1).f0), .int .i64 0, .int .i64 0, .int .i64 0]) ?_ 1 _ rfl; (with_reducible repeat (first | refine blk_drewN ?_ _ | refine blk_drew ?_ | refine blk_alloc ?_ _)); refine blk_put (cs := #[.int .i64 0, .int .i64 0, .int .i64 0, .int .i64 0]) ?_ 0 _ rfl; (with_reducible repeat (first | refine blk_drewN ?_ _ | refine blk_drew ?_ | refine blk_alloc ?_ _)); exact BK141.out⟩
   have n4_ : Aside0 (Kept w ((((w15.setCell ⟨gb141, 0, none⟩ (.int .i64 ((aI t139 x11_1).f0))).setCell ⟨gb141, 1, none⟩ (.int .i64 ((aI t139 x11_1).f1))).setCell ⟨gb141, 2, none⟩ (.int .i64 ((aI t139 x11_1).f2))).setCell ⟨gb141, 3, none⟩ (.int .i64 ((aI t139 x11_1).f3))) (fun k_ => P0_ k_)) := ⟨by repeat (first | (with_reducible first | exact HK.out | apply Kept.alloc | apply Kept.drewN | apply Kept.drew | refine Kept.setCell ?_ (.inr GW141.out) _) | exact HK.out)⟩
   have n5_ : Aside0 (Below w0.heap.size w0 ((((w15.setCell ⟨gb141, 0, none⟩ (.int .i64 ((aI t139 x11_1).f0))).setCell ⟨gb141, 1, none⟩ (.int .i64 ((aI t139 x11_1).f1))).setCell ⟨gb141, 2, none⟩ (.int .i64 ((aI t139 x11_1).f2))).setCell ⟨gb141, 3, none⟩ (.int .i64 ((aI t139 x11_1).f3)))) := ⟨bl_⟩
   (try clear HO_0)
   (try clear HO_3)
   (try clear HO_9)
   (try clear BK141)
   (try clear HK)
   (try clear HB)
   generalize ((((w15.setCell ⟨gb141, 0, none⟩ (.int .i64 ((aI t139 x11_1).f0))).setCell ⟨gb141, 1, none⟩ (.int .i64 ((aI t139 x11_1).f1))).setCell ⟨gb141, 2, none⟩ (.int .i64 ((aI t139 x11_1).f2))).setCell ⟨gb141, 3, none⟩ (.int .i64 ((aI t139 x11_1).f3))) = w18 at n0_ n1_ n2_ n3_ n4_ n5_ ⊢
   have HO_0 := n0_
   have HO_3 := n1_
   have HO_9 := n2_
   have BK141 := n3_
   have HK := n4_
   have HB := n5_
   clear n0_ n1_ n2_ n3_ n4_ n5_
   replace HO_0 := am_ (Kd.R_drew HO_0.out)
   replace HO_3 := am_ (Kd.R_drew HO_3.out)
   replace HO_9 := am_ (Kd.R_drew HO_9.out)
   replace BK141 := am_ (blk_drew BK141.out)
   replace HK := am_ (Kept.drew HK.out)
   replace HB := am_ (below_drew1 HB.out)
   have p142 := pt_ (ji9)
   have q142 := qt_ (ji9) x3_1.length
   obtain ⟨ad142, e142, hx142_0⟩ := Kd.at_int (Kd.R_reads' HO_3.out).2.2 (ji9) (oe_ p142) (oe_ q142)
   cases e142
   refine start_ (n := 11) (S := fun w' => w'.cell? ⟨gb141, 0, none⟩ = some (.int .i64 ((aI t139 x11_1).f0)) ∧ w'.cell? ⟨gb141, 1, none⟩ = some (.int .i64 ((aI t139 x11_1).f1)) ∧ w'.cell? ⟨gb141, 2, none⟩ = some (.int .i64 ((aI t139 x11_1).f2)) ∧ w'.cell? ⟨gb141, 3, none⟩ = some (.int .i64 ((aI t139 x11_1).f3)) ∧ w'.cell? (ad142.add ((ji9)).toNat) = some (.int .i64 (rd x3_1 (ji9)))) (ds := []) (bv 11 0) (by kernel_rfl) rfl rfl ⟨(blk_cell BK141.out 0).trans rfl, (blk_cell BK141.out 1).trans rfl, (blk_cell BK141.out 2).trans rfl, (blk_cell BK141.out 3).trans rfl, hx142_0⟩ (fun hHeld => ?_); refine with_tabW bG.tab7 bG.jU (fun HT_ HW_ => ?_)
   generalize w18.drew = w19 at HO_0 HO_3 HO_9 BK141 HK HB hx142_0 hHeld ⊢
   refine pu_ 0 18 (bv 11 1) ?_
   refine pu_ 1 19 (bv 11 3) ?_
   refine pu_ 2 20 (bv 11 7) ?_
   refine pu_ 3 21 (bv 11 15) ?_
   refine pu_ 5 23 (bv 11 47) ?_
   refine pu_ 6 24 (bv 11 111) ?_
   refine pu_ 7 25 (bv 11 239) ?_
   refine tk_ 4 22 (bv 11 255) hHeld ?_
   refine tk_ 8 26 (bv 11 511) hHeld ?_
   refine pu_ 9 27 (bv 11 1023) ?_
   refine pu_ 10 28 (bv 11 2047) ?_
   refine done_ (done_of HT_.out (by kernel_rfl)) ?_
   try go_wp2
   replace HO_0 := am_ (Kd.R_drew HO_0.out)
   replace HO_3 := am_ (Kd.R_drew HO_3.out)
   replace HO_9 := am_ (Kd.R_drew HO_9.out)
   replace BK141 := am_ (blk_drew BK141.out)
   replace HK := am_ (Kept.drew HK.out)
   replace HB := am_ (below_drew1 HB.out)
   have p143 := pt_ (ji9)
   have q143 := qt_ (ji9) x3_1.length
   obtain ⟨ad143, e143, hx143_0⟩ := Kd.at_int (Kd.R_reads' HO_3.out).2.2 (ji9) (oe_ p143) (oe_ q143)
   obtain rfl : ad142 = ad143 := (by injection e143)
   have p14 : 0 ≤ ((ji9) : Int) := dt_
   have q14 : ((ji9) : Int) < ((x3_1.length : Int) : Int) := dt_
   obtain ⟨go14, co14, eo14, gb14, gl14, cl14, HG14⟩ := Kd.R_form HO_3.out (by omega)
   (first | cases eo14 | (injection eo14 with ea_ en_ ec_; (first | subst ea_ | (injection ea_ with ea_; subst ea_)); subst ec_; clear en_))
   have GB14 := am_ gb14
   have GG14 := am_ HG14
   clear gb14 gl14 HG14
   have HMgo14 := am_ (show (P0_ go14 ∨ w.heap.size ≤ go14) from (HO_3.out.1 _ rfl))
   (first | simp only [add_plain] at hx142_0 | skip)
   (first | simp only [add_plain] at hx143_0 | skip)
   obtain ⟨hx14_0, hf14_0⟩ := Kd.R_celln 0 HO_3.out ((ji9) : Int) p14 q14
   replace p14 := eq_true p14
   replace q14 := eq_true q14
   have HP21 := Kd.R_putn HO_3.out ((ji9) : Int) ji13
   rw [← Ny144.out] at HP21
   have HQ21 := am_ HP21
   clear HP21
   refine start_ (n := 11) (S := fun w' => w'.cell? ⟨gb141, 0, none⟩ = some (.int .i64 ((aI t139 x11_1).f0)) ∧ w'.cell? ⟨gb141, 1, none⟩ = some (.int .i64 ((aI t139 x11_1).f1)) ∧ w'.cell? ⟨gb141, 2, none⟩ = some (.int .i64 ((aI t139 x11_1).f2)) ∧ w'.cell? ⟨gb141, 3, none⟩ = some (.int .i64 ((aI t139 x11_1).f3)) ∧ w'.cell? ⟨go14, ((ji9)).toNat, none⟩ = some (.int .i64 (rd x3_1 (ji9)))) (ds := [10]) (bv 11 0) (by kernel_rfl) rfl rfl ⟨(blk_cell BK141.out 0).trans rfl, (blk_cell BK141.out 1).trans rfl, (blk_cell BK141.out 2).trans rfl, (blk_cell BK141.out 3).trans rfl, hx143_0⟩ (fun hHeld => ?_); refine with_tabW bG.tab8 bG.bits8 (fun HT_ HW_ => ?_)
   generalize w19.drew = w20 at HO_0 HO_3 HO_9 BK141 HK HB GG14 HQ21 hf14_0 hx142_0 hx143_0 hx14_0 hHeld ⊢
   refine pu_ 0 29 (bv 11 1) ?_
   refine pu_ 1 30 (bv 11 3) ?_
   refine pu_ 2 31 (bv 11 7) ?_
   refine pu_ 3 32 (bv 11 15) ?_
   refine pu_ 4 33 (bv 11 31) ?_
   refine pu_ 6 35 (bv 11 95) ?_
   refine tk_ 5 34 (bv 11 127) hHeld ?_
   refine tk_ 7 36 (bv 11 255) hHeld ?_
   refine pu_ 8 37 (bv 11 511) ?_
   refine pu_ 9 38 (bv 11 1023) ?_
   refine last_ (i := 10) (N := none) (bv 11 2047) rfl rfl (one_of HT_.out (by kernel_rfl)) (by decide) (fun K hK => ?_)
   refine skip_ (w1 := ?_) (by rfl) rfl ?_ ?_
   rotate_left
   · go_simp
     rfl
   refine hK.out _ _ ?_
   clear hK K
   refine done_ (done_of HT_.out (by kernel_rfl)) ?_
   try go_wp2
   (try simp only [← hl0_1]); (try simp only [← hl9_1])
   go_roundg k1
   case measure => have := HK1.out; omega
   case rel => exact ⟨(y144), (wrap64 (x11_1 + 1)), ra_, H, ⟨by have := HK1.out; omega⟩, ⟨by (try simp only [hl0_1]); (try simp only [hl9_1]); (with_reducible repeat (first | apply Kd.R_alloc | apply Kd.R_drewN | apply Kd.R_drew)); exact Kd.R_mono (Kd.R_far (p := ⟨go14, ((ji9) : Int).toNat, none⟩) (Kd.R_types HO_0.out GG14.out (by decide)) (fun _ hk => hk.2) (.int .i64 ji13)) (fun _ hk => hk.1.1)⟩, ⟨by (try simp only [hl0_1]); (try simp only [hl9_1]); (with_reducible repeat (first | apply Kd.R_alloc | apply Kd.R_drewN | apply Kd.R_drew)); exact HQ21.out⟩, ⟨by (try simp only [hl0_1]); (try simp only [hl9_1]); (with_reducible repeat (first | apply Kd.R_alloc | apply Kd.R_drewN | apply Kd.R_drew)); exact Kd.R_mono (Kd.R_far (p := ⟨go14, ((ji9) : Int).toNat, none⟩) (Kd.R_types HO_9.out GG14.out (by decide)) (fun _ hk => hk.2) (.int .i64 ji13)) (fun _ hk => hk.1.1)⟩, ⟨by repeat (first | (with_reducible first | exact HK.out | apply Kept.alloc | apply Kept.drewN | apply Kept.drew | refine Kept.setCell ?_ HMgo14.out _ | refine Kept.setCell ?_ (.inr GW141.out) _) | exact HK.out)⟩, ⟨by repeat (first | (with_reducible first | exact HB.out | apply below_alloc | apply pw_below_drewN | apply below_drew1 | refine below_set ?_ GB14.out | refine below_set ?_ GE141.out) | exact HB.out)⟩⟩
def aH.Ok (x : S44) : Prop := -4611686018427387904 ≤ x.f1 ∧ x.f1 < 4611686018427387904
instance (x : S44) : Decidable (aH.Ok x) := by unfold aH.Ok; infer_instance
structure aH.E where
 v : S44
 ok : aH.Ok v
instance : Inhabited aH.E := ⟨⟨z44, by decide⟩⟩
def aH.enc (x : aH.E) : List Value := [.int .i64 x.v.f0, .int .i64 x.v.f1, .int .i64 x.v.f2, .int .i64 x.v.f3]
def aH.cf (x y : aH.E) : Int := x.v.f1 - y.v.f1
def aH.row (l : List S44) (h : ∀ x ∈ l, aH.Ok x) : List aH.E := l.pmap aH.E.mk h
def aH.f (l0 : List S44) : Option (List S44) := if h : (∀ x ∈ l0, aH.Ok x) ∧ l0.length < 4611686018427387904 then some (if l0.length = 0 then [] else ((Sort.pdq (ltOf aH.cf) (aH.row l0 h.1).toArray 0 l0.length (Lib.bitLen l0.length) true true).toList.map aH.E.v)) else none
theorem aH.swo : Sort.SWO (ltOf aH.cf) where
 irrefl x := decide_eq_false (by unfold aH.cf; omega)
 trans x y z h1 h2 := decide_eq_true (by
  have h1 := of_decide_eq_true h1
  have h2 := of_decide_eq_true h2
  unfold aH.cf at *; omega)
 ntrans x y z h1 h2 := decide_eq_false (by
  have h1 := of_decide_eq_false h1
  have h2 := of_decide_eq_false h2
  unfold aH.cf at *; omega)
theorem aH.cmp (x y : aH.E) (W : World) : Calls Tryz.prog 88 #[.agg (aH.enc x).toArray, .agg (aH.enc y).toArray] W fun e w' => e = .returned (.int .i64 (aH.cf x y)) ∧ ∃ q os', w' = Sort.grow (W.drewN q) os' := by
 obtain ⟨⟨x0, x1, x2, x3⟩, hx⟩ := x
 obtain ⟨⟨y0, y1, y2, y3⟩, hy⟩ := y
 have hw : wrap64 (x1 - y1) = x1 - y1 := by have hx := hx; have hy := hy; unfold aH.Ok at hx hy; simp only at hx hy; unfold wrap64; omega
 show Calls Tryz.prog 88 #[.agg #[.int .i64 x0, .int .i64 x1, .int .i64 x2, .int .i64 x3], .agg #[.int .i64 y0, .int .i64 y1, .int .i64 y2, .int .i64 y3]] W fun e w' => e = .returned (.int .i64 (x1 - y1)) ∧ _
 rw [← hw]
 have hu44 := Tryz.underlying44
 go_enter Tryz.func88, Tryz.ntmps88
 go_wp2
 go_ret
 exact ⟨rfl, 0, _, by rw [Sort.alloc_eq_grow, Sort.alloc_eq_grow, Sort.grow_grow]; rfl⟩
theorem aH.flat (l : List aH.E) : ∃ cs, cs = l.flatMap aH.enc ∧ ∀ (w : World) (base : Nat) (ok : Nat → Prop), Reps (k44.M w base ok) 4 (l.map aH.E.v) cs := by
 refine ⟨_, rfl, fun w base ok => ⟨?_, fun j p hj => ?_⟩⟩
 · rw [YthkeonbmgcphkaaGreatDoorSort.flat_length aH.enc 4 (fun _ => rfl)]; simp
 rw [List.getElem?_map] at hj
 obtain ⟨x, hx, rfl⟩ := Option.map_eq_some_iff.1 hj
 have : ((l.flatMap aH.enc).drop (j * 4)).take 4 = aH.enc x := by
  have hlt := (List.getElem?_eq_some_iff.1 hx).1
  apply List.ext_getElem?
  intro t
  by_cases ht : t < 4
  · rw [List.getElem?_take_of_lt ht, List.getElem?_drop, YthkeonbmgcphkaaGreatDoorSort.flat_get aH.enc 4 (fun _ => rfl) l _ (by omega)]
    rw [show (j * 4 + t) / 4 = j by omega, show (j * 4 + t) % 4 = t by omega, getElem!_pos _ j hlt, (List.getElem?_eq_some_iff.1 hx).2, getElem!_pos _ t (by exact ht), List.getElem?_eq_getElem]
    all_goals first | rfl | exact ht
  rw [List.getElem?_eq_none (by rw [List.length_take]; omega), List.getElem?_eq_none (by show 4 ≤ t; omega)]
 rw [this]
 exact jM w base ok x.v
theorem aH.calls (P0_ : Nat → Prop) (u9000_ : Value) (l0 : List S44)  (r : List S44) (w0 w : World) (hG : Tryz.GW w0) (hB : Below w0.heap.size w0 w) (ho0 : Kd.R k44 44 w w0.heap.size P0_ u9000_ l0) (h : aH.f l0 = some r) :
 Calls Tryz.prog 87 #[u9000_, .func (.func 88) #[] #[]] w fun e w' => e = .returned (.tuple #[]) ∧ Kd.R k44 44 w' w0.heap.size (fun k_ => (P0_ k_ ∨ w.heap.size ≤ k_)) u9000_ r ∧ Below w0.heap.size w0 w' ∧ Kept w w' (fun k_ => P0_ k_) := by
 unfold aH.f at h
 split at h
 · rename_i hc
   obtain rfl := Option.some.inj h
   by_cases hz : l0.length = 0
   · obtain rfl : l0 = [] := List.length_eq_zero_iff.1 hz
     obtain ⟨A, c, rfl⟩ := Kd.R_slice ho0
     exact (Tryz.sortRects_none A c _ w).mono fun e w' ⟨he, hw⟩ => by
      subst hw
      exact ⟨he, by simpa using Kd.R_mono ho0 (fun k hk => .inl hk), hB, Kept.refl _ _⟩
   rw [if_neg hz]
   obtain ⟨g, cap, rfl, hbase, hlt, _⟩ := Kd.R_form ho0 (by omega)
   obtain ⟨hok, inner, ho, hr⟩ := ho0
   obtain ⟨cs, rfl, hM⟩ := aH.flat (aH.row l0 hc.1)
   have hval : (aH.row l0 hc.1).map aH.E.v = l0 := by simp [aH.row, List.map_pmap]
   have hlen : (aH.row l0 hc.1).length = l0.length := by simp [aH.row]
   have hin : inner = (aH.row l0 hc.1).flatMap aH.enc := by
    have h1 := hM w w0.heap.size (fun k => P0_ k ∧ some k ≠ (Value.slice (some ⟨g, 0, none⟩) l0.length cap).ownBlock)
    rw [hval] at h1
    apply List.ext_getElem?
    intro t
    by_cases ht : t < l0.length * 4
    · have hj : t / 4 < l0.length := by omega
      have e1 := iH (hr.2 (t / 4) _ (List.getElem?_eq_getElem hj))
      have e2 := iH (h1.2 (t / 4) _ (List.getElem?_eq_getElem hj))
      have e3 := congrArg (fun l => l[t % 4]?) (e1.trans e2.symm)
      replace e3 : ((List.drop (t / 4 * k44.sz) inner).take k44.sz)[t % 4]? = ((List.drop (t / 4 * 4) ((aH.row l0 hc.1).flatMap aH.enc)).take 4)[t % 4]? := e3
      have hm : t % 4 < 4 := Nat.mod_lt _ (by decide)
      rw [show k44.sz = 4 from rfl, List.getElem?_take_of_lt hm, List.getElem?_take_of_lt hm, List.getElem?_drop, List.getElem?_drop, show t / 4 * 4 + t % 4 = t by omega] at e3
      exact e3
    have l1 := hr.1
    have l2 := h1.1
    rw [show k44.sz = 4 from rfl] at l1
    rw [List.getElem?_eq_none (by omega), List.getElem?_eq_none (by omega)]
   subst hin
   clear hr
   have hn : l0.length < 4611686018427387904 := hc.2
   clear h hM hval
   generalize aH.row l0 hc.1 = R at hlen ho ⊢
   generalize l0.length = n at *
   have ho4 : w.ownsRow w0.heap.size 44 4 (.slice (some ⟨g, 0, none⟩) n cap) n (R.flatMap aH.enc) := ho
   clear ho
   have hH : Sort.HoldsK aH.enc 4 w g 0 R.toArray := YthkeonbmgcphkaaGreatDoorSort.gX (enc := aH.enc) (fun _ => rfl) ho4 hlen
   have eg : ∀ args w, (callFunc 88 args).run Tryz.prog w = .ok (.enter 88 args) w := enters_of Tryz.func88 (by kernel_rfl) rfl
   have hsz1 : R.toArray.size = n := by simpa using hlen
   have hcall := Tryz.sortRects aH.enc (fun _ => rfl) (fun x v hv => by simp [aH.enc] at hv; rcases hv with rfl | rfl | rfl | rfl <;> rfl) aH.cf aH.swo 88 g 0 cap R.toArray w eg (fun _ _ _ _ x y => aH.cmp x y _) hH hlt (by rw [hsz1]; exact hn)
   rw [hsz1] at hcall
   have hsz : (Sort.pdq (ltOf aH.cf) R.toArray 0 n (Lib.bitLen n) true true).size = n := by
    have := (Sort.pdq_sorts (ltOf aH.cf) aH.swo R.toArray 0 n (Lib.bitLen n) true true (Nat.zero_le _) (Nat.le_of_eq hsz1.symm) (Or.inl rfl)).1.1
    exact this.trans hsz1
   generalize Sort.pdq (ltOf aH.cf) R.toArray 0 n (Lib.bitLen n) true true = d at hcall hsz ⊢
   refine hcall.mono fun e w' ⟨he, m, os, hw⟩ => ?_
   subst hw
   have ho5 := YthkeonbmgcphkaaGreatDoorSort.jK (enc := aH.enc) (k := 4) (m := m) (d := d) (os := os) (fun _ => rfl) ho4 hsz
   have hl5 : (d.toList.map aH.E.v).length = n := by simp [hsz]
   refine ⟨he, ⟨fun k hk => .inl (hok k hk), d.toList.flatMap aH.enc, ?_, ?_⟩, YthkeonbmgcphkaaGreatDoorSort.iU hB hB.size hbase, YthkeonbmgcphkaaGreatDoorSort.jD (hok g rfl)⟩
   · rw [hl5]
     exact ho5
   obtain ⟨cs2, hcs2, hM2⟩ := aH.flat d.toList
   rw [← hcs2]; exact hM2 _ _ _
 cases h
end Go.Proofs.YthkeonbmgcphkaaGreatDoor.PM
