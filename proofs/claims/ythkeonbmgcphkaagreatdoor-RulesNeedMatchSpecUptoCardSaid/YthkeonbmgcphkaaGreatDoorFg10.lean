import Derived.Test.YthkeonbmgcphkaaGreatDoorFg6
import Derived.Test.YthkeonbmgcphkaaGreatDoorFg9
namespace Go.Proofs.YthkeonbmgcphkaaGreatDoor.PN
open Go.RowKit Go.Proofs.YthkeonbmgcphkaaGreatDoorW.PrintWords Go.Proofs.YthkeonbmgcphkaaGreatDoorW.PrintLast Go.Proofs.YthkeonbmgcphkaaGreatDoorW.PrintMore
attribute [local go_sem] max2_int min2_int max_two min_two max_three min_three max_four min_four
set_option linter.unusedVariables false
set_option maxHeartbeats 8000000
set_option maxRecDepth 100000
set_option linter.unusedSimpArgs false
def dR.j0 : Nat → List (S118) → Bool → Int → Int → List Int → Option ((List (S118)))
 | 0, _, _, _, _, _ => none
 | k + 1, x0, x16, x124000, x124001, x124002 => if x16 = true then (some x0) else (if (wrap64 ((x0.length : Int) - 1)) ≥ 0 then (if 0 ≤ (wrap64 ((x0.length : Int) - 1)) then (if (wrap64 ((x0.length : Int) - 1)) < (x0.length : Int) then (if ((bV x0 (wrap64 ((x0.length : Int) - 1))).f1) = x124000 then ((dH.f k ((bV x0 (wrap64 ((x0.length : Int) - 1))).f2) x124002).bind fun t126 => (if t126 = true then (some (x0.set ((wrap64 ((x0.length : Int) - 1)) : Int).toNat (⟨(bV x0 (wrap64 ((x0.length : Int) - 1))).f0, x124001, (bV x0 (wrap64 ((x0.length : Int) - 1))).f2⟩ : S118))) else (if x0.length < 3518437208883 then (some (x0 ++ [(⟨x124000, x124001, x124002⟩ : S118)])) else (none)))) else (if x0.length < 3518437208883 then (some (x0 ++ [(⟨x124000, x124001, x124002⟩ : S118)])) else (none))) else (none)) else (none)) else (if x0.length < 3518437208883 then (some (x0 ++ [(⟨x124000, x124001, x124002⟩ : S118)])) else (none)))
def dR.f (k : Nat) (l0 : List (S118)) (a1_0 : Int) (a1_1 : Int) (l1_2 : List Int) : Option ((List (S118))) := if (l1_2.length : Int) = 0 then (dR.j0 k l0 true a1_0 a1_1 l1_2) else (dR.j0 k l0 (decide (a1_1 ≤ a1_0)) a1_0 a1_1 l1_2)
theorem dR.calls (k : Nat) (P0_ : Nat → Prop) (u9000_ : Value) (l0 : List (S118)) (a1_0 : Int) (a1_1 : Int) (P1_2_ : Nat → Prop) (u9001_ : Value) (l1_2 : List Int) (r : List (S118)) (w0 w : World) (hG : Tryz.GW w0) (hB : Below w0.heap.size w0 w) (ho0 : Kd.S k118 118 w w0.heap.size P0_ u9000_ l0) (hp0_1_2 : ∀ k_, P0_ k_ → ¬ P1_2_ k_) (ho1_2 : Kd.R (Kd.int .i64) 3 w w0.heap.size P1_2_ u9001_ l1_2) (hp1_2_0 : ∀ k_, P1_2_ k_ → ¬ P0_ k_) (h : dR.f k l0 a1_0 a1_1 l1_2 = some r) :
 Calls Tryz.prog 93 #[u9000_, .agg #[.int .i64 a1_0, .int .i64 a1_1, u9001_]] w fun e w' => ∃ v0_ : Value, e = .returned (v0_) ∧ Kd.S k118 118 w' w0.heap.size (fun k_ => ((P0_ k_ ∨ P1_2_ k_) ∨ w.heap.size ≤ k_)) v0_ r ∧ Below w0.heap.size w0 w' ∧ Kept w w' (fun k_ => P0_ k_ ∨ P1_2_ k_) := by
 have hu118 := Tryz.underlying118
 have HO0 := am_ (show Kd.S k118 118 w w0.heap.size (fun k_ => ((P0_ k_ ∨ P1_2_ k_) ∨ w.heap.size ≤ k_) ∧ some k_ ≠ (u9001_ : Value).ownBlock) u9000_ l0 from Kd.S_mono ho0 (fun k_ hk => ⟨(.inl (.inl hk)), fun e_ => hp0_1_2 k_ hk (ho1_2.1 k_ e_.symm)⟩))
 have HO1_2 := am_ (show Kd.R (Kd.int .i64) 3 w w0.heap.size (fun k_ => ((P0_ k_ ∨ P1_2_ k_) ∨ w.heap.size ≤ k_) ∧ some k_ ≠ (u9000_ : Value).ownBlock) u9001_ l1_2 from Kd.R_mono ho1_2 (fun k_ hk => ⟨(.inl (.inr hk)), fun e_ => hp1_2_0 k_ hk ((Kd.S_R ho0).1 k_ e_.symm)⟩))
 have HK := am_ (Kept.refl w (fun k_ => P0_ k_ ∨ P1_2_ k_))
 have HG := am_ hG
 clear hG
 have HW0 := am_ hB.size
 have HB := am_ hB
 clear hB
 have H : (if (l1_2.length : Int) = 0 then (dR.j0 k l0 true a1_0 a1_1 l1_2) else (dR.j0 k l0 (decide (a1_1 ≤ a1_0)) a1_0 a1_1 l1_2)) = some r := h
 clear h
 have HC3 := am_ H
 clear H
 obtain ⟨Ao4, co4, eo4⟩ := Kd.R_slice HO1_2.out
 subst eo4
 go_enter Tryz.func93, Tryz.ntmps93
 go_upto_region 1 with (first | ((with_reducible refine gn_ 3 rfl ?_); refine bq_ (N := 3) (cs := #[.int .i64 a1_0, .int .i64 a1_1, .slice Ao4 l1_2.length co4]) (t := 118) ?_; intro gb123 hg w5 BK123 hb; have GW123 := am_ ((by rw [hg]; exact (by first | exact HK.out.1 | exact (show Kept w _ (fun k_ => P0_ k_ ∨ P1_2_ k_) from by repeat (first | (with_reducible first | exact HK.out | apply Kept.alloc | apply Kept.drewN | apply Kept.drew) | exact HK.out)).1) : w.heap.size ≤ gb123)); have GE123 := ga_ w0 hg; replace HO0 := am_ (Kd.S_below (Kd.S_elderB (ss_ HO0) gb123 (Nat.le_of_eq hg.symm)) hb); replace HO1_2 := am_ (Kd.R_below (rr_ HO1_2) hb); replace HK := am_ (Kept.below (S := (fun k_ => P0_ k_ ∨ P1_2_ k_)) (by repeat (first | (with_reducible first | exact HK.out | apply Kept.alloc | apply Kept.drewN | apply Kept.drew) | exact HK.out)) hb); replace HB := bp_ hb; clear hb hg))
 repeat (go_quiet (fail); go_upto_region 1 with (fail))
 (try simp only [Act.put, List.setIfInBounds_toArray, List.set_cons_zero, List.set_cons_succ])
 go_cut [16] (fun v16 wc => ∃ (kq : Nat) (x16_2 : Bool), v16 = .bool x16_2 ∧ Aside0 (dR.j0 kq l0 x16_2 a1_0 a1_1 l1_2 = some r) ∧ Aside0 (kq ≤ k) ∧ Aside0 (Kd.S k118 118 wc w0.heap.size (fun k_ => ((P0_ k_ ∨ P1_2_ k_) ∨ w.heap.size ≤ k_) ∧ some k_ ≠ ((.slice Ao4 l1_2.length co4) : Value).ownBlock ∧ k_ ≠ gb123) u9000_ l0) ∧ Aside0 (Kd.R (Kd.int .i64) 3 wc w0.heap.size (fun k_ => ((P0_ k_ ∨ P1_2_ k_) ∨ w.heap.size ≤ k_)) (.slice Ao4 l1_2.length co4) l1_2) ∧ Aside0 (wc.heap[gb123]? = some (.cells #[.int .i64 a1_0, .int .i64 a1_1, (.slice Ao4 l1_2.length co4)] 118 (0, 0))) ∧ Aside0 (Kept w wc (fun k_ => P0_ k_ ∨ P1_2_ k_)) ∧ Aside0 (Below w0.heap.size w0 wc))
 case first =>
  have H := HC3.out
  clear HC3
  by_cases c6 : (l1_2.length : Int) = 0
  · rw [if_pos c6] at H
    have c6b0 : ((l1_2.length : Int) == 0) = true := beq_iff_eq.mpr c6
    have c6b1 : ((l1_2.length : Int) != 0) = false := bne_eq_false_iff_eq.mpr c6
    clear c6
    (first | rw [c6b0] | (simp only [i64_w, i32_w]; rw [c6b0]) | skip)
    replace H := am_ H
    have bz7 := bc3_ BK123
    go_wp2
    repeat (go_quiet (fail); try go_wp2)
    go_meet
    case rel => exact ⟨_, (true), ra_, H, ⟨by first | omega | exact Nat.le_refl _⟩, ⟨by (with_reducible repeat (first | apply Kd.S_alloc | apply Kd.S_drewN | apply Kd.S_drew)); exact Kd.S_mono HO0.out (fun _ hk => ⟨hk.1.1, ⟨hk.1.2, hk.2⟩⟩)⟩, ⟨by (with_reducible repeat (first | apply Kd.R_alloc | apply Kd.R_drewN | apply Kd.R_drew)); exact Kd.R_mono HO1_2.out (fun _ hk => hk.1)⟩, ⟨bk_ BK123⟩, ⟨by repeat (first | (with_reducible first | exact HK.out | apply Kept.alloc | apply Kept.drewN | apply Kept.drew | refine Kept.setCell ?_ (.inr GW123.out) _) | exact HK.out)⟩, ⟨bl_⟩⟩
  rw [if_neg c6] at H
  have c6b0 : ((l1_2.length : Int) == 0) = false := beq_eq_false_iff_ne.mpr c6
  have c6b1 : ((l1_2.length : Int) != 0) = true := bne_iff_ne.mpr c6
  have c6b2 : ¬ (l1_2 = []) := fun h_ => c6 (by rw [h_]; rfl)
  (first | rw [c6b0] | (simp only [i64_w, i32_w]; rw [c6b0]) | skip)
  replace H := am_ H
  have bz8 := bc3_ BK123
  go_wp2
  repeat (go_quiet (fail); try go_wp2)
  go_meet
  case rel => exact ⟨_, (decide (a1_1 ≤ a1_0)), ra_, H, ⟨by first | omega | exact Nat.le_refl _⟩, ⟨by (with_reducible repeat (first | apply Kd.S_alloc | apply Kd.S_drewN | apply Kd.S_drew)); exact Kd.S_mono HO0.out (fun _ hk => ⟨hk.1.1, ⟨hk.1.2, hk.2⟩⟩)⟩, ⟨by (with_reducible repeat (first | apply Kd.R_alloc | apply Kd.R_drewN | apply Kd.R_drew)); exact Kd.R_mono HO1_2.out (fun _ hk => hk.1)⟩, ⟨bk_ BK123⟩, ⟨by repeat (first | (with_reducible first | exact HK.out | apply Kept.alloc | apply Kept.drewN | apply Kept.drew | refine Kept.setCell ?_ (.inr GW123.out) _) | exact HK.out)⟩, ⟨bl_⟩⟩
 case rest =>
  clear HC3
  try clear p1
  try clear p2
  try clear c6
  try clear c6b0
  try clear c6b1
  try clear c6b2
  try clear bz7
  try clear bz8
  obtain ⟨kq, x16_2, rfl, HA, HJ2, HO_0, HO_124002, BK123, HK, HB⟩ := hcut
  cases kq with
  | zero => exact absurd HA.out (by simp [dR.j0])
  | succ kj2 =>
   have H := HA.out
   clear HA
   simp only [dR.j0] at H
   by_cases c9 : x16_2 = true
   · subst c9
     rw [if_pos rfl] at H
     obtain rfl := sj_ H
     go_wp2
     repeat (go_quiet (fail); try go_wp2)
     go_ret
     exact ⟨_, er_, by (with_reducible repeat (first | apply Kd.S_alloc | apply Kd.S_drewN | apply Kd.S_drew)); exact Kd.S_mono HO_0.out (fun _ hk => hk.1), bl_, by repeat (first | (with_reducible first | exact HK.out | apply Kept.alloc | apply Kept.drewN | apply Kept.drew | refine Kept.setCell ?_ (.inr GW123.out) _) | exact HK.out)⟩
   obtain rfl := bf_ c9
   clear c9
   rw [if_neg ft_] at H
   by_cases c10 : (wrap64 ((l0.length : Int) - 1)) ≥ 0
   rotate_left
   · rw [if_neg c10] at H
     have c10b0 : decide (0 ≤ (wrap64 ((l0.length : Int) - 1))) = false := decide_eq_false c10
     clear c10
     obtain ⟨LMc30, H⟩ := ifa_ H
     obtain ⟨y134, hy134⟩ : ∃ y_ : List (S118), y_ = (l0 ++ [(⟨a1_0, a1_1, l1_2⟩ : S118)]) := ⟨_, rfl⟩
     replace H : (some y134) = some r := by rw [hy134]; with_reducible exact H
     have Ny134 := am_ hy134
     clear hy134
     obtain rfl := sj_ H
     obtain ⟨Ao31, co31, eo31⟩ := Kd.S_slice HO_0.out
     subst eo31
     have bz32 := bc3_ BK123
     go_wp2_with (fail)
     repeat (go_quiet (fail); try go_wp2_with (first | ((with_reducible refine gate_builtin (b := .append) (xs := #[.tmp 50, .tmp 52]) rfl ?_); at_builtin; refine Kd.S_append k118 (w0 := w0) w0.heap.size rfl (.tmp 50) (.tmp 52) 83 118 (.agg #[(.int .i64 0), (.int .i64 0), (.slice none 0 0)]) 40 rfl Tryz.underlying83 info118 rfl (by decide) (by omega) (.slice Ao31 l0.length co31) l0 (⟨a1_0, a1_1, l1_2⟩ : S118) [.int .i64 a1_0, .int .i64 a1_1, .slice Ao4 l1_2.length co4] (fun k_ => ((P0_ k_ ∨ P1_2_ k_) ∨ w.heap.size ≤ k_) ∧ k_ ≠ gb123) (fun k_ => some k_ = (.slice Ao4 l1_2.length co4 : Value).ownBlock) rfl rfl ?aP (fun k_ hk_ => ((Kd.R_mono (ok' := fun k_ => ((fun k_ => ((P0_ k_ ∨ P1_2_ k_) ∨ w.heap.size ≤ k_) ∧ k_ ≠ gb123)) k_ ∧ some k_ ≠ (.slice Ao31 l0.length co31 : Value).ownBlock) (Kd.R_types (Kd.R_apart' (HO_124002.out) (Kd.S_typed HO_0.out) (by decide)) BK123.out (by decide)) (fun k_ hk => ⟨⟨hk.1.1, hk.2⟩, hk.1.2⟩))).1 k_ hk_.symm) ?aF ?aO ?aB ?aS ?aL ?_; (case aP => exact kH _ _ _ (⟨a1_0, a1_1, l1_2⟩ : S118) (Kd.R_mono (Kd.R_tight rfl (Kd.R_mono (ok' := fun k_ => ((fun k_ => ((P0_ k_ ∨ P1_2_ k_) ∨ w.heap.size ≤ k_) ∧ k_ ≠ gb123)) k_ ∧ some k_ ≠ (.slice Ao31 l0.length co31 : Value).ownBlock) (Kd.R_types (Kd.R_apart' (HO_124002.out) (Kd.S_typed HO_0.out) (by decide)) BK123.out (by decide)) (fun k_ hk => ⟨⟨hk.1.1, hk.2⟩, hk.1.2⟩))) (fun _ h_ => h_))); (case aB => exact bl_); (case aF => exact (fun k_ hk => ⟨(.inr (Nat.le_trans (by first | exact HK.out.1 | exact (show Kept w _ (fun k_ => P0_ k_ ∨ P1_2_ k_) from by repeat (first | (with_reducible first | exact HK.out | apply Kept.alloc | apply Kept.drewN | apply Kept.drew | refine Kept.setCell ?_ (.inr GW123.out) _) | exact HK.out)).1) hk)), Kd.freshB (g := gb123) (o := .cells #[.int .i64 a1_0, .int .i64 a1_1, .slice Ao4 l1_2.length co4] 118 (0, 0)) (bk_ BK123) k_ hk⟩)); (case aO => exact (by (with_reducible repeat (first | apply Kd.S_alloc | apply Kd.S_drewN | apply Kd.S_drew)); exact Kd.S_mono HO_0.out (fun k_ hk => ⟨⟨hk.1, hk.2.2⟩, fun e_ => hk.2.1 e_⟩))); (case aS => exact (below_size bl_)); (case aL => have := LMc30.out; omega); intro v135 w33 ho hb hg hat; rw [← Ny134.out] at ho; have n0_ := am_ (blk_grown (g := gb123) (o := .cells #[.int .i64 a1_0, .int .i64 a1_1, .slice Ao4 l1_2.length co4] 118 (0, 0)) (bk_ BK123) hg (Kd.S_away HO_0.out (fun _ hk => hk.2.2))); have n1_ := am_ (hb); have n2_ := am_ (Kept.of_grown (S := (fun k_ => P0_ k_ ∨ P1_2_ k_)) hg (by repeat (first | (with_reducible first | exact HK.out | apply Kept.alloc | apply Kept.drewN | apply Kept.drew | refine Kept.setCell ?_ (.inr GW123.out) _) | exact HK.out)) (fun k_ e_ => ((Kd.S_R HO_0.out).1 k_ e_).1)); have n3_ := am_ (ho); clear BK123; clear HB; clear HK; clear HO_0; clear HO_124002; have BK123 := n0_; have HB := n1_; have HK := n2_; have HO136 := n3_; clear n0_ n1_ n2_ n3_; clear ho hb hg hat)))
     go_ret
     exact ⟨_, er_, by (with_reducible repeat (first | apply Kd.S_alloc | apply Kd.S_drewN | apply Kd.S_drew)); exact Kd.S_mono HO136.out (fun _ hk => hk.1), bl_, by repeat (first | (with_reducible first | exact HK.out | apply Kept.alloc | apply Kept.drewN | apply Kept.drew | refine Kept.setCell ?_ (.inr GW123.out) _) | exact HK.out)⟩
   rw [if_pos c10] at H
   have c10b0 : decide (0 ≤ (wrap64 ((l0.length : Int) - 1))) = true := decide_eq_true c10
   clear c10
   obtain ⟨ji11, hji11⟩ : ∃ j_ : Int, (wrap64 ((l0.length : Int) - 1)) = j_ := ⟨_, rfl⟩
   first | rw [hji11] at H | simp only [hji11] at H
   (try rw [hji11] at c10b0)
   have hji11w : (IntKind.i64.wrap ((l0.length : Int) - 1)) = ji11 := (i64_w _).trans hji11
   obtain ⟨c12b0, H⟩ := ifd_ H
   obtain ⟨c13b0, H⟩ := ifd_ H
   by_cases c14 : ((bV l0 (ji11)).f1) = a1_0
   rotate_left
   · rw [if_neg c14] at H
     have c14b0 : (((bV l0 (ji11)).f1) == a1_0) = false := beq_eq_false_iff_ne.mpr c14
     have c14b1 : (((bV l0 (ji11)).f1) != a1_0) = true := bne_iff_ne.mpr c14
     obtain ⟨LMc26, H⟩ := ifa_ H
     obtain ⟨y131, hy131⟩ : ∃ y_ : List (S118), y_ = (l0 ++ [(⟨a1_0, a1_1, l1_2⟩ : S118)]) := ⟨_, rfl⟩
     replace H : (some y131) = some r := by rw [hy131]; with_reducible exact H
     have Ny131 := am_ hy131
     clear hy131
     obtain rfl := sj_ H
     obtain ⟨Ao27, co27, eo27⟩ := Kd.S_slice HO_0.out
     subst eo27
     have p124 : 0 ≤ ((ji11) : Int) := dt_
     have q124 : (ji11) < (l0.length : Int) := dt_
     obtain ⟨ad124, A124_2, c124_2, e124, hx124_0, hx124_1, hx124_2, hl124_2, hi124_2⟩ := kU (Kd.S_reads' HO_0.out).2.2 (ji11) p124 q124
     cases e124
     obtain ⟨ce124, hce124, hMe124, hcc124⟩ := Kd.S_get HO_0.out z118 (ji11) p124 (by first | exact q124 | exact dt_ | (have e_ := (Kd.S_reads' HO_0.out).1; omega))
     obtain ⟨ve124_2, rfl, ge124_2⟩ := gW hMe124
     have hv124_2 := hcc124 2 _ rfl
     rw [add_field _ _ 2 (by omega)] at hv124_2
     replace hv124_2 := Option.some.inj (hv124_2.symm.trans hx124_2)
     rw [hv124_2] at ge124_2
     have HL124_2 := am_ (show Kd.R (Kd.int .i64) 3 _ _ _ _ ((bV l0 (ji11)).f2) from ge124_2)
     clear hv124_2 ge124_2
     clear hcc124 hce124
     have HR124_2 := am_ hi124_2
     have HC124_2 := am_ hl124_2
     clear hi124_2 hl124_2
     replace p124 := eq_true p124
     replace q124 := eq_true q124
     have bz28 := bc3_ BK123
     go_wp2_with (fail)
     repeat (go_quiet (fail); try go_wp2_with (first | ((with_reducible refine gate_builtin (b := .append) (xs := #[.tmp 50, .tmp 52]) rfl ?_); at_builtin; refine Kd.S_append k118 (w0 := w0) w0.heap.size rfl (.tmp 50) (.tmp 52) 83 118 (.agg #[(.int .i64 0), (.int .i64 0), (.slice none 0 0)]) 40 rfl Tryz.underlying83 info118 rfl (by decide) (by omega) (.slice (some ad124) l0.length co27) l0 (⟨a1_0, a1_1, l1_2⟩ : S118) [.int .i64 a1_0, .int .i64 a1_1, .slice Ao4 l1_2.length co4] (fun k_ => ((P0_ k_ ∨ P1_2_ k_) ∨ w.heap.size ≤ k_) ∧ k_ ≠ gb123) (fun k_ => some k_ = (.slice Ao4 l1_2.length co4 : Value).ownBlock) rfl rfl ?aP (fun k_ hk_ => ((Kd.R_mono (ok' := fun k_ => ((fun k_ => ((P0_ k_ ∨ P1_2_ k_) ∨ w.heap.size ≤ k_) ∧ k_ ≠ gb123)) k_ ∧ some k_ ≠ (.slice (some ad124) l0.length co27 : Value).ownBlock) (Kd.R_types (Kd.R_apart' (HO_124002.out) (Kd.S_typed HO_0.out) (by decide)) BK123.out (by decide)) (fun k_ hk => ⟨⟨hk.1.1, hk.2⟩, hk.1.2⟩))).1 k_ hk_.symm) ?aF ?aO ?aB ?aS ?aL ?_; (case aP => exact kH _ _ _ (⟨a1_0, a1_1, l1_2⟩ : S118) (Kd.R_mono (Kd.R_tight rfl (Kd.R_mono (ok' := fun k_ => ((fun k_ => ((P0_ k_ ∨ P1_2_ k_) ∨ w.heap.size ≤ k_) ∧ k_ ≠ gb123)) k_ ∧ some k_ ≠ (.slice (some ad124) l0.length co27 : Value).ownBlock) (Kd.R_types (Kd.R_apart' (HO_124002.out) (Kd.S_typed HO_0.out) (by decide)) BK123.out (by decide)) (fun k_ hk => ⟨⟨hk.1.1, hk.2⟩, hk.1.2⟩))) (fun _ h_ => h_))); (case aB => exact bl_); (case aF => exact (fun k_ hk => ⟨(.inr (Nat.le_trans (by first | exact HK.out.1 | exact (show Kept w _ (fun k_ => P0_ k_ ∨ P1_2_ k_) from by repeat (first | (with_reducible first | exact HK.out | apply Kept.alloc | apply Kept.drewN | apply Kept.drew | refine Kept.setCell ?_ (.inr GW123.out) _) | exact HK.out)).1) hk)), Kd.freshB (g := gb123) (o := .cells #[.int .i64 a1_0, .int .i64 a1_1, .slice Ao4 l1_2.length co4] 118 (0, 0)) (bk_ BK123) k_ hk⟩)); (case aO => exact (by (with_reducible repeat (first | apply Kd.S_alloc | apply Kd.S_drewN | apply Kd.S_drew)); exact Kd.S_mono HO_0.out (fun k_ hk => ⟨⟨hk.1, hk.2.2⟩, fun e_ => hk.2.1 e_⟩))); (case aS => exact (below_size bl_)); (case aL => have := LMc26.out; omega); intro v132 w29 ho hb hg hat; rw [← Ny131.out] at ho; have n0_ := am_ (blk_grown (g := gb123) (o := .cells #[.int .i64 a1_0, .int .i64 a1_1, .slice Ao4 l1_2.length co4] 118 (0, 0)) (bk_ BK123) hg (Kd.S_away HO_0.out (fun _ hk => hk.2.2))); have n1_ := am_ (Kd.R_after (ok := (fun k_ => ((P0_ k_ ∨ P1_2_ k_) ∨ w.heap.size ≤ k_) ∧ some k_ ≠ (.slice Ao4 l1_2.length co4 : Value).ownBlock ∧ k_ ≠ gb123)) (rr_ HL124_2) hg hat); have n2_ := am_ (hb); have n3_ := am_ (Kept.of_grown (S := (fun k_ => P0_ k_ ∨ P1_2_ k_)) hg (by repeat (first | (with_reducible first | exact HK.out | apply Kept.alloc | apply Kept.drewN | apply Kept.drew | refine Kept.setCell ?_ (.inr GW123.out) _) | exact HK.out)) (fun k_ e_ => ((Kd.S_R HO_0.out).1 k_ e_).1)); have n4_ := am_ (ho); clear BK123; clear HL124_2; clear HB; clear HK; clear HO_0; clear HO_124002; have BK123 := n0_; have HL124_2 := n1_; have HB := n2_; have HK := n3_; have HO133 := n4_; clear n0_ n1_ n2_ n3_ n4_; clear ho hb hg hat)))
     go_ret
     exact ⟨_, by first | rfl | (simp [dO, dQ] <;> rfl) | (simp only [← hji11]; first | rfl | (simp [dO, dQ] <;> rfl)) | (simp [*, dO, dQ] <;> rfl), by (with_reducible repeat (first | apply Kd.S_alloc | apply Kd.S_drewN | apply Kd.S_drew)); exact Kd.S_mono HO133.out (fun _ hk => hk.1), bl_, by repeat (first | (with_reducible first | exact HK.out | apply Kept.alloc | apply Kept.drewN | apply Kept.drew | refine Kept.setCell ?_ (.inr GW123.out) _) | exact HK.out)⟩
   rw [if_pos c14] at H
   have c14b0 : (((bV l0 (ji11)).f1) == a1_0) = true := beq_iff_eq.mpr c14
   have c14b1 : (((bV l0 (ji11)).f1) != a1_0) = false := bne_eq_false_iff_eq.mpr c14
   clear c14
   obtain ⟨t126, A15, H⟩ := bs_ H
   by_cases c16 : t126 = true
   · subst c16
     rw [if_pos rfl] at H
     obtain ⟨y127, hy127⟩ : ∃ y_ : List (S118), y_ = (l0.set ((ji11) : Int).toNat (⟨(bV l0 (ji11)).f0, a1_1, (bV l0 (ji11)).f2⟩ : S118)) := ⟨_, rfl⟩
     replace H : (some y127) = some r := by rw [hy127]; with_reducible exact H
     have Ny127 := am_ hy127
     clear hy127
     obtain rfl := sj_ H
     obtain ⟨Ao18, co18, eo18⟩ := Kd.S_slice HO_0.out
     subst eo18
     have p124 : 0 ≤ ((ji11) : Int) := dt_
     have q124 : (ji11) < (l0.length : Int) := dt_
     obtain ⟨ad124, A124_2, c124_2, e124, hx124_0, hx124_1, hx124_2, hl124_2, hi124_2⟩ := kU (Kd.S_reads' HO_0.out).2.2 (ji11) p124 q124
     cases e124
     obtain ⟨ce124, hce124, hMe124, hcc124⟩ := Kd.S_get HO_0.out z118 (ji11) p124 (by first | exact q124 | exact dt_ | (have e_ := (Kd.S_reads' HO_0.out).1; omega))
     obtain ⟨ve124_2, rfl, ge124_2⟩ := gW hMe124
     have hv124_2 := hcc124 2 _ rfl
     rw [add_field _ _ 2 (by omega)] at hv124_2
     replace hv124_2 := Option.some.inj (hv124_2.symm.trans hx124_2)
     rw [hv124_2] at ge124_2
     have HL124_2 := am_ (show Kd.R (Kd.int .i64) 3 _ _ _ _ ((bV l0 (ji11)).f2) from ge124_2)
     clear hv124_2 ge124_2
     clear hcc124 hce124
     have HR124_2 := am_ hi124_2
     have HC124_2 := am_ hl124_2
     clear hi124_2 hl124_2
     replace p124 := eq_true p124
     replace q124 := eq_true q124
     have bz19 := bc3_ BK123
     have p125 : 0 ≤ ((ji11) : Int) := dt_
     have q125 : (ji11) < (l0.length : Int) := dt_
     obtain ⟨ad125, A125_2, c125_2, e125, hx125_0, hx125_1, hx125_2, hl125_2, hi125_2⟩ := kU (Kd.S_reads' HO_0.out).2.2 (ji11) p125 q125
     obtain rfl : ad124 = ad125 := (by injection e125)
     obtain ⟨ce125, hce125, hMe125, hcc125⟩ := Kd.S_get HO_0.out z118 (ji11) p125 (by first | exact q125 | exact dt_ | (have e_ := (Kd.S_reads' HO_0.out).1; omega))
     obtain ⟨ve125_2, rfl, ge125_2⟩ := gW hMe125
     have hv125_2 := hcc125 2 _ rfl
     rw [add_field _ _ 2 (by omega)] at hv125_2
     replace hv125_2 := Option.some.inj (hv125_2.symm.trans hx125_2)
     rw [hv125_2] at ge125_2
     have HL125_2 := am_ (show Kd.R (Kd.int .i64) 3 _ _ _ _ ((bV l0 (ji11)).f2) from ge125_2)
     clear hv125_2 ge125_2
     clear hcc125 hce125
     have HR125_2 := am_ hi125_2
     have HC125_2 := am_ hl125_2
     clear hi125_2 hl125_2
     replace p125 := eq_true p125
     replace q125 := eq_true q125
     have ea_ := Option.some.inj (hx124_2.symm.trans hx125_2)
     injection ea_ with ea_ en_ ec_
     subst ea_
     subst ec_
     clear en_
     go_wp2_with (fail)
     repeat (go_quiet (first | (go_at_call 129; refine (dH.calls kj2 _ _ ((bV l0 (ji11)).f2) _ _ l1_2 true _ (gw_ HG.out) (by repeat (first | exact (by repeat (first | (with_reducible exact HR125_2.out) | (with_reducible refine Kd.C_alloc ?_ _) | (with_reducible refine Kd.C_drewN ?_ _) | (with_reducible refine Kd.C_drew ?_) | exact HR125_2.out)) | (with_reducible refine Kd.C_alloc ?_ _) | (with_reducible refine Kd.C_drewN ?_ _) | (with_reducible refine Kd.C_drew ?_))) HC125_2.out (cb_ (Kd.R_reads' HO_124002.out).2.2) ((Kd.R_reads' HO_124002.out).2.1) A15.out).mono ?_; rintro e w' ⟨rfl, ⟨nd, rfl⟩⟩; (try first | exact ⟨rfl, _, World.drewN_drewN _ _ _⟩ | exact ⟨rfl, _, Eq.trans (World.drewN_drewN _ _ _) (congrArg (World.drewN _) (Nat.add_assoc _ _ _))⟩); have p17 : 0 ≤ ((ji11) : Int) := dt_; have q17 : ((ji11) : Int) < ((l0.length : Int) : Int) := dt_; obtain ⟨go17, co17, eo17, gb17, gl17, cl17, HG17⟩ := Kd.S_form HO_0.out (by omega); (first | cases eo17 | (injection eo17 with ea_ en_ ec_; (first | subst ea_ | (injection ea_ with ea_; subst ea_)); subst ec_; clear en_)); have GB17 := am_ gb17; have GG17 := am_ HG17; clear gb17 gl17 HG17; have HMgo17 := am_ (show ((P0_ go17 ∨ P1_2_ go17) ∨ w.heap.size ≤ go17) from ((Kd.S_R HO_0.out).1 _ rfl).1); (first | simp only [add_plain] at hx124_0 | skip); (first | simp only [add_plain] at hx124_1 | skip); (first | simp only [add_plain] at hx124_2 | skip); (first | simp only [add_plain] at hx125_0 | skip); (first | simp only [add_plain] at hx125_1 | skip); (first | simp only [add_plain] at hx125_2 | skip); obtain ⟨_, ce17, hcl17, hM17, hcc17, hfr17, _, _⟩ := Kd.S_elem HO_0.out z118 ((ji11) : Int) p17 q17; obtain ⟨ve17_2, rfl, ge17_2⟩ := gW hM17; have hx17_0 : wc.cell? ⟨go17, ((ji11) : Int).toNat * 3, none⟩ = some (.int .i64 ((bV l0 (ji11)).f0)) := hcc17 0 _ rfl; have hx17_1 : wc.cell? ⟨go17, ((ji11) : Int).toNat * 3 + 1, none⟩ = some (.int .i64 ((bV l0 (ji11)).f1)) := hcc17 1 _ rfl; have hx17_2 : wc.cell? ⟨go17, ((ji11) : Int).toNat * 3 + 2, none⟩ = some (ve17_2) := hcc17 2 _ rfl; have hf17_0 : wc.frozen? ⟨go17, ((ji11) : Int).toNat * 3, none⟩ = false := hfr17 0; have hf17_1 : wc.frozen? ⟨go17, ((ji11) : Int).toNat * 3 + 1, none⟩ = false := hfr17 1; have hf17_2 : wc.frozen? ⟨go17, ((ji11) : Int).toNat * 3 + 2, none⟩ = false := hfr17 2; clear hcl17 hcc17 hfr17 hM17; replace p17 := eq_true p17; replace q17 := eq_true q17; have HX20 := am_ (show Kd.S k118 118 wc w0.heap.size (fun k_ => ((fun k_ => ((P0_ k_ ∨ P1_2_ k_) ∨ w.heap.size ≤ k_) ∧ some k_ ≠ (.slice Ao4 l1_2.length co4 : Value).ownBlock ∧ k_ ≠ gb123)) k_ ∧ ¬ ((fun _ => False)) k_) (.slice (some ⟨go17, 0, none⟩) l0.length co18) l0 from (by (with_reducible repeat (first | apply Kd.S_alloc | apply Kd.S_drewN | apply Kd.S_drew)); exact Kd.S_mono HO_0.out (fun k_ hk => ⟨⟨hk.1, ⟨hk.2.1, hk.2.2⟩⟩, fun e_ => e_⟩))); obtain ⟨oki20, ce20, hcl20, hM20, hcc20, hfr20, hoki20, hH20⟩ := Kd.S_elem HX20.out z118 ((ji11) : Int) (dt_) (by have h_ : ((ji11) : Int) < ((l0.length : Int) : Int) := dt_; first | exact h_ | (have e_ := (Kd.S_reads' HO_0.out).1; omega) | simpa using h_); obtain ⟨ve20_2, rfl, ge20_2⟩ := gW hM20; have HP20 := Kd.S_seg hH20 (dt_) (by have h_ : ((ji11) : Int) < ((l0.length : Int) : Int) := dt_; first | exact h_ | (have e_ := (Kd.S_reads' HO_0.out).1; omega) | simpa using h_) (seg := [.int .i64 a1_1]) (j := 1) (show 2 ≤ 3 from by decide) (x' := (⟨(bV l0 (ji11)).f0, a1_1, (bV l0 (ji11)).f2⟩ : S118)) (kH _ _ _ (⟨(bV l0 (ji11)).f0, a1_1, (bV l0 (ji11)).f2⟩ : S118) (Kd.R_mono ge20_2 (fun _ h_ => Or.inl h_))) (fun _ hk => hk) (fun k_ hk_ => hk_.elim); have hx20_1 := hcc20 1 _ rfl; (try simp only [show (k118).sz = 3 from rfl, Nat.mul_one, Nat.add_zero] at hx20_1); have hf20_1 := hfr20 1; (try simp only [show (k118).sz = 3 from rfl, Nat.mul_one, Nat.add_zero] at hf20_1); clear hcl20 hcc20 hfr20 hM20 hoki20 hH20)); try go_wp2_with (first | ((with_reducible refine gate_store (t := 3) (p := 48) rfl ?_); (try (rw [drewN_self wc]; generalize hq_ : World.drewN wc _ = wc; have n0_ := am_ (Kd.S_at hq_ HO_0.out); have n1_ := am_ (Kd.R_at hq_ HO_124002.out); have n2_ := am_ (Kd.R_at hq_ HL124_2.out); have n3_ := am_ (Kd.R_at hq_ HL125_2.out); have n4_ := am_ (blk_at hq_ BK123.out); have n5_ := am_ (kept_at hq_ HK.out); have n6_ := am_ (below_at hq_ HB.out); clear hq_ HO_0 HO_124002 HL124_2 HL125_2 BK123 HK HB; have HO_0 := n0_; have HO_124002 := n1_; have HL124_2 := n2_; have HL125_2 := n3_; have BK123 := n4_; have HK := n5_; have HB := n6_; clear n0_ n1_ n2_ n3_ n4_ n5_ n6_; (try (have HX20 := am_ (show Kd.S k118 118 wc w0.heap.size (fun k_ => ((fun k_ => ((P0_ k_ ∨ P1_2_ k_) ∨ w.heap.size ≤ k_) ∧ some k_ ≠ (.slice Ao4 l1_2.length co4 : Value).ownBlock ∧ k_ ≠ gb123)) k_ ∧ ¬ ((fun _ => False)) k_) (.slice (some ⟨go17, 0, none⟩) l0.length co18) l0 from (by (with_reducible repeat (first | apply Kd.S_alloc | apply Kd.S_drewN | apply Kd.S_drew)); exact Kd.S_mono HO_0.out (fun k_ hk => ⟨⟨hk.1, ⟨hk.2.1, hk.2.2⟩⟩, fun e_ => e_⟩))))); (try (obtain ⟨oki20, ce20, hcl20, hM20, hcc20, hfr20, hoki20, hH20⟩ := Kd.S_elem HX20.out z118 ((ji11) : Int) (dt_) (by have h_ : ((ji11) : Int) < ((l0.length : Int) : Int) := dt_; first | exact h_ | (have e_ := (Kd.S_reads' HO_0.out).1; omega) | simpa using h_))); (try (obtain ⟨ve20_2, rfl, ge20_2⟩ := gW hM20)); (try (have HP20 := Kd.S_seg hH20 (dt_) (by have h_ : ((ji11) : Int) < ((l0.length : Int) : Int) := dt_; first | exact h_ | (have e_ := (Kd.S_reads' HO_0.out).1; omega) | simpa using h_) (seg := [.int .i64 a1_1]) (j := 1) (show 2 ≤ 3 from by decide) (x' := (⟨(bV l0 (ji11)).f0, a1_1, (bV l0 (ji11)).f2⟩ : S118)) (kH _ _ _ (⟨(bV l0 (ji11)).f0, a1_1, (bV l0 (ji11)).f2⟩ : S118) (Kd.R_mono ge20_2 (fun _ h_ => Or.inl h_))) (fun _ hk => hk) (fun k_ hk_ => hk_.elim))); (try (have hx20_1 := hcc20 1 _ rfl)); (try (try simp only [show (k118).sz = 3 from rfl, Nat.mul_one, Nat.add_zero] at hx20_1)); (try (have hf20_1 := hfr20 1)); (try (try simp only [show (k118).sz = 3 from rfl, Nat.mul_one, Nat.add_zero] at hf20_1)); (try (clear hcl20 hcc20 hfr20 hM20 hoki20 hH20)))); refine store_event (t := 3) (p := 48) (v := ?vo_w21) (w1 := (wc.setCell ⟨go17, ((ji11) : Int).toNat * 3 + 1, none⟩ (.int .i64 a1_1))) ?hg ?ho ?hn ?hr ?_; (case ho => rfl); (case hg => rfl); (case hn => rfl); (case hr => first | (go_simp; done) | (go_simp; rfl)); intro w21 hw; have hg : wc.grownBy w21 (some go17) := (by rw [hw]; exact HP20.2); have hp_ : Kd.S k118 118 w21 w0.heap.size (fun k_ => ((P0_ k_ ∨ P1_2_ k_) ∨ w.heap.size ≤ k_) ∧ some k_ ≠ (.slice Ao4 l1_2.length co4 : Value).ownBlock ∧ k_ ≠ gb123) (.slice (some ⟨go17, 0, none⟩) l0.length co18) y127 := (by rw [hw, Ny127.out]; exact HP20.1); clear HP20; have n0_ := am_ (hp_); have n1_ := am_ (Kd.R_over' (v := (.slice (some ⟨go17, 0, none⟩) l0.length co18)) (rr_ HO_124002) (Kd.S_typed HO_0.out) (by decide) hg); have n2_ := am_ (blk_grown (g := gb123) (o := .cells #[.int .i64 a1_0, .int .i64 a1_1, .slice Ao4 l1_2.length co4] 118 (0, 0)) (bk_ BK123) hg (Kd.S_away HO_0.out (fun _ hk => hk.2.2))); have n3_ := am_ (Kd.R_after (v := (.slice (some ⟨go17, 0, none⟩) l0.length co18)) (v1 := (.slice (some ⟨go17, 0, none⟩) l0.length co18)) (ok := (fun k_ => ((P0_ k_ ∨ P1_2_ k_) ∨ w.heap.size ≤ k_) ∧ some k_ ≠ (.slice Ao4 l1_2.length co4 : Value).ownBlock ∧ k_ ≠ gb123)) (rr_ HL124_2) hg (.inl rfl)); have n4_ := am_ (Kd.R_after (v := (.slice (some ⟨go17, 0, none⟩) l0.length co18)) (v1 := (.slice (some ⟨go17, 0, none⟩) l0.length co18)) (ok := (fun k_ => ((P0_ k_ ∨ P1_2_ k_) ∨ w.heap.size ≤ k_) ∧ some k_ ≠ (.slice Ao4 l1_2.length co4 : Value).ownBlock ∧ k_ ≠ gb123)) (rr_ HL125_2) hg (.inl rfl)); have n5_ := am_ ((by rw [hw]; exact below_set (HB.out) GB17.out : Below w0.heap.size w0 w21)); have n6_ := am_ (Kept.of_grown (S := (fun k_ => P0_ k_ ∨ P1_2_ k_)) hg (by repeat (first | (with_reducible first | exact HK.out | apply Kept.alloc | apply Kept.drewN | apply Kept.drew | refine Kept.setCell ?_ (.inr GW123.out) _) | exact HK.out)) (fun k_ e_ => ((Kd.S_R HO_0.out).1 k_ e_).1)); clear HO_0; clear HO_124002; clear BK123; clear HL124_2; clear HL125_2; clear HB; clear HK; have HO_0 := n0_; have HO_124002 := n1_; have BK123 := n2_; have HL124_2 := n3_; have HL125_2 := n4_; have HB := n5_; have HK := n6_; clear n0_ n1_ n2_ n3_ n4_ n5_ n6_; clear hg hw hp_)))
     go_ret
     exact ⟨_, by first | rfl | (simp [dO, dQ] <;> rfl) | (simp only [← hji11]; first | rfl | (simp [dO, dQ] <;> rfl)) | (simp [*, dO, dQ] <;> rfl), by (with_reducible repeat (first | apply Kd.S_alloc | apply Kd.S_drewN | apply Kd.S_drew)); exact Kd.S_mono HO_0.out (fun _ hk => hk.1), bl_, by repeat (first | (with_reducible first | exact HK.out | apply Kept.alloc | apply Kept.drewN | apply Kept.drew | refine Kept.setCell ?_ (.inr GW123.out) _) | exact HK.out)⟩
   obtain rfl := bf_ c16
   clear c16
   rw [if_neg ft_] at H
   obtain ⟨LMc22, H⟩ := ifa_ H
   obtain ⟨y128, hy128⟩ : ∃ y_ : List (S118), y_ = (l0 ++ [(⟨a1_0, a1_1, l1_2⟩ : S118)]) := ⟨_, rfl⟩
   replace H : (some y128) = some r := by rw [hy128]; with_reducible exact H
   have Ny128 := am_ hy128
   clear hy128
   obtain rfl := sj_ H
   obtain ⟨Ao23, co23, eo23⟩ := Kd.S_slice HO_0.out
   subst eo23
   have p124 : 0 ≤ ((ji11) : Int) := dt_
   have q124 : (ji11) < (l0.length : Int) := dt_
   obtain ⟨ad124, A124_2, c124_2, e124, hx124_0, hx124_1, hx124_2, hl124_2, hi124_2⟩ := kU (Kd.S_reads' HO_0.out).2.2 (ji11) p124 q124
   cases e124
   obtain ⟨ce124, hce124, hMe124, hcc124⟩ := Kd.S_get HO_0.out z118 (ji11) p124 (by first | exact q124 | exact dt_ | (have e_ := (Kd.S_reads' HO_0.out).1; omega))
   obtain ⟨ve124_2, rfl, ge124_2⟩ := gW hMe124
   have hv124_2 := hcc124 2 _ rfl
   rw [add_field _ _ 2 (by omega)] at hv124_2
   replace hv124_2 := Option.some.inj (hv124_2.symm.trans hx124_2)
   rw [hv124_2] at ge124_2
   have HL124_2 := am_ (show Kd.R (Kd.int .i64) 3 _ _ _ _ ((bV l0 (ji11)).f2) from ge124_2)
   clear hv124_2 ge124_2
   clear hcc124 hce124
   have HR124_2 := am_ hi124_2
   have HC124_2 := am_ hl124_2
   clear hi124_2 hl124_2
   replace p124 := eq_true p124
   replace q124 := eq_true q124
   have bz24 := bc3_ BK123
   have p125 : 0 ≤ ((ji11) : Int) := dt_
   have q125 : (ji11) < (l0.length : Int) := dt_
   obtain ⟨ad125, A125_2, c125_2, e125, hx125_0, hx125_1, hx125_2, hl125_2, hi125_2⟩ := kU (Kd.S_reads' HO_0.out).2.2 (ji11) p125 q125
   obtain rfl : ad124 = ad125 := (by injection e125)
   obtain ⟨ce125, hce125, hMe125, hcc125⟩ := Kd.S_get HO_0.out z118 (ji11) p125 (by first | exact q125 | exact dt_ | (have e_ := (Kd.S_reads' HO_0.out).1; omega))
   obtain ⟨ve125_2, rfl, ge125_2⟩ := gW hMe125
   have hv125_2 := hcc125 2 _ rfl
   rw [add_field _ _ 2 (by omega)] at hv125_2
   replace hv125_2 := Option.some.inj (hv125_2.symm.trans hx125_2)
   rw [hv125_2] at ge125_2
   have HL125_2 := am_ (show Kd.R (Kd.int .i64) 3 _ _ _ _ ((bV l0 (ji11)).f2) from ge125_2)
   clear hv125_2 ge125_2
   clear hcc125 hce125
   have HR125_2 := am_ hi125_2
   have HC125_2 := am_ hl125_2
   clear hi125_2 hl125_2
   replace p125 := eq_true p125
   replace q125 := eq_true q125
   have ea_ := Option.some.inj (hx124_2.symm.trans hx125_2)
   injection ea_ with ea_ en_ ec_
   subst ea_
   subst ec_
   clear en_
   go_wp2_with (fail)
   repeat (go_quiet (first | (go_at_call 129; refine (dH.calls kj2 _ _ ((bV l0 (ji11)).f2) _ _ l1_2 false _ (gw_ HG.out) (by repeat (first | exact (by repeat (first | (with_reducible exact HR125_2.out) | (with_reducible refine Kd.C_alloc ?_ _) | (with_reducible refine Kd.C_drewN ?_ _) | (with_reducible refine Kd.C_drew ?_) | exact HR125_2.out)) | (with_reducible refine Kd.C_alloc ?_ _) | (with_reducible refine Kd.C_drewN ?_ _) | (with_reducible refine Kd.C_drew ?_))) HC125_2.out (cb_ (Kd.R_reads' HO_124002.out).2.2) ((Kd.R_reads' HO_124002.out).2.1) A15.out).mono ?_; rintro e w' ⟨rfl, ⟨nd, rfl⟩⟩; (try first | exact ⟨rfl, _, World.drewN_drewN _ _ _⟩ | exact ⟨rfl, _, Eq.trans (World.drewN_drewN _ _ _) (congrArg (World.drewN _) (Nat.add_assoc _ _ _))⟩))); try go_wp2_with (first | ((with_reducible refine gate_builtin (b := .append) (xs := #[.tmp 50, .tmp 52]) rfl ?_); at_builtin; refine Kd.S_append k118 (w0 := w0) w0.heap.size rfl (.tmp 50) (.tmp 52) 83 118 (.agg #[(.int .i64 0), (.int .i64 0), (.slice none 0 0)]) 40 rfl Tryz.underlying83 info118 rfl (by decide) (by omega) (.slice (some ad124) l0.length co23) l0 (⟨a1_0, a1_1, l1_2⟩ : S118) [.int .i64 a1_0, .int .i64 a1_1, .slice Ao4 l1_2.length co4] (fun k_ => ((P0_ k_ ∨ P1_2_ k_) ∨ w.heap.size ≤ k_) ∧ k_ ≠ gb123) (fun k_ => some k_ = (.slice Ao4 l1_2.length co4 : Value).ownBlock) rfl rfl ?aP (fun k_ hk_ => ((Kd.R_mono (ok' := fun k_ => ((fun k_ => ((P0_ k_ ∨ P1_2_ k_) ∨ w.heap.size ≤ k_) ∧ k_ ≠ gb123)) k_ ∧ some k_ ≠ (.slice (some ad124) l0.length co23 : Value).ownBlock) (Kd.R_types (Kd.R_apart' (HO_124002.out) (Kd.S_typed HO_0.out) (by decide)) BK123.out (by decide)) (fun k_ hk => ⟨⟨hk.1.1, hk.2⟩, hk.1.2⟩))).1 k_ hk_.symm) ?aF ?aO ?aB ?aS ?aL ?_; (case aP => exact kH _ _ _ (⟨a1_0, a1_1, l1_2⟩ : S118) (Kd.R_mono (Kd.R_tight rfl (Kd.R_mono (ok' := fun k_ => ((fun k_ => ((P0_ k_ ∨ P1_2_ k_) ∨ w.heap.size ≤ k_) ∧ k_ ≠ gb123)) k_ ∧ some k_ ≠ (.slice (some ad124) l0.length co23 : Value).ownBlock) (Kd.R_types (Kd.R_apart' (HO_124002.out) (Kd.S_typed HO_0.out) (by decide)) BK123.out (by decide)) (fun k_ hk => ⟨⟨hk.1.1, hk.2⟩, hk.1.2⟩))) (fun _ h_ => h_))); (case aB => exact bl_); (case aF => exact (fun k_ hk => ⟨(.inr (Nat.le_trans (by first | exact HK.out.1 | exact (show Kept w _ (fun k_ => P0_ k_ ∨ P1_2_ k_) from by repeat (first | (with_reducible first | exact HK.out | apply Kept.alloc | apply Kept.drewN | apply Kept.drew | refine Kept.setCell ?_ (.inr GW123.out) _) | exact HK.out)).1) hk)), Kd.freshB (g := gb123) (o := .cells #[.int .i64 a1_0, .int .i64 a1_1, .slice Ao4 l1_2.length co4] 118 (0, 0)) (bk_ BK123) k_ hk⟩)); (case aO => exact (by (with_reducible repeat (first | apply Kd.S_alloc | apply Kd.S_drewN | apply Kd.S_drew)); exact Kd.S_mono HO_0.out (fun k_ hk => ⟨⟨hk.1, hk.2.2⟩, fun e_ => hk.2.1 e_⟩))); (case aS => exact (below_size bl_)); (case aL => have := LMc22.out; omega); intro v129 w25 ho hb hg hat; rw [← Ny128.out] at ho; have n0_ := am_ (blk_grown (g := gb123) (o := .cells #[.int .i64 a1_0, .int .i64 a1_1, .slice Ao4 l1_2.length co4] 118 (0, 0)) (bk_ BK123) hg (Kd.S_away HO_0.out (fun _ hk => hk.2.2))); have n1_ := am_ (Kd.R_after (ok := (fun k_ => ((P0_ k_ ∨ P1_2_ k_) ∨ w.heap.size ≤ k_) ∧ some k_ ≠ (.slice Ao4 l1_2.length co4 : Value).ownBlock ∧ k_ ≠ gb123)) (rr_ HL124_2) hg hat); have n2_ := am_ (Kd.R_after (ok := (fun k_ => ((P0_ k_ ∨ P1_2_ k_) ∨ w.heap.size ≤ k_) ∧ some k_ ≠ (.slice Ao4 l1_2.length co4 : Value).ownBlock ∧ k_ ≠ gb123)) (rr_ HL125_2) hg hat); have n3_ := am_ (hb); have n4_ := am_ (Kept.of_grown (S := (fun k_ => P0_ k_ ∨ P1_2_ k_)) hg (by repeat (first | (with_reducible first | exact HK.out | apply Kept.alloc | apply Kept.drewN | apply Kept.drew | refine Kept.setCell ?_ (.inr GW123.out) _) | exact HK.out)) (fun k_ e_ => ((Kd.S_R HO_0.out).1 k_ e_).1)); have n5_ := am_ (ho); clear BK123; clear HL124_2; clear HL125_2; clear HB; clear HK; clear HO_0; clear HO_124002; have BK123 := n0_; have HL124_2 := n1_; have HL125_2 := n2_; have HB := n3_; have HK := n4_; have HO130 := n5_; clear n0_ n1_ n2_ n3_ n4_ n5_; clear ho hb hg hat)))
   go_ret
   exact ⟨_, by first | rfl | (simp [dO, dQ] <;> rfl) | (simp only [← hji11]; first | rfl | (simp [dO, dQ] <;> rfl)) | (simp [*, dO, dQ] <;> rfl), by (with_reducible repeat (first | apply Kd.S_alloc | apply Kd.S_drewN | apply Kd.S_drew)); exact Kd.S_mono HO130.out (fun _ hk => hk.1), bl_, by repeat (first | (with_reducible first | exact HK.out | apply Kept.alloc | apply Kept.drewN | apply Kept.drew | refine Kept.setCell ?_ (.inr GW123.out) _) | exact HK.out)⟩
def jH.f (a0_0 : Int) (a0_1 : Int) (a0_2 : Int) (a0_3 : Int) (a1_0 : Int) (a1_1 : Int) (a1_2 : Int) (a1_3 : Int) : Option (Int) := some (wrap64 (a0_0 - a1_0))
theorem jH.calls (a0_0 : Int) (a0_1 : Int) (a0_2 : Int) (a0_3 : Int) (a1_0 : Int) (a1_1 : Int) (a1_2 : Int) (a1_3 : Int) (r : Int) (w : World) (hG : Tryz.GW w) (h : jH.f a0_0 a0_1 a0_2 a0_3 a1_0 a1_1 a1_2 a1_3 = some r) :
 Calls Tryz.prog 130 #[.agg #[.int .i64 a0_0, .int .i64 a0_1, .int .i64 a0_2, .int .i64 a0_3], .agg #[.int .i64 a1_0, .int .i64 a1_1, .int .i64 a1_2, .int .i64 a1_3]] w fun e w' => e = .returned (.int .i64 r) ∧ Below w.heap.size w w' := by
 have hu44 := Tryz.underlying44
 have HG := am_ hG
 clear hG
 have HB := am_ (Below.refl w.heap.size w)
 have H : (some (wrap64 (a0_0 - a1_0))) = some r := h
 clear h
 obtain rfl := sj_ H
 go_enter Tryz.func130, Tryz.ntmps130
 go_wp2_with (first | ((with_reducible refine gn_ 2 rfl ?_); refine bq_ (N := 2) (cs := #[.int .i64 a0_0, .int .i64 a0_1, .int .i64 a0_2, .int .i64 a0_3]) (t := 44) ?_; intro gb137 hg w3 BK137 hb; have GW137 := ga_ w hg; have GE137 := GW137; replace HB := bp_ hb; clear hb hg) | ((with_reducible refine gn_ 3 rfl ?_); refine bq_ (N := 3) (cs := #[.int .i64 a1_0, .int .i64 a1_1, .int .i64 a1_2, .int .i64 a1_3]) (t := 44) ?_; intro gb138 hg w4 BK138 hb; have GW138 := ga_ w hg; have GE138 := GW138; have NB137_138 := am_ ((nl_ hg BK137 : gb137 ≠ gb138)); have NB138_137 := am_ ((ng_ hg BK137 : gb138 ≠ gb137)); replace BK137 := bb_ BK137 hb; replace HB := bp_ hb; clear hb hg; have hnb5 := NB137_138.out; have hnc5 := NB138_137.out; have bz6 := bc4_ BK137; have bz7 := bc4_ BK138))
 go_ret
 exact ⟨er_, bl_⟩
def aA.Ok (x : S44) : Prop := -4611686018427387904 ≤ x.f0 ∧ x.f0 < 4611686018427387904
instance (x : S44) : Decidable (aA.Ok x) := by unfold aA.Ok; infer_instance
structure aA.E where
 v : S44
 ok : aA.Ok v
instance : Inhabited aA.E := ⟨⟨z44, by decide⟩⟩
def aA.enc (x : aA.E) : List Value := [.int .i64 x.v.f0, .int .i64 x.v.f1, .int .i64 x.v.f2, .int .i64 x.v.f3]
def aA.cf (x y : aA.E) : Int := x.v.f0 - y.v.f0
def aA.row (l : List S44) (h : ∀ x ∈ l, aA.Ok x) : List aA.E := l.pmap aA.E.mk h
def aA.f (l0 : List S44) : Option (List S44) := if h : (∀ x ∈ l0, aA.Ok x) ∧ l0.length < 4611686018427387904 then some (if l0.length = 0 then [] else ((Sort.pdq (ltOf aA.cf) (aA.row l0 h.1).toArray 0 l0.length (Lib.bitLen l0.length) true true).toList.map aA.E.v)) else none
theorem aA.swo : Sort.SWO (ltOf aA.cf) where
 irrefl x := decide_eq_false (by unfold aA.cf; omega)
 trans x y z h1 h2 := decide_eq_true (by
  have h1 := of_decide_eq_true h1
  have h2 := of_decide_eq_true h2
  unfold aA.cf at *; omega)
 ntrans x y z h1 h2 := decide_eq_false (by
  have h1 := of_decide_eq_false h1
  have h2 := of_decide_eq_false h2
  unfold aA.cf at *; omega)
theorem aA.cmp (x y : aA.E) (W : World) : Calls Tryz.prog 130 #[.agg (aA.enc x).toArray, .agg (aA.enc y).toArray] W fun e w' => e = .returned (.int .i64 (aA.cf x y)) ∧ ∃ q os', w' = Sort.grow (W.drewN q) os' := by
 obtain ⟨⟨x0, x1, x2, x3⟩, hx⟩ := x
 obtain ⟨⟨y0, y1, y2, y3⟩, hy⟩ := y
 have hw : wrap64 (x0 - y0) = x0 - y0 := by have hx := hx; have hy := hy; unfold aA.Ok at hx hy; simp only at hx hy; unfold wrap64; omega
 show Calls Tryz.prog 130 #[.agg #[.int .i64 x0, .int .i64 x1, .int .i64 x2, .int .i64 x3], .agg #[.int .i64 y0, .int .i64 y1, .int .i64 y2, .int .i64 y3]] W fun e w' => e = .returned (.int .i64 (x0 - y0)) ∧ _
 rw [← hw]
 have hu44 := Tryz.underlying44
 go_enter Tryz.func130, Tryz.ntmps130
 go_wp2
 go_ret
 exact ⟨rfl, 0, _, by rw [Sort.alloc_eq_grow, Sort.alloc_eq_grow, Sort.grow_grow]; rfl⟩
theorem aA.flat (l : List aA.E) : ∃ cs, cs = l.flatMap aA.enc ∧ ∀ (w : World) (base : Nat) (ok : Nat → Prop), Reps (k44.M w base ok) 4 (l.map aA.E.v) cs := by
 refine ⟨_, rfl, fun w base ok => ⟨?_, fun j p hj => ?_⟩⟩
 · rw [YthkeonbmgcphkaaGreatDoorSort.flat_length aA.enc 4 (fun _ => rfl)]; simp
 rw [List.getElem?_map] at hj
 obtain ⟨x, hx, rfl⟩ := Option.map_eq_some_iff.1 hj
 have : ((l.flatMap aA.enc).drop (j * 4)).take 4 = aA.enc x := by
  have hlt := (List.getElem?_eq_some_iff.1 hx).1
  apply List.ext_getElem?
  intro t
  by_cases ht : t < 4
  · rw [List.getElem?_take_of_lt ht, List.getElem?_drop, YthkeonbmgcphkaaGreatDoorSort.flat_get aA.enc 4 (fun _ => rfl) l _ (by omega)]
    rw [show (j * 4 + t) / 4 = j by omega, show (j * 4 + t) % 4 = t by omega, getElem!_pos _ j hlt, (List.getElem?_eq_some_iff.1 hx).2, getElem!_pos _ t (by exact ht), List.getElem?_eq_getElem]
    all_goals first | rfl | exact ht
  rw [List.getElem?_eq_none (by rw [List.length_take]; omega), List.getElem?_eq_none (by show 4 ≤ t; omega)]
 rw [this]
 exact kR w base ok x.v
theorem aA.calls (P0_ : Nat → Prop) (u9000_ : Value) (l0 : List S44)  (r : List S44) (w0 w : World) (hG : Tryz.GW w0) (hB : Below w0.heap.size w0 w) (ho0 : Kd.R k44 44 w w0.heap.size P0_ u9000_ l0) (h : aA.f l0 = some r) :
 Calls Tryz.prog 87 #[u9000_, .func (.func 130) #[] #[]] w fun e w' => e = .returned (.tuple #[]) ∧ Kd.R k44 44 w' w0.heap.size (fun k_ => (P0_ k_ ∨ w.heap.size ≤ k_)) u9000_ r ∧ Below w0.heap.size w0 w' ∧ Kept w w' (fun k_ => P0_ k_) := by
 unfold aA.f at h
 split at h
 · rename_i hc
   obtain rfl := Option.some.inj h
   by_cases hz : l0.length = 0
   · obtain rfl : l0 = [] := List.length_eq_zero_iff.1 hz
     obtain ⟨A, c, rfl⟩ := Kd.R_slice ho0
     exact (Tryz.sortRects_none A c _ w).mono fun e w' ⟨he, hw⟩ => by
      subst hw
      exact ⟨he, by simpa using Kd.R_mono ho0 (fun k hk => .inl hk), hB, Kept.refl _ _⟩
   rw [if_neg hz]
   obtain ⟨g, cap, rfl, hbase, hlt, _⟩ := Kd.R_form ho0 (by omega)
   obtain ⟨hok, inner, ho, hr⟩ := ho0
   obtain ⟨cs, rfl, hM⟩ := aA.flat (aA.row l0 hc.1)
   have hval : (aA.row l0 hc.1).map aA.E.v = l0 := by simp [aA.row, List.map_pmap]
   have hlen : (aA.row l0 hc.1).length = l0.length := by simp [aA.row]
   have hin : inner = (aA.row l0 hc.1).flatMap aA.enc := by
    have h1 := hM w w0.heap.size (fun k => P0_ k ∧ some k ≠ (Value.slice (some ⟨g, 0, none⟩) l0.length cap).ownBlock)
    rw [hval] at h1
    apply List.ext_getElem?
    intro t
    by_cases ht : t < l0.length * 4
    · have hj : t / 4 < l0.length := by omega
      have e1 := jD (hr.2 (t / 4) _ (List.getElem?_eq_getElem hj))
      have e2 := jD (h1.2 (t / 4) _ (List.getElem?_eq_getElem hj))
      have e3 := congrArg (fun l => l[t % 4]?) (e1.trans e2.symm)
      replace e3 : ((List.drop (t / 4 * k44.sz) inner).take k44.sz)[t % 4]? = ((List.drop (t / 4 * 4) ((aA.row l0 hc.1).flatMap aA.enc)).take 4)[t % 4]? := e3
      have hm : t % 4 < 4 := Nat.mod_lt _ (by decide)
      rw [show k44.sz = 4 from rfl, List.getElem?_take_of_lt hm, List.getElem?_take_of_lt hm, List.getElem?_drop, List.getElem?_drop, show t / 4 * 4 + t % 4 = t by omega] at e3
      exact e3
    have l1 := hr.1
    have l2 := h1.1
    rw [show k44.sz = 4 from rfl] at l1
    rw [List.getElem?_eq_none (by omega), List.getElem?_eq_none (by omega)]
   subst hin
   clear hr
   have hn : l0.length < 4611686018427387904 := hc.2
   clear h hM hval
   generalize aA.row l0 hc.1 = R at hlen ho ⊢
   generalize l0.length = n at *
   have ho4 : w.ownsRow w0.heap.size 44 4 (.slice (some ⟨g, 0, none⟩) n cap) n (R.flatMap aA.enc) := ho
   clear ho
   have hH : Sort.HoldsK aA.enc 4 w g 0 R.toArray := YthkeonbmgcphkaaGreatDoorSort.iR (enc := aA.enc) (fun _ => rfl) ho4 hlen
   have eg : ∀ args w, (callFunc 130 args).run Tryz.prog w = .ok (.enter 130 args) w := enters_of Tryz.func130 (by kernel_rfl) rfl
   have hsz1 : R.toArray.size = n := by simpa using hlen
   have hcall := Tryz.sortRects aA.enc (fun _ => rfl) (fun x v hv => by simp [aA.enc] at hv; rcases hv with rfl | rfl | rfl | rfl <;> rfl) aA.cf aA.swo 130 g 0 cap R.toArray w eg (fun _ _ _ _ x y => aA.cmp x y _) hH hlt (by rw [hsz1]; exact hn)
   rw [hsz1] at hcall
   have hsz : (Sort.pdq (ltOf aA.cf) R.toArray 0 n (Lib.bitLen n) true true).size = n := by
    have := (Sort.pdq_sorts (ltOf aA.cf) aA.swo R.toArray 0 n (Lib.bitLen n) true true (Nat.zero_le _) (Nat.le_of_eq hsz1.symm) (Or.inl rfl)).1.1
    exact this.trans hsz1
   generalize Sort.pdq (ltOf aA.cf) R.toArray 0 n (Lib.bitLen n) true true = d at hcall hsz ⊢
   refine hcall.mono fun e w' ⟨he, m, os, hw⟩ => ?_
   subst hw
   have ho5 := YthkeonbmgcphkaaGreatDoorSort.kL (enc := aA.enc) (k := 4) (m := m) (d := d) (os := os) (fun _ => rfl) ho4 hsz
   have hl5 : (d.toList.map aA.E.v).length = n := by simp [hsz]
   refine ⟨he, ⟨fun k hk => .inl (hok k hk), d.toList.flatMap aA.enc, ?_, ?_⟩, YthkeonbmgcphkaaGreatDoorSort.jO hB hB.size hbase, YthkeonbmgcphkaaGreatDoorSort.jY (hok g rfl)⟩
   · rw [hl5]
     exact ho5
   obtain ⟨cs2, hcs2, hM2⟩ := aA.flat d.toList
   rw [← hcs2]; exact hM2 _ _ _
 cases h
end Go.Proofs.YthkeonbmgcphkaaGreatDoor.PN
