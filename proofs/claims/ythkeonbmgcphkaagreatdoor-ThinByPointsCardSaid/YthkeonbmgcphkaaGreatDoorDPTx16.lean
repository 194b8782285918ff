-- Written by this session's own programs (wip/tools).
import Derived.Test.YthkeonbmgcphkaaGreatDoorDPTx0
import Derived.Test.YthkeonbmgcphkaaGreatDoorDPTx10
import Derived.Test.YthkeonbmgcphkaaGreatDoorDPTx14
import Derived.Test.YthkeonbmgcphkaaGreatDoorDPTx15
namespace Go.Proofs.YthkeonbmgcphkaaGreatDoor.PT
open Go.RowKit Go.Proofs.YthkeonbmgcphkaaGreatDoorW.PrintWords Go.Proofs.YthkeonbmgcphkaaGreatDoorW.PrintLast Go.Proofs.YthkeonbmgcphkaaGreatDoorW.PrintMore
attribute [local go_sem] max2_int min2_int max_two min_two max_three min_three max_four min_four
set_option linter.unusedVariables false
set_option linter.unusedSimpArgs false
mutual
def etchhouselaw6_ThinByPoints.j0 : Nat → List (S44) → Int → List (S44) → Int → Bool → Int → Int → Int → Int → Option (Bool)
  | 0, _, _, _, _, _, _, _, _, _ => none
  | k + 1, x0, x1, x9, x10, x49, x338000, x338001, x339000, x339001 => if x49 = true then (if x10 = 0 then ((etchhouselaw6_awake.f k).bind fun t343 => (some t343)) else (if (x9.length : Int) = 0 then ((etchhouselaw6_awake.f k).bind fun t344 => (some t344)) else (some false))) else ((shape_Minus.f k (([(⟨x338000, x338001, wrap64 (x338000 + x1), wrap64 (x338001 + x1)⟩ : S44)] : List (S44))) x0).bind fun bt348 => (if bt348.2 = 0 then (if (bt348.1.length : Int) > 0 then (etchhouselaw6_ThinByPoints.j1 k x9 true x339000 x339001) else (if x339000 < x338000 then (etchhouselaw6_ThinByPoints.j1 k x9 true x339000 x339001) else (if x339001 < x338001 then (etchhouselaw6_ThinByPoints.j1 k x9 true x339000 x339001) else (if x339000 ≥ (wrap64 (x338000 + x1)) then (etchhouselaw6_ThinByPoints.j1 k x9 true x339000 x339001) else (etchhouselaw6_ThinByPoints.j1 k x9 (decide (x339001 ≥ (wrap64 (x338001 + x1)))) x339000 x339001))))) else (etchhouselaw6_ThinByPoints.j1 k x9 true x339000 x339001)))
def etchhouselaw6_ThinByPoints.j1 : Nat → List (S44) → Bool → Int → Int → Option (Bool)
  | 0, _, _, _, _ => none
  | k + 1, x9, x118, x339000, x339001 => if x118 = true then ((etchhouselaw6_awake.f k).bind fun t352 => (some t352)) else ((shape_Has.f k x9 x339000 x339001).bind fun bt353 => (if bt353.2 = 0 then (if bt353.1 = true then (some false) else ((etchhouselaw6_awake.f k).bind fun t355 => (some t355))) else (some false)))
end
def etchhouselaw6_ThinByPoints.f (k : Nat) (l0 : List (S44)) (a1 : Int) (a2_0 : Int) (a2_1 : Int) (a3_0 : Int) (a3_1 : Int) : Option (Bool) := (rules_Thin.f k l0 a1).bind fun bt339 => (if bt339.2 = 0 then (if a1 < 1 then (etchhouselaw6_ThinByPoints.j0 k l0 a1 bt339.1 bt339.2 true a2_0 a2_1 a3_0 a3_1) else (if a2_0 < (-1000000) then (etchhouselaw6_ThinByPoints.j0 k l0 a1 bt339.1 bt339.2 true a2_0 a2_1 a3_0 a3_1) else (if a2_1 < (-1000000) then (etchhouselaw6_ThinByPoints.j0 k l0 a1 bt339.1 bt339.2 true a2_0 a2_1 a3_0 a3_1) else (if a2_0 > (wrap64 (1000000 - a1)) then (etchhouselaw6_ThinByPoints.j0 k l0 a1 bt339.1 bt339.2 true a2_0 a2_1 a3_0 a3_1) else (etchhouselaw6_ThinByPoints.j0 k l0 a1 bt339.1 bt339.2 (decide (a2_1 > (wrap64 (1000000 - a1)))) a2_0 a2_1 a3_0 a3_1))))) else (etchhouselaw6_ThinByPoints.j0 k l0 a1 bt339.1 bt339.2 true a2_0 a2_1 a3_0 a3_1))
set_option maxHeartbeats 8000000 in
set_option maxRecDepth 100000 in
theorem etchhouselaw6_ThinByPoints.calls (k : Nat) (A0 : Option Addr) (c0 : Nat) (l0 : List (S44)) (a1 : Int) (a2_0 : Int) (a2_1 : Int) (a3_0 : Int) (a3_1 : Int) (r : Bool) (w : World) (hG : Tryz.GW w) (hr0 : Kd.C k44 w A0 l0.length l0) (hc0 : l0.length ≤ c0) (h : etchhouselaw6_ThinByPoints.f k l0 a1 a2_0 a2_1 a3_0 a3_1 = some r) :
    Calls Tryz.prog 7 #[.slice A0 l0.length c0, .int .i64 a1, .agg #[.int .i64 a2_0, .int .i64 a2_1], .agg #[.int .i64 a3_0, .int .i64 a3_1]] w fun e w' => e = .returned (.bool r) ∧ Below w.heap.size w w' := by
  have hu33 := Tryz.underlying33
  have hu44 := Tryz.underlying44
  have HR0 := Aside0.mk hr0
  have HC0 := Aside0.mk hc0
  clear hr0 hc0
  have HG := Aside0.mk hG
  clear hG
  have HB := Aside0.mk (Below.refl w.heap.size w)
  have H : ((rules_Thin.f k l0 a1).bind fun bt339 => (if bt339.2 = 0 then (if a1 < 1 then (etchhouselaw6_ThinByPoints.j0 k l0 a1 bt339.1 bt339.2 true a2_0 a2_1 a3_0 a3_1) else (if a2_0 < (-1000000) then (etchhouselaw6_ThinByPoints.j0 k l0 a1 bt339.1 bt339.2 true a2_0 a2_1 a3_0 a3_1) else (if a2_1 < (-1000000) then (etchhouselaw6_ThinByPoints.j0 k l0 a1 bt339.1 bt339.2 true a2_0 a2_1 a3_0 a3_1) else (if a2_0 > (wrap64 (1000000 - a1)) then (etchhouselaw6_ThinByPoints.j0 k l0 a1 bt339.1 bt339.2 true a2_0 a2_1 a3_0 a3_1) else (etchhouselaw6_ThinByPoints.j0 k l0 a1 bt339.1 bt339.2 (decide (a2_1 > (wrap64 (1000000 - a1)))) a2_0 a2_1 a3_0 a3_1))))) else (etchhouselaw6_ThinByPoints.j0 k l0 a1 bt339.1 bt339.2 true a2_0 a2_1 a3_0 a3_1))) = some r := h
  clear h
  replace H := Option.bind_eq_some_iff.mp H
  obtain ⟨⟨t339, t340⟩, A50, H⟩ := H
  try dsimp only at H
  have A5 := Aside0.mk A50
  clear A50
  have HC6 := Aside0.mk H
  clear H
  go_enter Tryz.func7, Tryz.ntmps7
  go_upto_region 2 with (first | ((with_reducible refine gate_dst (N := 6) rfl ?_); (try (refine gate_guard (by rfl) ?_; dsimp only)); refine bx_ (N := 6) (cs := #[.int .i64 a2_0, .int .i64 a2_1]) (t := 33) ?_; intro gb337 hg w7 hbox hb; have BK337 := Aside0.mk (hbox); have GW337 := Aside0.mk ((gs_ hg : w.heap.size ≤ gb337)); have GE337 := Aside0.mk ((gs_ hg : w.heap.size ≤ gb337)); replace HB := Aside0.mk (below_step bl_ hb); clear hb hbox hg) | ((with_reducible refine gate_dst (N := 7) rfl ?_); (try (refine gate_guard (by rfl) ?_; dsimp only)); refine bx_ (N := 7) (cs := #[.int .i64 a3_0, .int .i64 a3_1]) (t := 33) ?_; intro gb338 hg w8 hbox hb; have BK338 := Aside0.mk (hbox); have GW338 := Aside0.mk ((gs_ hg : w.heap.size ≤ gb338)); have GE338 := Aside0.mk ((gs_ hg : w.heap.size ≤ gb338)); have NB337_338 := Aside0.mk ((nl_ hg BK337 : gb337 ≠ gb338)); have NB338_337 := Aside0.mk ((ng_ hg BK337 : gb338 ≠ gb337)); replace BK337 := bb_ BK337 hb; replace HB := Aside0.mk (below_step bl_ hb); clear hb hbox hg) | ((with_reducible refine gate_callee (f := 19) rfl ?_); refine gl_ (some 17) Tryz.func19 #[.slice A0 l0.length c0, .int .i64 a1] ?_; (with_reducible refine (rules_Thin.calls k _ _ l0 a1 t339 t340 _ ?side1 ?side2 ?side3 A5.out).mono ?_); (case side1 => exact gw_ HG.out); (case side2 => exact cb_ (Kd.C_below HR0.out HB.out)); (case side3 => exact HC0.out); rintro e w9 ⟨v341, rfl, ho0, hb⟩; refine ⟨_, rfl, ?_⟩; have HO342 := Aside0.mk (Kd.R_lower ho0 (below_size bl_)); replace BK337 := bb_ BK337 hb; replace BK338 := bb_ BK338 hb; replace HB := Aside0.mk (below_step bl_ hb); (try clear hb); (try clear hb2); (try clear hk); (try clear hi); (try clear ho0)))
  (try simp only [Act.put, List.setIfInBounds_toArray, List.set_cons_zero, List.set_cons_succ])
  go_cut [49] (fun v49 wc => ∃ (kq : Nat) (x49_5 : Bool), v49 = .bool x49_5 ∧ Aside0 (etchhouselaw6_ThinByPoints.j0 kq l0 a1 t339 t340 x49_5 a2_0 a2_1 a3_0 a3_1 = some r) ∧ Aside0 (kq ≤ k) ∧ Aside0 (Kd.R k44 44 wc w.heap.size (fun _ => True) v341 t339) ∧ Aside0 (wc.heap[gb337]? = some (.cells #[.int .i64 a2_0, .int .i64 a2_1] 33 (0, 0))) ∧ Aside0 (wc.heap[gb338]? = some (.cells #[.int .i64 a3_0, .int .i64 a3_1] 33 (0, 0))) ∧ Aside0 (Below w.heap.size w wc))
  case first =>
    have H := HC6.out
    clear HC6
    by_cases c10 : t340 = 0
    · rw [if_pos c10] at H
      have c10b0 : (t340 == 0) = true := beq_iff_eq.mpr c10
      have c10b1 : (t340 != 0) = false := bne_eq_false_iff_eq.mpr c10
      clear c10
      (first | rw [c10b0] | (simp only [i64_w, i32_w]; rw [c10b0]) | skip)
      by_cases c11 : a1 < 1
      · rw [if_pos c11] at H
        have c11b0 : decide (a1 < 1) = true := decide_eq_true c11
        clear c11
        have H' := Aside0.mk H
        clear H
        go_wp2
        go_meet
        case rel => exact ⟨_, (true), (by first | rfl | (simp; done) | (simp [*]; done)), H', ⟨by first | omega | exact Nat.le_refl _⟩, ⟨by (with_reducible repeat (first | apply Kd.R_alloc | apply Kd.R_drewN | apply Kd.R_drew)); exact HO342.out⟩, ⟨by (with_reducible repeat (first | refine blk_drewN ?_ _ | refine blk_drew ?_ | refine blk_alloc ?_ _)); exact BK337.out⟩, ⟨by (with_reducible repeat (first | refine blk_drewN ?_ _ | refine blk_drew ?_ | refine blk_alloc ?_ _)); exact BK338.out⟩, ⟨bl_⟩⟩
      · rw [if_neg c11] at H
        have c11b0 : decide (a1 < 1) = false := decide_eq_false c11
        clear c11
        by_cases c12 : a2_0 < (-1000000)
        · rw [if_pos c12] at H
          have c12b0 : decide (a2_0 < (-1000000)) = true := decide_eq_true c12
          clear c12
          have H' := Aside0.mk H
          clear H
          have hnb13 := NB337_338.out
          have hnc13 := NB338_337.out
          obtain ⟨hcz14_0, hcz14_1, hfz14_0, hfz14_1⟩ := bc2_ BK337
          go_wp2
          go_meet
          case rel => exact ⟨_, (true), (by first | rfl | (simp; done) | (simp [*]; done)), H', ⟨by first | omega | exact Nat.le_refl _⟩, ⟨by (with_reducible repeat (first | apply Kd.R_alloc | apply Kd.R_drewN | apply Kd.R_drew)); exact HO342.out⟩, ⟨by (with_reducible repeat (first | refine blk_drewN ?_ _ | refine blk_drew ?_ | refine blk_alloc ?_ _)); exact BK337.out⟩, ⟨by (with_reducible repeat (first | refine blk_drewN ?_ _ | refine blk_drew ?_ | refine blk_alloc ?_ _)); exact BK338.out⟩, ⟨bl_⟩⟩
        · rw [if_neg c12] at H
          have c12b0 : decide (a2_0 < (-1000000)) = false := decide_eq_false c12
          clear c12
          by_cases c15 : a2_1 < (-1000000)
          · rw [if_pos c15] at H
            have c15b0 : decide (a2_1 < (-1000000)) = true := decide_eq_true c15
            clear c15
            have H' := Aside0.mk H
            clear H
            have hnb16 := NB337_338.out
            have hnc16 := NB338_337.out
            obtain ⟨hcz17_0, hcz17_1, hfz17_0, hfz17_1⟩ := bc2_ BK337
            go_wp2
            go_meet
            case rel => exact ⟨_, (true), (by first | rfl | (simp; done) | (simp [*]; done)), H', ⟨by first | omega | exact Nat.le_refl _⟩, ⟨by (with_reducible repeat (first | apply Kd.R_alloc | apply Kd.R_drewN | apply Kd.R_drew)); exact HO342.out⟩, ⟨by (with_reducible repeat (first | refine blk_drewN ?_ _ | refine blk_drew ?_ | refine blk_alloc ?_ _)); exact BK337.out⟩, ⟨by (with_reducible repeat (first | refine blk_drewN ?_ _ | refine blk_drew ?_ | refine blk_alloc ?_ _)); exact BK338.out⟩, ⟨bl_⟩⟩
          · rw [if_neg c15] at H
            have c15b0 : decide (a2_1 < (-1000000)) = false := decide_eq_false c15
            clear c15
            by_cases c18 : a2_0 > (wrap64 (1000000 - a1))
            · rw [if_pos c18] at H
              have c18b0 : decide ((wrap64 (1000000 - a1)) < a2_0) = true := decide_eq_true c18
              clear c18
              have H' := Aside0.mk H
              clear H
              have hnb19 := NB337_338.out
              have hnc19 := NB338_337.out
              obtain ⟨hcz20_0, hcz20_1, hfz20_0, hfz20_1⟩ := bc2_ BK337
              go_wp2
              go_meet
              case rel => exact ⟨_, (true), (by first | rfl | (simp; done) | (simp [*]; done)), H', ⟨by first | omega | exact Nat.le_refl _⟩, ⟨by (with_reducible repeat (first | apply Kd.R_alloc | apply Kd.R_drewN | apply Kd.R_drew)); exact HO342.out⟩, ⟨by (with_reducible repeat (first | refine blk_drewN ?_ _ | refine blk_drew ?_ | refine blk_alloc ?_ _)); exact BK337.out⟩, ⟨by (with_reducible repeat (first | refine blk_drewN ?_ _ | refine blk_drew ?_ | refine blk_alloc ?_ _)); exact BK338.out⟩, ⟨bl_⟩⟩
            · rw [if_neg c18] at H
              have c18b0 : decide ((wrap64 (1000000 - a1)) < a2_0) = false := decide_eq_false c18
              clear c18
              have H' := Aside0.mk H
              clear H
              have hnb21 := NB337_338.out
              have hnc21 := NB338_337.out
              obtain ⟨hcz22_0, hcz22_1, hfz22_0, hfz22_1⟩ := bc2_ BK337
              go_wp2
              go_meet
              case rel => exact ⟨_, (decide (a2_1 > (wrap64 (1000000 - a1)))), (by first | rfl | (simp; done) | (simp [*]; done)), H', ⟨by first | omega | exact Nat.le_refl _⟩, ⟨by (with_reducible repeat (first | apply Kd.R_alloc | apply Kd.R_drewN | apply Kd.R_drew)); exact HO342.out⟩, ⟨by (with_reducible repeat (first | refine blk_drewN ?_ _ | refine blk_drew ?_ | refine blk_alloc ?_ _)); exact BK337.out⟩, ⟨by (with_reducible repeat (first | refine blk_drewN ?_ _ | refine blk_drew ?_ | refine blk_alloc ?_ _)); exact BK338.out⟩, ⟨bl_⟩⟩
    · rw [if_neg c10] at H
      have c10b0 : (t340 == 0) = false := beq_eq_false_iff_ne.mpr c10
      have c10b1 : (t340 != 0) = true := bne_iff_ne.mpr c10
      (first | rw [c10b0] | (simp only [i64_w, i32_w]; rw [c10b0]) | skip)
      have H' := Aside0.mk H
      clear H
      go_wp2
      go_meet
      case rel => exact ⟨_, (true), (by first | rfl | (simp; done) | (simp [*]; done)), H', ⟨by first | omega | exact Nat.le_refl _⟩, ⟨by (with_reducible repeat (first | apply Kd.R_alloc | apply Kd.R_drewN | apply Kd.R_drew)); exact HO342.out⟩, ⟨by (with_reducible repeat (first | refine blk_drewN ?_ _ | refine blk_drew ?_ | refine blk_alloc ?_ _)); exact BK337.out⟩, ⟨by (with_reducible repeat (first | refine blk_drewN ?_ _ | refine blk_drew ?_ | refine blk_alloc ?_ _)); exact BK338.out⟩, ⟨bl_⟩⟩
  case rest =>
    clear HC6
    try clear c1
    try clear c2
    try clear p2
    try clear p6
    try clear c7
    try clear c10
    try clear c10b0
    try clear c10b1
    try clear c11
    try clear c11b0
    try clear c12
    try clear c12b0
    try clear c13
    try clear c15
    try clear c15b0
    try clear c16
    try clear c18
    try clear c18b0
    try clear c19
    try clear c21
    try clear hcz14_0
    try clear hcz14_1
    try clear hcz17_0
    try clear hcz17_1
    try clear hcz20_0
    try clear hcz20_1
    try clear hcz22_0
    try clear hcz22_1
    try clear hfz14_0
    try clear hfz14_1
    try clear hfz17_0
    try clear hfz17_1
    try clear hfz20_0
    try clear hfz20_1
    try clear hfz22_0
    try clear hfz22_1
    obtain ⟨kq, x49_5, rfl, HA, HJ5, HO_9, BK337, BK338, HB⟩ := hcut
    cases kq with
    | zero => exact absurd HA.out (by simp [etchhouselaw6_ThinByPoints.j0])
    | succ kj5 =>
      have H := HA.out
      clear HA
      simp only [etchhouselaw6_ThinByPoints.j0] at H
      by_cases c23 : x49_5 = true
      · subst c23
        rw [if_pos rfl] at H
        by_cases c24 : t340 = 0
        · rw [if_pos c24] at H
          have c24b0 : (t340 == 0) = true := beq_iff_eq.mpr c24
          have c24b1 : (t340 != 0) = false := bne_eq_false_iff_eq.mpr c24
          clear c24
          replace H := Option.bind_eq_some_iff.mp H
          obtain ⟨t343, A250, H⟩ := H
          try dsimp only at H
          have A25 := Aside0.mk A250
          clear A250
          obtain rfl := Option.some.inj H
          go_wp2_with (first | (go_at_call 14; (with_reducible refine (etchhouselaw6_awake.calls kj5  t343 _ ?side1 A25.out).mono ?_); (case side1 => exact gw_ HG.out); rintro e w26 ⟨rfl, hb⟩; replace HO_9 := Aside0.mk (Kd.R_below (rr_ HO_9) hb); replace BK337 := bb_ BK337 hb; replace BK338 := bb_ BK338 hb; replace HB := Aside0.mk (below_step bl_ hb); (try clear hb); (try clear hb2); (try clear hk); (try clear hi)))
          go_ret
          exact ⟨by first | rfl | (simp [errW_none, errW_some] <;> rfl) | (simp [*, errW_none, errW_some] <;> rfl), bl_⟩
        · rw [if_neg c24] at H
          have c24b0 : (t340 == 0) = false := beq_eq_false_iff_ne.mpr c24
          have c24b1 : (t340 != 0) = true := bne_iff_ne.mpr c24
          by_cases c27 : (t339.length : Int) = 0
          · rw [if_pos c27] at H
            have c27b0 : ((t339.length : Int) == 0) = true := beq_iff_eq.mpr c27
            have c27b1 : ((t339.length : Int) != 0) = false := bne_eq_false_iff_eq.mpr c27
            clear c27
            replace H := Option.bind_eq_some_iff.mp H
            obtain ⟨t344, A280, H⟩ := H
            try dsimp only at H
            have A28 := Aside0.mk A280
            clear A280
            obtain rfl := Option.some.inj H
            obtain ⟨Ao29, co29, eo29⟩ := Kd.R_slice HO_9.out
            subst eo29
            go_wp2_with (first | (go_at_call 14; (with_reducible refine (etchhouselaw6_awake.calls kj5  t344 _ ?side1 A28.out).mono ?_); (case side1 => exact gw_ HG.out); rintro e w30 ⟨rfl, hb⟩; replace HO_9 := Aside0.mk (Kd.R_below (rr_ HO_9) hb); replace BK337 := bb_ BK337 hb; replace BK338 := bb_ BK338 hb; replace HB := Aside0.mk (below_step bl_ hb); (try clear hb); (try clear hb2); (try clear hk); (try clear hi)))
            go_ret
            exact ⟨by first | rfl | (simp [errW_none, errW_some] <;> rfl) | (simp [*, errW_none, errW_some] <;> rfl), bl_⟩
          · rw [if_neg c27] at H
            have c27b0 : ((t339.length : Int) == 0) = false := beq_eq_false_iff_ne.mpr c27
            have c27b1 : ((t339.length : Int) != 0) = true := bne_iff_ne.mpr c27
            have c27b2 : ¬ (t339 = []) := fun h_ => c27 (by rw [h_]; rfl)
            obtain rfl := Option.some.inj H
            obtain ⟨Ao31, co31, eo31⟩ := Kd.R_slice HO_9.out
            subst eo31
            go_wp2
            go_ret
            exact ⟨by first | rfl | (simp [errW_none, errW_some] <;> rfl) | (simp [*, errW_none, errW_some] <;> rfl), bl_⟩
      · replace c23 := Bool.eq_false_iff.mpr c23
        subst c23
        rw [if_neg (show ¬ (false = true) by decide)] at H
        obtain ⟨y345, hy345⟩ : ∃ y_ : List (S44), y_ = (([(⟨a2_0, a2_1, wrap64 (a2_0 + a1), wrap64 (a2_1 + a1)⟩ : S44)] : List (S44))) := ⟨_, rfl⟩
        replace H : ((shape_Minus.f kj5 y345 l0).bind fun bt348 => (if bt348.2 = 0 then (if (bt348.1.length : Int) > 0 then (etchhouselaw6_ThinByPoints.j1 kj5 t339 true a3_0 a3_1) else (if a3_0 < a2_0 then (etchhouselaw6_ThinByPoints.j1 kj5 t339 true a3_0 a3_1) else (if a3_1 < a2_1 then (etchhouselaw6_ThinByPoints.j1 kj5 t339 true a3_0 a3_1) else (if a3_0 ≥ (wrap64 (a2_0 + a1)) then (etchhouselaw6_ThinByPoints.j1 kj5 t339 true a3_0 a3_1) else (etchhouselaw6_ThinByPoints.j1 kj5 t339 (decide (a3_1 ≥ (wrap64 (a2_1 + a1)))) a3_0 a3_1))))) else (etchhouselaw6_ThinByPoints.j1 kj5 t339 true a3_0 a3_1))) = some r := by first | (rw [hy345]; with_reducible exact H) | (have H2_ := (Option.bind_some _ _).symm.trans H; rw [hy345]; with_reducible exact H2_) | (have H2_ := (Option.bind_some _ _).symm.trans H; with_reducible exact H2_) | with_reducible exact H | (rw [hy345]; exact H) | exact H
        have Ny345 := Aside0.mk hy345
        clear hy345
        replace H := Option.bind_eq_some_iff.mp H
        obtain ⟨⟨t348, t349⟩, A320, H⟩ := H
        try dsimp only at H
        have A32 := Aside0.mk A320
        clear A320
        have HC33 := Aside0.mk H
        clear H
        have hnb34 := NB337_338.out
        have hnc34 := NB338_337.out
        obtain ⟨hcz35_0, hcz35_1, hfz35_0, hfz35_1⟩ := bc2_ BK337
        go_upto_region 6 with (first | ((with_reducible refine gate_dst (N := 73) rfl ?_); (try (refine gate_guard (by rfl) ?_; dsimp only)); refine Kd.R_lit k44 _ 44 ?hg (N := 73) ?hd (xs := ([(⟨a2_0, a2_1, wrap64 (a2_0 + a1), wrap64 (a2_1 + a1)⟩ : S44)] : List (S44))) (inner := [.int .i64 a2_0, .int .i64 a2_1, .int .i64 (wrap64 (a2_0 + a1)), .int .i64 (wrap64 (a2_1 + a1))]) (ok := fun _ => True) (okp := fun _ => True) ?hr ?hp (fun _ hk => hk) trivial (Below.refl _ _) (Nat.le_refl _) (by simp) ?_; (case hd => rfl); (case hg => rfl); (case hr => first | (go_simp; done) | (go_simp; rfl)); (case hp => exact (Reps.c4 (show Kd.M k44 _ _ _ (⟨a2_0, a2_1, wrap64 (a2_0 + a1), wrap64 (a2_1 + a1)⟩ : S44) [.int .i64 a2_0, .int .i64 a2_1, .int .i64 (wrap64 (a2_0 + a1)), .int .i64 (wrap64 (a2_1 + a1))] from (k44_mkM _ _ _ (⟨a2_0, a2_1, wrap64 (a2_0 + a1), wrap64 (a2_1 + a1)⟩ : S44) )) (Reps.none _ _))); intro v346 w36 ho37 hb hg_ hnew_; clear hg_ hnew_; (first | rw [← Ny345.out] at ho37 | (simp only [Int.reduceToNat] at ho37; rw [← Ny345.out] at ho37)); have HO347 := Aside0.mk (Kd.R_lower (Kd.R_new' ho37 (Kd.R_lt (rr_ HO_9))) (below_size bl_)); replace HO_9 := Aside0.mk (Kd.R_elder' (rr_ HO_9) (Kd.R_base ho37) hb); replace BK337 := bb_ BK337 hb; replace BK338 := bb_ BK338 hb; replace HB := Aside0.mk (below_step bl_ hb); clear hb ho37; obtain ⟨Ao38, co38, eo38⟩ := Kd.R_slice HO347.out; subst eo38) | ((with_reducible refine gate_callee (f := 20) rfl ?_); refine gl_ (some 77) Tryz.func20 #[.slice Ao38 y345.length co38, .slice A0 l0.length c0] ?_; (with_reducible refine (shape_Minus.calls kj5 _ _ y345 _ _ l0 t348 t349 _ ?side1 ?side2 ?side3 ?side4 ?side5 A32.out).mono ?_); (case side1 => exact gw_ HG.out); (case side2 => exact cb_ (Kd.R_reads' HO347.out).2.2); (case side3 => exact (Kd.R_reads' HO347.out).2.1); (case side4 => exact cb_ (Kd.C_below HR0.out HB.out)); (case side5 => exact HC0.out); rintro e w39 ⟨v350, rfl, ho0, hb⟩; refine ⟨_, rfl, ?_⟩; have HO351 := Aside0.mk (Kd.R_lower (Kd.R_new' (Kd.R_new' ho0 (Kd.R_lt (rr_ HO_9))) (Kd.R_lt (rr_ HO347))) (below_size bl_)); replace HO_9 := Aside0.mk (Kd.R_elder' (rr_ HO_9) (Kd.R_base ho0) hb); replace HO347 := Aside0.mk (Kd.R_elder' (rr_ HO347) (Kd.R_base ho0) hb); replace BK337 := bb_ BK337 hb; replace BK338 := bb_ BK338 hb; replace HB := Aside0.mk (below_step bl_ hb); (try clear hb); (try clear hb2); (try clear hk); (try clear hi); (try clear ho0)))
        (try simp only [Act.put, List.setIfInBounds_toArray, List.set_cons_zero, List.set_cons_succ])
        go_cut [118] (fun v118 wc => ∃ (kq : Nat) (x118_32 : Bool), v118 = .bool x118_32 ∧ Aside0 (etchhouselaw6_ThinByPoints.j1 kq t339 x118_32 a3_0 a3_1 = some r) ∧ Aside0 (kq ≤ kj5) ∧ Aside0 (Kd.R k44 44 wc w.heap.size (fun _ => True) v341 t339) ∧ Aside0 (wc.heap[gb337]? = some (.cells #[.int .i64 a2_0, .int .i64 a2_1] 33 (0, 0))) ∧ Aside0 (wc.heap[gb338]? = some (.cells #[.int .i64 a3_0, .int .i64 a3_1] 33 (0, 0))) ∧ Aside0 (Below w.heap.size w wc))
        case first =>
          have H := HC33.out
          clear HC33
          by_cases c40 : t349 = 0
          · rw [if_pos c40] at H
            have c40b0 : (t349 == 0) = true := beq_iff_eq.mpr c40
            have c40b1 : (t349 != 0) = false := bne_eq_false_iff_eq.mpr c40
            clear c40
            (first | rw [c40b0] | (simp only [i64_w, i32_w]; rw [c40b0]) | skip)
            by_cases c41 : (t348.length : Int) > 0
            · rw [if_pos c41] at H
              have c41b0 : decide (0 < (t348.length : Int)) = true := decide_eq_true c41
              have c41b1 : decide (0 < t348.length) = true := decide_eq_true (by omega)
              clear c41
              have H' := Aside0.mk H
              clear H
              obtain ⟨Ao42, co42, eo42⟩ := Kd.R_slice HO351.out
              subst eo42
              go_wp2
              go_meet
              case rel => exact ⟨_, (true), (by first | rfl | (simp; done) | (simp [*]; done)), H', ⟨by have := HJ5.out; first | omega | exact Nat.le_refl _⟩, ⟨by (with_reducible repeat (first | apply Kd.R_alloc | apply Kd.R_drewN | apply Kd.R_drew)); exact Kd.R_mono HO_9.out (fun _ hk => trivial)⟩, ⟨by (with_reducible repeat (first | refine blk_drewN ?_ _ | refine blk_drew ?_ | refine blk_alloc ?_ _)); exact BK337.out⟩, ⟨by (with_reducible repeat (first | refine blk_drewN ?_ _ | refine blk_drew ?_ | refine blk_alloc ?_ _)); exact BK338.out⟩, ⟨bl_⟩⟩
            · rw [if_neg c41] at H
              have c41b0 : decide (0 < (t348.length : Int)) = false := decide_eq_false c41
              have c41b1 : decide (0 < t348.length) = false := decide_eq_false (by omega)
              clear c41
              by_cases c43 : a3_0 < a2_0
              · rw [if_pos c43] at H
                have c43b0 : decide (a3_0 < a2_0) = true := decide_eq_true c43
                clear c43
                have H' := Aside0.mk H
                clear H
                obtain ⟨Ao44, co44, eo44⟩ := Kd.R_slice HO351.out
                subst eo44
                have hnb45 := NB338_337.out
                have hnc45 := NB337_338.out
                obtain ⟨hcz46_0, hcz46_1, hfz46_0, hfz46_1⟩ := bc2_ BK338
                obtain ⟨hcz47_0, hcz47_1, hfz47_0, hfz47_1⟩ := bc2_ BK337
                go_wp2
                go_meet
                case rel => exact ⟨_, (true), (by first | rfl | (simp; done) | (simp [*]; done)), H', ⟨by have := HJ5.out; first | omega | exact Nat.le_refl _⟩, ⟨by (with_reducible repeat (first | apply Kd.R_alloc | apply Kd.R_drewN | apply Kd.R_drew)); exact Kd.R_mono HO_9.out (fun _ hk => trivial)⟩, ⟨by (with_reducible repeat (first | refine blk_drewN ?_ _ | refine blk_drew ?_ | refine blk_alloc ?_ _)); exact BK337.out⟩, ⟨by (with_reducible repeat (first | refine blk_drewN ?_ _ | refine blk_drew ?_ | refine blk_alloc ?_ _)); exact BK338.out⟩, ⟨bl_⟩⟩
              · rw [if_neg c43] at H
                have c43b0 : decide (a3_0 < a2_0) = false := decide_eq_false c43
                clear c43
                by_cases c48 : a3_1 < a2_1
                · rw [if_pos c48] at H
                  have c48b0 : decide (a3_1 < a2_1) = true := decide_eq_true c48
                  clear c48
                  have H' := Aside0.mk H
                  clear H
                  obtain ⟨Ao49, co49, eo49⟩ := Kd.R_slice HO351.out
                  subst eo49
                  have hnb50 := NB338_337.out
                  have hnc50 := NB337_338.out
                  obtain ⟨hcz51_0, hcz51_1, hfz51_0, hfz51_1⟩ := bc2_ BK338
                  obtain ⟨hcz52_0, hcz52_1, hfz52_0, hfz52_1⟩ := bc2_ BK337
                  go_wp2
                  go_meet
                  case rel => exact ⟨_, (true), (by first | rfl | (simp; done) | (simp [*]; done)), H', ⟨by have := HJ5.out; first | omega | exact Nat.le_refl _⟩, ⟨by (with_reducible repeat (first | apply Kd.R_alloc | apply Kd.R_drewN | apply Kd.R_drew)); exact Kd.R_mono HO_9.out (fun _ hk => trivial)⟩, ⟨by (with_reducible repeat (first | refine blk_drewN ?_ _ | refine blk_drew ?_ | refine blk_alloc ?_ _)); exact BK337.out⟩, ⟨by (with_reducible repeat (first | refine blk_drewN ?_ _ | refine blk_drew ?_ | refine blk_alloc ?_ _)); exact BK338.out⟩, ⟨bl_⟩⟩
                · rw [if_neg c48] at H
                  have c48b0 : decide (a3_1 < a2_1) = false := decide_eq_false c48
                  clear c48
                  by_cases c53 : a3_0 ≥ (wrap64 (a2_0 + a1))
                  · rw [if_pos c53] at H
                    have c53b0 : decide ((wrap64 (a2_0 + a1)) ≤ a3_0) = true := decide_eq_true c53
                    clear c53
                    have H' := Aside0.mk H
                    clear H
                    obtain ⟨Ao54, co54, eo54⟩ := Kd.R_slice HO351.out
                    subst eo54
                    have hnb55 := NB338_337.out
                    have hnc55 := NB337_338.out
                    obtain ⟨hcz56_0, hcz56_1, hfz56_0, hfz56_1⟩ := bc2_ BK338
                    obtain ⟨hcz57_0, hcz57_1, hfz57_0, hfz57_1⟩ := bc2_ BK337
                    go_wp2
                    go_meet
                    case rel => exact ⟨_, (true), (by first | rfl | (simp; done) | (simp [*]; done)), H', ⟨by have := HJ5.out; first | omega | exact Nat.le_refl _⟩, ⟨by (with_reducible repeat (first | apply Kd.R_alloc | apply Kd.R_drewN | apply Kd.R_drew)); exact Kd.R_mono HO_9.out (fun _ hk => trivial)⟩, ⟨by (with_reducible repeat (first | refine blk_drewN ?_ _ | refine blk_drew ?_ | refine blk_alloc ?_ _)); exact BK337.out⟩, ⟨by (with_reducible repeat (first | refine blk_drewN ?_ _ | refine blk_drew ?_ | refine blk_alloc ?_ _)); exact BK338.out⟩, ⟨bl_⟩⟩
                  · rw [if_neg c53] at H
                    have c53b0 : decide ((wrap64 (a2_0 + a1)) ≤ a3_0) = false := decide_eq_false c53
                    clear c53
                    have H' := Aside0.mk H
                    clear H
                    obtain ⟨Ao58, co58, eo58⟩ := Kd.R_slice HO351.out
                    subst eo58
                    have hnb59 := NB338_337.out
                    have hnc59 := NB337_338.out
                    obtain ⟨hcz60_0, hcz60_1, hfz60_0, hfz60_1⟩ := bc2_ BK338
                    obtain ⟨hcz61_0, hcz61_1, hfz61_0, hfz61_1⟩ := bc2_ BK337
                    go_wp2
                    go_meet
                    case rel => exact ⟨_, (decide (a3_1 ≥ (wrap64 (a2_1 + a1)))), (by first | rfl | (simp; done) | (simp [*]; done)), H', ⟨by have := HJ5.out; first | omega | exact Nat.le_refl _⟩, ⟨by (with_reducible repeat (first | apply Kd.R_alloc | apply Kd.R_drewN | apply Kd.R_drew)); exact Kd.R_mono HO_9.out (fun _ hk => trivial)⟩, ⟨by (with_reducible repeat (first | refine blk_drewN ?_ _ | refine blk_drew ?_ | refine blk_alloc ?_ _)); exact BK337.out⟩, ⟨by (with_reducible repeat (first | refine blk_drewN ?_ _ | refine blk_drew ?_ | refine blk_alloc ?_ _)); exact BK338.out⟩, ⟨bl_⟩⟩
          · rw [if_neg c40] at H
            have c40b0 : (t349 == 0) = false := beq_eq_false_iff_ne.mpr c40
            have c40b1 : (t349 != 0) = true := bne_iff_ne.mpr c40
            (first | rw [c40b0] | (simp only [i64_w, i32_w]; rw [c40b0]) | skip)
            have H' := Aside0.mk H
            clear H
            go_wp2
            go_meet
            case rel => exact ⟨_, (true), (by first | rfl | (simp; done) | (simp [*]; done)), H', ⟨by have := HJ5.out; first | omega | exact Nat.le_refl _⟩, ⟨by (with_reducible repeat (first | apply Kd.R_alloc | apply Kd.R_drewN | apply Kd.R_drew)); exact Kd.R_mono HO_9.out (fun _ hk => trivial)⟩, ⟨by (with_reducible repeat (first | refine blk_drewN ?_ _ | refine blk_drew ?_ | refine blk_alloc ?_ _)); exact BK337.out⟩, ⟨by (with_reducible repeat (first | refine blk_drewN ?_ _ | refine blk_drew ?_ | refine blk_alloc ?_ _)); exact BK338.out⟩, ⟨bl_⟩⟩
        case rest =>
          clear HC33
          try clear c1
          try clear c2
          try clear p2
          try clear c3
          try clear c4
          try clear c5
          try clear p6
          try clear c7
          try clear c10
          try clear c10b0
          try clear c10b1
          try clear c11
          try clear c11b0
          try clear c12
          try clear c12b0
          try clear c13
          try clear c15
          try clear c15b0
          try clear c16
          try clear c18
          try clear c18b0
          try clear c19
          try clear c20
          try clear c21
          try clear c23
          try clear c24
          try clear c24b0
          try clear c24b1
          try clear c27
          try clear c27b0
          try clear c27b1
          try clear c27b2
          try clear c34
          try clear c40
          try clear c40b0
          try clear c40b1
          try clear c41
          try clear c41b0
          try clear c41b1
          try clear c43
          try clear c43b0
          try clear c45
          try clear c48
          try clear c48b0
          try clear c50
          try clear c53
          try clear c53b0
          try clear c55
          try clear c59
          try clear hcz14_0
          try clear hcz14_1
          try clear hcz17_0
          try clear hcz17_1
          try clear hcz20_0
          try clear hcz20_1
          try clear hcz22_0
          try clear hcz22_1
          try clear hcz35_0
          try clear hcz35_1
          try clear hcz46_0
          try clear hcz46_1
          try clear hcz47_0
          try clear hcz47_1
          try clear hcz51_0
          try clear hcz51_1
          try clear hcz52_0
          try clear hcz52_1
          try clear hcz56_0
          try clear hcz56_1
          try clear hcz57_0
          try clear hcz57_1
          try clear hcz60_0
          try clear hcz60_1
          try clear hcz61_0
          try clear hcz61_1
          try clear hfz14_0
          try clear hfz14_1
          try clear hfz17_0
          try clear hfz17_1
          try clear hfz20_0
          try clear hfz20_1
          try clear hfz22_0
          try clear hfz22_1
          try clear hfz35_0
          try clear hfz35_1
          try clear hfz46_0
          try clear hfz46_1
          try clear hfz47_0
          try clear hfz47_1
          try clear hfz51_0
          try clear hfz51_1
          try clear hfz52_0
          try clear hfz52_1
          try clear hfz56_0
          try clear hfz56_1
          try clear hfz57_0
          try clear hfz57_1
          try clear hfz60_0
          try clear hfz60_1
          try clear hfz61_0
          try clear hfz61_1
          try clear p2
          try clear p6
          obtain ⟨kq, x118_32, rfl, HA, HJ32, HO_9, BK337, BK338, HB⟩ := hcut
          cases kq with
          | zero => exact absurd HA.out (by simp [etchhouselaw6_ThinByPoints.j1])
          | succ kj32 =>
            have H := HA.out
            clear HA
            simp only [etchhouselaw6_ThinByPoints.j1] at H
            by_cases c62 : x118_32 = true
            · subst c62
              rw [if_pos rfl] at H
              replace H := Option.bind_eq_some_iff.mp H
              obtain ⟨t352, A630, H⟩ := H
              try dsimp only at H
              have A63 := Aside0.mk A630
              clear A630
              obtain rfl := Option.some.inj H
              go_wp2_with (first | ((with_reducible refine gate_callee (f := 14) rfl ?_); refine gl_ (some 119) Tryz.func14 #[] ?_; (with_reducible refine (etchhouselaw6_awake.calls kj32  t352 _ ?side1 A63.out).mono ?_); (case side1 => exact gw_ HG.out); rintro e w64 ⟨rfl, hb⟩; refine ⟨_, rfl, ?_⟩; replace HO_9 := Aside0.mk (Kd.R_below (rr_ HO_9) hb); replace BK337 := bb_ BK337 hb; replace BK338 := bb_ BK338 hb; replace HB := Aside0.mk (below_step bl_ hb); (try clear hb); (try clear hb2); (try clear hk); (try clear hi)))
              go_ret
              exact ⟨by first | rfl | (simp [errW_none, errW_some] <;> rfl) | (simp [*, errW_none, errW_some] <;> rfl), bl_⟩
            · replace c62 := Bool.eq_false_iff.mpr c62
              subst c62
              rw [if_neg (show ¬ (false = true) by decide)] at H
              replace H := Option.bind_eq_some_iff.mp H
              obtain ⟨⟨t353, t354⟩, A650, H⟩ := H
              try dsimp only at H
              have A65 := Aside0.mk A650
              clear A650
              by_cases c66 : t354 = 0
              · rw [if_pos c66] at H
                have c66b0 : (t354 == 0) = true := beq_iff_eq.mpr c66
                have c66b1 : (t354 != 0) = false := bne_eq_false_iff_eq.mpr c66
                clear c66
                by_cases c67 : t353 = true
                · subst c67
                  rw [if_pos rfl] at H
                  obtain rfl := Option.some.inj H
                  have hnb68 := NB338_337.out
                  have hnc68 := NB337_338.out
                  obtain ⟨hcz69_0, hcz69_1, hfz69_0, hfz69_1⟩ := bc2_ BK338
                  obtain ⟨Ao70, co70, eo70⟩ := Kd.R_slice HO_9.out
                  subst eo70
                  go_wp2_with (first | ((with_reducible refine gate_callee (f := 21) rfl ?_); refine gl_ (some 123) Tryz.func21 #[.slice Ao70 t339.length co70, .agg #[.int .i64 a3_0, .int .i64 a3_1]] ?_; (with_reducible refine (shape_Has.calls kj32 _ _ t339 a3_0 a3_1 true t354 _ ?side1 ?side2 ?side3 A65.out).mono ?_); (case side1 => exact gw_ HG.out); (case side2 => exact cb_ (Kd.R_reads' HO_9.out).2.2); (case side3 => exact (Kd.R_reads' HO_9.out).2.1); rintro e w71 ⟨rfl, hb⟩; refine ⟨_, rfl, ?_⟩; replace HO_9 := Aside0.mk (Kd.R_below (rr_ HO_9) hb); replace BK337 := bb_ BK337 hb; replace BK338 := bb_ BK338 hb; replace HB := Aside0.mk (below_step bl_ hb); (try clear hb); (try clear hb2); (try clear hk); (try clear hi)))
                  go_ret
                  exact ⟨by first | rfl | (simp [errW_none, errW_some] <;> rfl) | (simp [*, errW_none, errW_some] <;> rfl), bl_⟩
                · replace c67 := Bool.eq_false_iff.mpr c67
                  subst c67
                  rw [if_neg (show ¬ (false = true) by decide)] at H
                  replace H := Option.bind_eq_some_iff.mp H
                  obtain ⟨t355, A720, H⟩ := H
                  try dsimp only at H
                  have A72 := Aside0.mk A720
                  clear A720
                  obtain rfl := Option.some.inj H
                  have hnb73 := NB338_337.out
                  have hnc73 := NB337_338.out
                  obtain ⟨hcz74_0, hcz74_1, hfz74_0, hfz74_1⟩ := bc2_ BK338
                  obtain ⟨Ao75, co75, eo75⟩ := Kd.R_slice HO_9.out
                  subst eo75
                  go_wp2_with (first | ((with_reducible refine gate_callee (f := 21) rfl ?_); refine gl_ (some 123) Tryz.func21 #[.slice Ao75 t339.length co75, .agg #[.int .i64 a3_0, .int .i64 a3_1]] ?_; (with_reducible refine (shape_Has.calls kj32 _ _ t339 a3_0 a3_1 false t354 _ ?side1 ?side2 ?side3 A65.out).mono ?_); (case side1 => exact gw_ HG.out); (case side2 => exact cb_ (Kd.R_reads' HO_9.out).2.2); (case side3 => exact (Kd.R_reads' HO_9.out).2.1); rintro e w76 ⟨rfl, hb⟩; refine ⟨_, rfl, ?_⟩; replace HO_9 := Aside0.mk (Kd.R_below (rr_ HO_9) hb); replace BK337 := bb_ BK337 hb; replace BK338 := bb_ BK338 hb; replace HB := Aside0.mk (below_step bl_ hb); (try clear hb); (try clear hb2); (try clear hk); (try clear hi)) | (go_at_call 14; (with_reducible refine (etchhouselaw6_awake.calls kj32  t355 _ ?side1 A72.out).mono ?_); (case side1 => exact gw_ HG.out); rintro e w77 ⟨rfl, hb⟩; replace HO_9 := Aside0.mk (Kd.R_below (rr_ HO_9) hb); replace BK337 := bb_ BK337 hb; replace BK338 := bb_ BK338 hb; replace HB := Aside0.mk (below_step bl_ hb); (try clear hb); (try clear hb2); (try clear hk); (try clear hi)))
                  go_ret
                  exact ⟨by first | rfl | (simp [errW_none, errW_some] <;> rfl) | (simp [*, errW_none, errW_some] <;> rfl), bl_⟩
              · rw [if_neg c66] at H
                have c66b0 : (t354 == 0) = false := beq_eq_false_iff_ne.mpr c66
                have c66b1 : (t354 != 0) = true := bne_iff_ne.mpr c66
                obtain rfl := Option.some.inj H
                have hnb78 := NB338_337.out
                have hnc78 := NB337_338.out
                obtain ⟨hcz79_0, hcz79_1, hfz79_0, hfz79_1⟩ := bc2_ BK338
                obtain ⟨Ao80, co80, eo80⟩ := Kd.R_slice HO_9.out
                subst eo80
                go_wp2_with (first | ((with_reducible refine gate_callee (f := 21) rfl ?_); refine gl_ (some 123) Tryz.func21 #[.slice Ao80 t339.length co80, .agg #[.int .i64 a3_0, .int .i64 a3_1]] ?_; (with_reducible refine (shape_Has.calls kj32 _ _ t339 a3_0 a3_1 t353 t354 _ ?side1 ?side2 ?side3 A65.out).mono ?_); (case side1 => exact gw_ HG.out); (case side2 => exact cb_ (Kd.R_reads' HO_9.out).2.2); (case side3 => exact (Kd.R_reads' HO_9.out).2.1); rintro e w81 ⟨rfl, hb⟩; refine ⟨_, rfl, ?_⟩; replace HO_9 := Aside0.mk (Kd.R_below (rr_ HO_9) hb); replace BK337 := bb_ BK337 hb; replace BK338 := bb_ BK338 hb; replace HB := Aside0.mk (below_step bl_ hb); (try clear hb); (try clear hb2); (try clear hk); (try clear hi)))
                go_ret
                exact ⟨by first | rfl | (simp [errW_none, errW_some] <;> rfl) | (simp [*, errW_none, errW_some] <;> rfl), bl_⟩
end Go.Proofs.YthkeonbmgcphkaaGreatDoor.PT
