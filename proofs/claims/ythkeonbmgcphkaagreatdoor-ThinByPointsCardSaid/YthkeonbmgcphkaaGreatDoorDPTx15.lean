-- Written by this session's own programs (wip/tools).
import Derived.Test.YthkeonbmgcphkaaGreatDoorDPTx0
import Derived.Test.YthkeonbmgcphkaaGreatDoorDPTx7
import Derived.Test.YthkeonbmgcphkaaGreatDoorDPTx8
import Derived.Test.YthkeonbmgcphkaaGreatDoorDPTx10
import Derived.Test.YthkeonbmgcphkaaGreatDoorDPTx14
namespace Go.Proofs.YthkeonbmgcphkaaGreatDoor.PT
open Go.RowKit Go.Proofs.YthkeonbmgcphkaaGreatDoorW.PrintWords Go.Proofs.YthkeonbmgcphkaaGreatDoorW.PrintLast Go.Proofs.YthkeonbmgcphkaaGreatDoorW.PrintMore
attribute [local go_sem] max2_int min2_int max_two min_two max_three min_three max_four min_four
set_option linter.unusedVariables false
set_option linter.unusedSimpArgs false
def etchhouselaw6_ThinWithWidth.j0 : Nat → List (S44) → Int → List (S44) → Int → List (S44) → Bool → Option (Bool)
  | 0, _, _, _, _, _, _ => none
  | k + 1, x0, x1, x7, x8, x9, x35 => if x35 = true then (if x8 = 0 then ((etchhouselaw6_awake.f k).bind fun t312 => (some t312)) else (if (x7.length : Int) = 0 then ((etchhouselaw6_awake.f k).bind fun t313 => (some t313)) else (some false))) else ((shape_Minus.f k x7 x9).bind fun bt314 => ((shape_Minus.f k x9 x0).bind fun bt318 => (if bt314.2 = 0 then (if (bt314.1.length : Int) = 0 then (if bt318.2 = 0 then (if (bt318.1.length : Int) = 0 then (if x1 > 1 then ((etchhouselaw6_awake.f k).bind fun t322 => (some t322)) else (if (x7.length : Int) = 0 then ((etchhouselaw6_awake.f k).bind fun t323 => (some t323)) else (some false))) else (some false)) else (if x1 > 1 then ((etchhouselaw6_awake.f k).bind fun t324 => (some t324)) else (if (x7.length : Int) = 0 then ((etchhouselaw6_awake.f k).bind fun t325 => (some t325)) else (some false)))) else (some false)) else (if bt318.2 = 0 then (if (bt318.1.length : Int) = 0 then (if x1 > 1 then ((etchhouselaw6_awake.f k).bind fun t326 => (some t326)) else (if (x7.length : Int) = 0 then ((etchhouselaw6_awake.f k).bind fun t327 => (some t327)) else (some false))) else (some false)) else (if x1 > 1 then ((etchhouselaw6_awake.f k).bind fun t328 => (some t328)) else (if (x7.length : Int) = 0 then ((etchhouselaw6_awake.f k).bind fun t329 => (some t329)) else (some false)))))))
def etchhouselaw6_ThinWithWidth.f (k : Nat) (l0 : List (S44)) (a1 : Int) (a2 : Int) : Option (Bool) := (rules_Thin.f k l0 a1).bind fun bt304 => ((rules_Thin.f k l0 a2).bind fun bt308 => (if bt304.2 = 0 then (if bt308.2 = 0 then (etchhouselaw6_ThinWithWidth.j0 k l0 a1 bt304.1 bt304.2 bt308.1 (decide (a2 < a1))) else (etchhouselaw6_ThinWithWidth.j0 k l0 a1 bt304.1 bt304.2 bt308.1 true)) else (etchhouselaw6_ThinWithWidth.j0 k l0 a1 bt304.1 bt304.2 bt308.1 true)))
set_option maxHeartbeats 8000000 in
set_option maxRecDepth 100000 in
theorem etchhouselaw6_ThinWithWidth.calls (k : Nat) (A0 : Option Addr) (c0 : Nat) (l0 : List (S44)) (a1 : Int) (a2 : Int) (r : Bool) (w : World) (hG : Tryz.GW w) (hr0 : Kd.C k44 w A0 l0.length l0) (hc0 : l0.length ≤ c0) (h : etchhouselaw6_ThinWithWidth.f k l0 a1 a2 = some r) :
    Calls Tryz.prog 6 #[.slice A0 l0.length c0, .int .i64 a1, .int .i64 a2] w fun e w' => e = .returned (.bool r) ∧ Below w.heap.size w w' := by
  have HR0 := Aside0.mk hr0
  have HC0 := Aside0.mk hc0
  clear hr0 hc0
  have HG := Aside0.mk hG
  clear hG
  have HB := Aside0.mk (Below.refl w.heap.size w)
  have H : ((rules_Thin.f k l0 a1).bind fun bt304 => ((rules_Thin.f k l0 a2).bind fun bt308 => (if bt304.2 = 0 then (if bt308.2 = 0 then (etchhouselaw6_ThinWithWidth.j0 k l0 a1 bt304.1 bt304.2 bt308.1 (decide (a2 < a1))) else (etchhouselaw6_ThinWithWidth.j0 k l0 a1 bt304.1 bt304.2 bt308.1 true)) else (etchhouselaw6_ThinWithWidth.j0 k l0 a1 bt304.1 bt304.2 bt308.1 true)))) = some r := h
  clear h
  replace H := Option.bind_eq_some_iff.mp H
  obtain ⟨⟨t304, t305⟩, A40, H⟩ := H
  try dsimp only at H
  have A4 := Aside0.mk A40
  clear A40
  replace H := Option.bind_eq_some_iff.mp H
  obtain ⟨⟨t308, t309⟩, A50, H⟩ := H
  try dsimp only at H
  have A5 := Aside0.mk A50
  clear A50
  have HC6 := Aside0.mk H
  clear H
  go_enter Tryz.func6, Tryz.ntmps6
  go_upto_region 3 with (first | ((with_reducible refine gate_callee (f := 19) rfl ?_); refine gl_ (some 16) Tryz.func19 #[.slice A0 l0.length c0, .int .i64 a1] ?_; (with_reducible refine (rules_Thin.calls k _ _ l0 a1 t304 t305 _ ?side1 ?side2 ?side3 A4.out).mono ?_); (case side1 => exact gw_ HG.out); (case side2 => repeat (first | exact HR0.out | (with_reducible refine Kd.C_alloc ?_ _) | (with_reducible refine Kd.C_drewN ?_ _) | (with_reducible refine Kd.C_drew ?_))); (case side3 => exact HC0.out); rintro e w7 ⟨v306, rfl, ho0, hb⟩; refine ⟨_, rfl, ?_⟩; have HO307 := Aside0.mk (Kd.R_lower ho0 (below_size bl_)); replace HB := Aside0.mk (below_step bl_ hb); (try clear hb); (try clear hb2); (try clear hk); (try clear hi); (try clear ho0)) | ((with_reducible refine gate_callee (f := 19) rfl ?_); refine gl_ (some 22) Tryz.func19 #[.slice A0 l0.length c0, .int .i64 a2] ?_; (with_reducible refine (rules_Thin.calls k _ _ l0 a2 t308 t309 _ ?side1 ?side2 ?side3 A5.out).mono ?_); (case side1 => exact gw_ HG.out); (case side2 => exact cb_ (Kd.C_below HR0.out HB.out)); (case side3 => exact HC0.out); rintro e w8 ⟨v310, rfl, ho0, hb⟩; refine ⟨_, rfl, ?_⟩; have HO311 := Aside0.mk (Kd.R_lower (Kd.R_new' ho0 (Kd.R_lt (rr_ HO307))) (below_size bl_)); replace HO307 := Aside0.mk (Kd.R_elder' (rr_ HO307) (Kd.R_base ho0) hb); replace HB := Aside0.mk (below_step bl_ hb); (try clear hb); (try clear hb2); (try clear hk); (try clear hi); (try clear ho0)))
  (try simp only [Act.put, List.setIfInBounds_toArray, List.set_cons_zero, List.set_cons_succ])
  go_cut [35] (fun v35 wc => ∃ (kq : Nat) (x35_5 : Bool), v35 = .bool x35_5 ∧ Aside0 (etchhouselaw6_ThinWithWidth.j0 kq l0 a1 t304 t305 t308 x35_5 = some r) ∧ Aside0 (kq ≤ k) ∧ Aside0 (Kd.R k44 44 wc w.heap.size (fun k_ => some k_ ≠ (v310 : Value).ownBlock) v306 t304) ∧ Aside0 (Kd.R k44 44 wc w.heap.size (fun k_ => some k_ ≠ (v306 : Value).ownBlock) v310 t308) ∧ Aside0 (Below w.heap.size w wc))
  case first =>
    have H := HC6.out
    clear HC6
    by_cases c9 : t305 = 0
    · rw [if_pos c9] at H
      have c9b0 : (t305 == 0) = true := beq_iff_eq.mpr c9
      have c9b1 : (t305 != 0) = false := bne_eq_false_iff_eq.mpr c9
      clear c9
      (first | rw [c9b0] | (simp only [i64_w, i32_w]; rw [c9b0]) | skip)
      by_cases c10 : t309 = 0
      · rw [if_pos c10] at H
        have c10b0 : (t309 == 0) = true := beq_iff_eq.mpr c10
        have c10b1 : (t309 != 0) = false := bne_eq_false_iff_eq.mpr c10
        clear c10
        have H' := Aside0.mk H
        clear H
        go_wp2
        go_meet
        case rel => exact ⟨_, (decide (a2 < a1)), (by first | rfl | (simp; done) | (simp [*]; done)), H', ⟨by first | omega | exact Nat.le_refl _⟩, ⟨by (with_reducible repeat (first | apply Kd.R_alloc | apply Kd.R_drewN | apply Kd.R_drew)); exact Kd.R_mono HO307.out (fun _ hk => hk.2)⟩, ⟨by (with_reducible repeat (first | apply Kd.R_alloc | apply Kd.R_drewN | apply Kd.R_drew)); exact Kd.R_mono HO311.out (fun _ hk => hk.2)⟩, ⟨bl_⟩⟩
      · rw [if_neg c10] at H
        have c10b0 : (t309 == 0) = false := beq_eq_false_iff_ne.mpr c10
        have c10b1 : (t309 != 0) = true := bne_iff_ne.mpr c10
        have H' := Aside0.mk H
        clear H
        go_wp2
        go_meet
        case rel => exact ⟨_, (true), (by first | rfl | (simp; done) | (simp [*]; done)), H', ⟨by first | omega | exact Nat.le_refl _⟩, ⟨by (with_reducible repeat (first | apply Kd.R_alloc | apply Kd.R_drewN | apply Kd.R_drew)); exact Kd.R_mono HO307.out (fun _ hk => hk.2)⟩, ⟨by (with_reducible repeat (first | apply Kd.R_alloc | apply Kd.R_drewN | apply Kd.R_drew)); exact Kd.R_mono HO311.out (fun _ hk => hk.2)⟩, ⟨bl_⟩⟩
    · rw [if_neg c9] at H
      have c9b0 : (t305 == 0) = false := beq_eq_false_iff_ne.mpr c9
      have c9b1 : (t305 != 0) = true := bne_iff_ne.mpr c9
      (first | rw [c9b0] | (simp only [i64_w, i32_w]; rw [c9b0]) | skip)
      have H' := Aside0.mk H
      clear H
      go_wp2
      go_meet
      case rel => exact ⟨_, (true), (by first | rfl | (simp; done) | (simp [*]; done)), H', ⟨by first | omega | exact Nat.le_refl _⟩, ⟨by (with_reducible repeat (first | apply Kd.R_alloc | apply Kd.R_drewN | apply Kd.R_drew)); exact Kd.R_mono HO307.out (fun _ hk => hk.2)⟩, ⟨by (with_reducible repeat (first | apply Kd.R_alloc | apply Kd.R_drewN | apply Kd.R_drew)); exact Kd.R_mono HO311.out (fun _ hk => hk.2)⟩, ⟨bl_⟩⟩
  case rest =>
    clear HC6
    try clear c1
    try clear p2
    try clear c6
    try clear c9
    try clear c9b0
    try clear c9b1
    try clear c10
    try clear c10b0
    try clear c10b1
    obtain ⟨kq, x35_5, rfl, HA, HJ5, HO_7, HO_9, HB⟩ := hcut
    cases kq with
    | zero => exact absurd HA.out (by simp [etchhouselaw6_ThinWithWidth.j0])
    | succ kj5 =>
      have H := HA.out
      clear HA
      simp only [etchhouselaw6_ThinWithWidth.j0] at H
      by_cases c11 : x35_5 = true
      · subst c11
        rw [if_pos rfl] at H
        by_cases c12 : t305 = 0
        · rw [if_pos c12] at H
          have c12b0 : (t305 == 0) = true := beq_iff_eq.mpr c12
          have c12b1 : (t305 != 0) = false := bne_eq_false_iff_eq.mpr c12
          clear c12
          replace H := Option.bind_eq_some_iff.mp H
          obtain ⟨t312, A130, H⟩ := H
          try dsimp only at H
          have A13 := Aside0.mk A130
          clear A130
          obtain rfl := Option.some.inj H
          go_wp2_with (first | (go_at_call 14; (with_reducible refine (etchhouselaw6_awake.calls kj5  t312 _ ?side1 A13.out).mono ?_); (case side1 => exact gw_ HG.out); rintro e w14 ⟨rfl, hb⟩; replace HO_7 := Aside0.mk (Kd.R_below (rr_ HO_7) hb); replace HO_9 := Aside0.mk (Kd.R_below (rr_ HO_9) hb); replace HB := Aside0.mk (below_step bl_ hb); (try clear hb); (try clear hb2); (try clear hk); (try clear hi)))
          go_ret
          exact ⟨by first | rfl | (simp [errW_none, errW_some] <;> rfl) | (simp [*, errW_none, errW_some] <;> rfl), bl_⟩
        · rw [if_neg c12] at H
          have c12b0 : (t305 == 0) = false := beq_eq_false_iff_ne.mpr c12
          have c12b1 : (t305 != 0) = true := bne_iff_ne.mpr c12
          by_cases c15 : (t304.length : Int) = 0
          · rw [if_pos c15] at H
            have c15b0 : ((t304.length : Int) == 0) = true := beq_iff_eq.mpr c15
            have c15b1 : ((t304.length : Int) != 0) = false := bne_eq_false_iff_eq.mpr c15
            clear c15
            replace H := Option.bind_eq_some_iff.mp H
            obtain ⟨t313, A160, H⟩ := H
            try dsimp only at H
            have A16 := Aside0.mk A160
            clear A160
            obtain rfl := Option.some.inj H
            obtain ⟨Ao17, co17, eo17⟩ := Kd.R_slice HO_7.out
            subst eo17
            go_wp2_with (first | (go_at_call 14; (with_reducible refine (etchhouselaw6_awake.calls kj5  t313 _ ?side1 A16.out).mono ?_); (case side1 => exact gw_ HG.out); rintro e w18 ⟨rfl, hb⟩; replace HO_7 := Aside0.mk (Kd.R_below (rr_ HO_7) hb); replace HO_9 := Aside0.mk (Kd.R_below (rr_ HO_9) hb); replace HB := Aside0.mk (below_step bl_ hb); (try clear hb); (try clear hb2); (try clear hk); (try clear hi)))
            go_ret
            exact ⟨by first | rfl | (simp [errW_none, errW_some] <;> rfl) | (simp [*, errW_none, errW_some] <;> rfl), bl_⟩
          · rw [if_neg c15] at H
            have c15b0 : ((t304.length : Int) == 0) = false := beq_eq_false_iff_ne.mpr c15
            have c15b1 : ((t304.length : Int) != 0) = true := bne_iff_ne.mpr c15
            have c15b2 : ¬ (t304 = []) := fun h_ => c15 (by rw [h_]; rfl)
            obtain rfl := Option.some.inj H
            obtain ⟨Ao19, co19, eo19⟩ := Kd.R_slice HO_7.out
            subst eo19
            go_wp2
            go_ret
            exact ⟨by first | rfl | (simp [errW_none, errW_some] <;> rfl) | (simp [*, errW_none, errW_some] <;> rfl), bl_⟩
      · replace c11 := Bool.eq_false_iff.mpr c11
        subst c11
        rw [if_neg (show ¬ (false = true) by decide)] at H
        replace H := Option.bind_eq_some_iff.mp H
        obtain ⟨⟨t314, t315⟩, A200, H⟩ := H
        try dsimp only at H
        have A20 := Aside0.mk A200
        clear A200
        replace H := Option.bind_eq_some_iff.mp H
        obtain ⟨⟨t318, t319⟩, A210, H⟩ := H
        try dsimp only at H
        have A21 := Aside0.mk A210
        clear A210
        by_cases c22 : t315 = 0
        · rw [if_pos c22] at H
          have c22b0 : (t315 == 0) = true := beq_iff_eq.mpr c22
          have c22b1 : (t315 != 0) = false := bne_eq_false_iff_eq.mpr c22
          clear c22
          by_cases c23 : (t314.length : Int) = 0
          · rw [if_pos c23] at H
            have c23b0 : ((t314.length : Int) == 0) = true := beq_iff_eq.mpr c23
            have c23b1 : ((t314.length : Int) != 0) = false := bne_eq_false_iff_eq.mpr c23
            clear c23
            by_cases c24 : t319 = 0
            · rw [if_pos c24] at H
              have c24b0 : (t319 == 0) = true := beq_iff_eq.mpr c24
              have c24b1 : (t319 != 0) = false := bne_eq_false_iff_eq.mpr c24
              clear c24
              by_cases c25 : (t318.length : Int) = 0
              · rw [if_pos c25] at H
                have c25b0 : ((t318.length : Int) == 0) = true := beq_iff_eq.mpr c25
                have c25b1 : ((t318.length : Int) != 0) = false := bne_eq_false_iff_eq.mpr c25
                clear c25
                by_cases c26 : a1 > 1
                · rw [if_pos c26] at H
                  have c26b0 : decide (1 < a1) = true := decide_eq_true c26
                  clear c26
                  replace H := Option.bind_eq_some_iff.mp H
                  obtain ⟨t322, A270, H⟩ := H
                  try dsimp only at H
                  have A27 := Aside0.mk A270
                  clear A270
                  obtain rfl := Option.some.inj H
                  obtain ⟨Ao28, co28, eo28⟩ := Kd.R_slice HO_7.out
                  subst eo28
                  obtain ⟨Ao29, co29, eo29⟩ := Kd.R_slice HO_9.out
                  subst eo29
                  go_wp2_with (first | ((with_reducible refine gate_callee (f := 20) rfl ?_); refine gl_ (some 49) Tryz.func20 #[.slice Ao28 t304.length co28, .slice Ao29 t308.length co29] ?_; (with_reducible refine (shape_Minus.calls kj5 _ _ t304 _ _ t308 t314 t315 _ ?side1 ?side2 ?side3 ?side4 ?side5 A20.out).mono ?_); (case side1 => exact gw_ HG.out); (case side2 => exact cb_ (Kd.R_reads' HO_7.out).2.2); (case side3 => exact (Kd.R_reads' HO_7.out).2.1); (case side4 => exact cb_ (Kd.R_reads' HO_9.out).2.2); (case side5 => exact (Kd.R_reads' HO_9.out).2.1); rintro e w30 ⟨v316, rfl, ho0, hb⟩; refine ⟨_, rfl, ?_⟩; have HO317 := Aside0.mk (Kd.R_lower (Kd.R_new' (Kd.R_new' ho0 (Kd.R_lt (rr_ HO_7))) (Kd.R_lt (rr_ HO_9))) (below_size bl_)); replace HO_7 := Aside0.mk (Kd.R_elder' (rr_ HO_7) (Kd.R_base ho0) hb); replace HO_9 := Aside0.mk (Kd.R_elder' (rr_ HO_9) (Kd.R_base ho0) hb); replace HB := Aside0.mk (below_step bl_ hb); (try clear hb); (try clear hb2); (try clear hk); (try clear hi); (try clear ho0)) | ((with_reducible refine gate_callee (f := 20) rfl ?_); refine gl_ (some 55) Tryz.func20 #[.slice Ao29 t308.length co29, .slice A0 l0.length c0] ?_; (with_reducible refine (shape_Minus.calls kj5 _ _ t308 _ _ l0 t318 t319 _ ?side1 ?side2 ?side3 ?side4 ?side5 A21.out).mono ?_); (case side1 => exact gw_ HG.out); (case side2 => exact cb_ (Kd.R_reads' HO_9.out).2.2); (case side3 => exact (Kd.R_reads' HO_9.out).2.1); (case side4 => exact cb_ (Kd.C_below HR0.out HB.out)); (case side5 => exact HC0.out); rintro e w31 ⟨v320, rfl, ho0, hb⟩; refine ⟨_, rfl, ?_⟩; have HO321 := Aside0.mk (Kd.R_lower (Kd.R_new' (Kd.R_new' (Kd.R_new' ho0 (Kd.R_lt (rr_ HO_7))) (Kd.R_lt (rr_ HO_9))) (Kd.R_lt (rr_ HO317))) (below_size bl_)); replace HO_7 := Aside0.mk (Kd.R_elder' (rr_ HO_7) (Kd.R_base ho0) hb); replace HO_9 := Aside0.mk (Kd.R_elder' (rr_ HO_9) (Kd.R_base ho0) hb); replace HO317 := Aside0.mk (Kd.R_elder' (rr_ HO317) (Kd.R_base ho0) hb); replace HB := Aside0.mk (below_step bl_ hb); (try clear hb); (try clear hb2); (try clear hk); (try clear hi); (try clear ho0); obtain ⟨Ao32, co32, eo32⟩ := Kd.R_slice HO317.out; subst eo32; obtain ⟨Ao33, co33, eo33⟩ := Kd.R_slice HO321.out; subst eo33) | (go_at_call 14; (with_reducible refine (etchhouselaw6_awake.calls kj5  t322 _ ?side1 A27.out).mono ?_); (case side1 => exact gw_ HG.out); rintro e w34 ⟨rfl, hb⟩; replace HO_7 := Aside0.mk (Kd.R_below (rr_ HO_7) hb); replace HO_9 := Aside0.mk (Kd.R_below (rr_ HO_9) hb); replace HO317 := Aside0.mk (Kd.R_below (rr_ HO317) hb); replace HO321 := Aside0.mk (Kd.R_below (rr_ HO321) hb); replace HB := Aside0.mk (below_step bl_ hb); (try clear hb); (try clear hb2); (try clear hk); (try clear hi)))
                  go_ret
                  exact ⟨by first | rfl | (simp [errW_none, errW_some] <;> rfl) | (simp [*, errW_none, errW_some] <;> rfl), bl_⟩
                · rw [if_neg c26] at H
                  have c26b0 : decide (1 < a1) = false := decide_eq_false c26
                  clear c26
                  by_cases c35 : (t304.length : Int) = 0
                  · rw [if_pos c35] at H
                    have c35b0 : ((t304.length : Int) == 0) = true := beq_iff_eq.mpr c35
                    have c35b1 : ((t304.length : Int) != 0) = false := bne_eq_false_iff_eq.mpr c35
                    clear c35
                    replace H := Option.bind_eq_some_iff.mp H
                    obtain ⟨t323, A360, H⟩ := H
                    try dsimp only at H
                    have A36 := Aside0.mk A360
                    clear A360
                    obtain rfl := Option.some.inj H
                    obtain ⟨Ao37, co37, eo37⟩ := Kd.R_slice HO_7.out
                    subst eo37
                    obtain ⟨Ao38, co38, eo38⟩ := Kd.R_slice HO_9.out
                    subst eo38
                    go_wp2_with (first | ((with_reducible refine gate_callee (f := 20) rfl ?_); refine gl_ (some 49) Tryz.func20 #[.slice Ao37 t304.length co37, .slice Ao38 t308.length co38] ?_; (with_reducible refine (shape_Minus.calls kj5 _ _ t304 _ _ t308 t314 t315 _ ?side1 ?side2 ?side3 ?side4 ?side5 A20.out).mono ?_); (case side1 => exact gw_ HG.out); (case side2 => exact cb_ (Kd.R_reads' HO_7.out).2.2); (case side3 => exact (Kd.R_reads' HO_7.out).2.1); (case side4 => exact cb_ (Kd.R_reads' HO_9.out).2.2); (case side5 => exact (Kd.R_reads' HO_9.out).2.1); rintro e w39 ⟨v316, rfl, ho0, hb⟩; refine ⟨_, rfl, ?_⟩; have HO317 := Aside0.mk (Kd.R_lower (Kd.R_new' (Kd.R_new' ho0 (Kd.R_lt (rr_ HO_7))) (Kd.R_lt (rr_ HO_9))) (below_size bl_)); replace HO_7 := Aside0.mk (Kd.R_elder' (rr_ HO_7) (Kd.R_base ho0) hb); replace HO_9 := Aside0.mk (Kd.R_elder' (rr_ HO_9) (Kd.R_base ho0) hb); replace HB := Aside0.mk (below_step bl_ hb); (try clear hb); (try clear hb2); (try clear hk); (try clear hi); (try clear ho0)) | ((with_reducible refine gate_callee (f := 20) rfl ?_); refine gl_ (some 55) Tryz.func20 #[.slice Ao38 t308.length co38, .slice A0 l0.length c0] ?_; (with_reducible refine (shape_Minus.calls kj5 _ _ t308 _ _ l0 t318 t319 _ ?side1 ?side2 ?side3 ?side4 ?side5 A21.out).mono ?_); (case side1 => exact gw_ HG.out); (case side2 => exact cb_ (Kd.R_reads' HO_9.out).2.2); (case side3 => exact (Kd.R_reads' HO_9.out).2.1); (case side4 => exact cb_ (Kd.C_below HR0.out HB.out)); (case side5 => exact HC0.out); rintro e w40 ⟨v320, rfl, ho0, hb⟩; refine ⟨_, rfl, ?_⟩; have HO321 := Aside0.mk (Kd.R_lower (Kd.R_new' (Kd.R_new' (Kd.R_new' ho0 (Kd.R_lt (rr_ HO_7))) (Kd.R_lt (rr_ HO_9))) (Kd.R_lt (rr_ HO317))) (below_size bl_)); replace HO_7 := Aside0.mk (Kd.R_elder' (rr_ HO_7) (Kd.R_base ho0) hb); replace HO_9 := Aside0.mk (Kd.R_elder' (rr_ HO_9) (Kd.R_base ho0) hb); replace HO317 := Aside0.mk (Kd.R_elder' (rr_ HO317) (Kd.R_base ho0) hb); replace HB := Aside0.mk (below_step bl_ hb); (try clear hb); (try clear hb2); (try clear hk); (try clear hi); (try clear ho0); obtain ⟨Ao41, co41, eo41⟩ := Kd.R_slice HO317.out; subst eo41; obtain ⟨Ao42, co42, eo42⟩ := Kd.R_slice HO321.out; subst eo42) | (go_at_call 14; (with_reducible refine (etchhouselaw6_awake.calls kj5  t323 _ ?side1 A36.out).mono ?_); (case side1 => exact gw_ HG.out); rintro e w43 ⟨rfl, hb⟩; replace HO_7 := Aside0.mk (Kd.R_below (rr_ HO_7) hb); replace HO_9 := Aside0.mk (Kd.R_below (rr_ HO_9) hb); replace HO317 := Aside0.mk (Kd.R_below (rr_ HO317) hb); replace HO321 := Aside0.mk (Kd.R_below (rr_ HO321) hb); replace HB := Aside0.mk (below_step bl_ hb); (try clear hb); (try clear hb2); (try clear hk); (try clear hi)))
                    go_ret
                    exact ⟨by first | rfl | (simp [errW_none, errW_some] <;> rfl) | (simp [*, errW_none, errW_some] <;> rfl), bl_⟩
                  · rw [if_neg c35] at H
                    have c35b0 : ((t304.length : Int) == 0) = false := beq_eq_false_iff_ne.mpr c35
                    have c35b1 : ((t304.length : Int) != 0) = true := bne_iff_ne.mpr c35
                    have c35b2 : ¬ (t304 = []) := fun h_ => c35 (by rw [h_]; rfl)
                    obtain rfl := Option.some.inj H
                    obtain ⟨Ao44, co44, eo44⟩ := Kd.R_slice HO_7.out
                    subst eo44
                    obtain ⟨Ao45, co45, eo45⟩ := Kd.R_slice HO_9.out
                    subst eo45
                    go_wp2_with (first | ((with_reducible refine gate_callee (f := 20) rfl ?_); refine gl_ (some 49) Tryz.func20 #[.slice Ao44 t304.length co44, .slice Ao45 t308.length co45] ?_; (with_reducible refine (shape_Minus.calls kj5 _ _ t304 _ _ t308 t314 t315 _ ?side1 ?side2 ?side3 ?side4 ?side5 A20.out).mono ?_); (case side1 => exact gw_ HG.out); (case side2 => exact cb_ (Kd.R_reads' HO_7.out).2.2); (case side3 => exact (Kd.R_reads' HO_7.out).2.1); (case side4 => exact cb_ (Kd.R_reads' HO_9.out).2.2); (case side5 => exact (Kd.R_reads' HO_9.out).2.1); rintro e w46 ⟨v316, rfl, ho0, hb⟩; refine ⟨_, rfl, ?_⟩; have HO317 := Aside0.mk (Kd.R_lower (Kd.R_new' (Kd.R_new' ho0 (Kd.R_lt (rr_ HO_7))) (Kd.R_lt (rr_ HO_9))) (below_size bl_)); replace HO_7 := Aside0.mk (Kd.R_elder' (rr_ HO_7) (Kd.R_base ho0) hb); replace HO_9 := Aside0.mk (Kd.R_elder' (rr_ HO_9) (Kd.R_base ho0) hb); replace HB := Aside0.mk (below_step bl_ hb); (try clear hb); (try clear hb2); (try clear hk); (try clear hi); (try clear ho0)) | ((with_reducible refine gate_callee (f := 20) rfl ?_); refine gl_ (some 55) Tryz.func20 #[.slice Ao45 t308.length co45, .slice A0 l0.length c0] ?_; (with_reducible refine (shape_Minus.calls kj5 _ _ t308 _ _ l0 t318 t319 _ ?side1 ?side2 ?side3 ?side4 ?side5 A21.out).mono ?_); (case side1 => exact gw_ HG.out); (case side2 => exact cb_ (Kd.R_reads' HO_9.out).2.2); (case side3 => exact (Kd.R_reads' HO_9.out).2.1); (case side4 => exact cb_ (Kd.C_below HR0.out HB.out)); (case side5 => exact HC0.out); rintro e w47 ⟨v320, rfl, ho0, hb⟩; refine ⟨_, rfl, ?_⟩; have HO321 := Aside0.mk (Kd.R_lower (Kd.R_new' (Kd.R_new' (Kd.R_new' ho0 (Kd.R_lt (rr_ HO_7))) (Kd.R_lt (rr_ HO_9))) (Kd.R_lt (rr_ HO317))) (below_size bl_)); replace HO_7 := Aside0.mk (Kd.R_elder' (rr_ HO_7) (Kd.R_base ho0) hb); replace HO_9 := Aside0.mk (Kd.R_elder' (rr_ HO_9) (Kd.R_base ho0) hb); replace HO317 := Aside0.mk (Kd.R_elder' (rr_ HO317) (Kd.R_base ho0) hb); replace HB := Aside0.mk (below_step bl_ hb); (try clear hb); (try clear hb2); (try clear hk); (try clear hi); (try clear ho0); obtain ⟨Ao48, co48, eo48⟩ := Kd.R_slice HO317.out; subst eo48; obtain ⟨Ao49, co49, eo49⟩ := Kd.R_slice HO321.out; subst eo49))
                    go_ret
                    exact ⟨by first | rfl | (simp [errW_none, errW_some] <;> rfl) | (simp [*, errW_none, errW_some] <;> rfl), bl_⟩
              · rw [if_neg c25] at H
                have c25b0 : ((t318.length : Int) == 0) = false := beq_eq_false_iff_ne.mpr c25
                have c25b1 : ((t318.length : Int) != 0) = true := bne_iff_ne.mpr c25
                have c25b2 : ¬ (t318 = []) := fun h_ => c25 (by rw [h_]; rfl)
                obtain rfl := Option.some.inj H
                obtain ⟨Ao50, co50, eo50⟩ := Kd.R_slice HO_7.out
                subst eo50
                obtain ⟨Ao51, co51, eo51⟩ := Kd.R_slice HO_9.out
                subst eo51
                go_wp2_with (first | ((with_reducible refine gate_callee (f := 20) rfl ?_); refine gl_ (some 49) Tryz.func20 #[.slice Ao50 t304.length co50, .slice Ao51 t308.length co51] ?_; (with_reducible refine (shape_Minus.calls kj5 _ _ t304 _ _ t308 t314 t315 _ ?side1 ?side2 ?side3 ?side4 ?side5 A20.out).mono ?_); (case side1 => exact gw_ HG.out); (case side2 => exact cb_ (Kd.R_reads' HO_7.out).2.2); (case side3 => exact (Kd.R_reads' HO_7.out).2.1); (case side4 => exact cb_ (Kd.R_reads' HO_9.out).2.2); (case side5 => exact (Kd.R_reads' HO_9.out).2.1); rintro e w52 ⟨v316, rfl, ho0, hb⟩; refine ⟨_, rfl, ?_⟩; have HO317 := Aside0.mk (Kd.R_lower (Kd.R_new' (Kd.R_new' ho0 (Kd.R_lt (rr_ HO_7))) (Kd.R_lt (rr_ HO_9))) (below_size bl_)); replace HO_7 := Aside0.mk (Kd.R_elder' (rr_ HO_7) (Kd.R_base ho0) hb); replace HO_9 := Aside0.mk (Kd.R_elder' (rr_ HO_9) (Kd.R_base ho0) hb); replace HB := Aside0.mk (below_step bl_ hb); (try clear hb); (try clear hb2); (try clear hk); (try clear hi); (try clear ho0)) | ((with_reducible refine gate_callee (f := 20) rfl ?_); refine gl_ (some 55) Tryz.func20 #[.slice Ao51 t308.length co51, .slice A0 l0.length c0] ?_; (with_reducible refine (shape_Minus.calls kj5 _ _ t308 _ _ l0 t318 t319 _ ?side1 ?side2 ?side3 ?side4 ?side5 A21.out).mono ?_); (case side1 => exact gw_ HG.out); (case side2 => exact cb_ (Kd.R_reads' HO_9.out).2.2); (case side3 => exact (Kd.R_reads' HO_9.out).2.1); (case side4 => exact cb_ (Kd.C_below HR0.out HB.out)); (case side5 => exact HC0.out); rintro e w53 ⟨v320, rfl, ho0, hb⟩; refine ⟨_, rfl, ?_⟩; have HO321 := Aside0.mk (Kd.R_lower (Kd.R_new' (Kd.R_new' (Kd.R_new' ho0 (Kd.R_lt (rr_ HO_7))) (Kd.R_lt (rr_ HO_9))) (Kd.R_lt (rr_ HO317))) (below_size bl_)); replace HO_7 := Aside0.mk (Kd.R_elder' (rr_ HO_7) (Kd.R_base ho0) hb); replace HO_9 := Aside0.mk (Kd.R_elder' (rr_ HO_9) (Kd.R_base ho0) hb); replace HO317 := Aside0.mk (Kd.R_elder' (rr_ HO317) (Kd.R_base ho0) hb); replace HB := Aside0.mk (below_step bl_ hb); (try clear hb); (try clear hb2); (try clear hk); (try clear hi); (try clear ho0); obtain ⟨Ao54, co54, eo54⟩ := Kd.R_slice HO317.out; subst eo54; obtain ⟨Ao55, co55, eo55⟩ := Kd.R_slice HO321.out; subst eo55))
                go_ret
                exact ⟨by first | rfl | (simp [errW_none, errW_some] <;> rfl) | (simp [*, errW_none, errW_some] <;> rfl), bl_⟩
            · rw [if_neg c24] at H
              have c24b0 : (t319 == 0) = false := beq_eq_false_iff_ne.mpr c24
              have c24b1 : (t319 != 0) = true := bne_iff_ne.mpr c24
              by_cases c56 : a1 > 1
              · rw [if_pos c56] at H
                have c56b0 : decide (1 < a1) = true := decide_eq_true c56
                clear c56
                replace H := Option.bind_eq_some_iff.mp H
                obtain ⟨t324, A570, H⟩ := H
                try dsimp only at H
                have A57 := Aside0.mk A570
                clear A570
                obtain rfl := Option.some.inj H
                obtain ⟨Ao58, co58, eo58⟩ := Kd.R_slice HO_7.out
                subst eo58
                obtain ⟨Ao59, co59, eo59⟩ := Kd.R_slice HO_9.out
                subst eo59
                go_wp2_with (first | ((with_reducible refine gate_callee (f := 20) rfl ?_); refine gl_ (some 49) Tryz.func20 #[.slice Ao58 t304.length co58, .slice Ao59 t308.length co59] ?_; (with_reducible refine (shape_Minus.calls kj5 _ _ t304 _ _ t308 t314 t315 _ ?side1 ?side2 ?side3 ?side4 ?side5 A20.out).mono ?_); (case side1 => exact gw_ HG.out); (case side2 => exact cb_ (Kd.R_reads' HO_7.out).2.2); (case side3 => exact (Kd.R_reads' HO_7.out).2.1); (case side4 => exact cb_ (Kd.R_reads' HO_9.out).2.2); (case side5 => exact (Kd.R_reads' HO_9.out).2.1); rintro e w60 ⟨v316, rfl, ho0, hb⟩; refine ⟨_, rfl, ?_⟩; have HO317 := Aside0.mk (Kd.R_lower (Kd.R_new' (Kd.R_new' ho0 (Kd.R_lt (rr_ HO_7))) (Kd.R_lt (rr_ HO_9))) (below_size bl_)); replace HO_7 := Aside0.mk (Kd.R_elder' (rr_ HO_7) (Kd.R_base ho0) hb); replace HO_9 := Aside0.mk (Kd.R_elder' (rr_ HO_9) (Kd.R_base ho0) hb); replace HB := Aside0.mk (below_step bl_ hb); (try clear hb); (try clear hb2); (try clear hk); (try clear hi); (try clear ho0)) | ((with_reducible refine gate_callee (f := 20) rfl ?_); refine gl_ (some 55) Tryz.func20 #[.slice Ao59 t308.length co59, .slice A0 l0.length c0] ?_; (with_reducible refine (shape_Minus.calls kj5 _ _ t308 _ _ l0 t318 t319 _ ?side1 ?side2 ?side3 ?side4 ?side5 A21.out).mono ?_); (case side1 => exact gw_ HG.out); (case side2 => exact cb_ (Kd.R_reads' HO_9.out).2.2); (case side3 => exact (Kd.R_reads' HO_9.out).2.1); (case side4 => exact cb_ (Kd.C_below HR0.out HB.out)); (case side5 => exact HC0.out); rintro e w61 ⟨v320, rfl, ho0, hb⟩; refine ⟨_, rfl, ?_⟩; have HO321 := Aside0.mk (Kd.R_lower (Kd.R_new' (Kd.R_new' (Kd.R_new' ho0 (Kd.R_lt (rr_ HO_7))) (Kd.R_lt (rr_ HO_9))) (Kd.R_lt (rr_ HO317))) (below_size bl_)); replace HO_7 := Aside0.mk (Kd.R_elder' (rr_ HO_7) (Kd.R_base ho0) hb); replace HO_9 := Aside0.mk (Kd.R_elder' (rr_ HO_9) (Kd.R_base ho0) hb); replace HO317 := Aside0.mk (Kd.R_elder' (rr_ HO317) (Kd.R_base ho0) hb); replace HB := Aside0.mk (below_step bl_ hb); (try clear hb); (try clear hb2); (try clear hk); (try clear hi); (try clear ho0); obtain ⟨Ao62, co62, eo62⟩ := Kd.R_slice HO317.out; subst eo62) | (go_at_call 14; (with_reducible refine (etchhouselaw6_awake.calls kj5  t324 _ ?side1 A57.out).mono ?_); (case side1 => exact gw_ HG.out); rintro e w63 ⟨rfl, hb⟩; replace HO_7 := Aside0.mk (Kd.R_below (rr_ HO_7) hb); replace HO_9 := Aside0.mk (Kd.R_below (rr_ HO_9) hb); replace HO317 := Aside0.mk (Kd.R_below (rr_ HO317) hb); replace HO321 := Aside0.mk (Kd.R_below (rr_ HO321) hb); replace HB := Aside0.mk (below_step bl_ hb); (try clear hb); (try clear hb2); (try clear hk); (try clear hi)))
                go_ret
                exact ⟨by first | rfl | (simp [errW_none, errW_some] <;> rfl) | (simp [*, errW_none, errW_some] <;> rfl), bl_⟩
              · rw [if_neg c56] at H
                have c56b0 : decide (1 < a1) = false := decide_eq_false c56
                clear c56
                by_cases c64 : (t304.length : Int) = 0
                · rw [if_pos c64] at H
                  have c64b0 : ((t304.length : Int) == 0) = true := beq_iff_eq.mpr c64
                  have c64b1 : ((t304.length : Int) != 0) = false := bne_eq_false_iff_eq.mpr c64
                  clear c64
                  replace H := Option.bind_eq_some_iff.mp H
                  obtain ⟨t325, A650, H⟩ := H
                  try dsimp only at H
                  have A65 := Aside0.mk A650
                  clear A650
                  obtain rfl := Option.some.inj H
                  obtain ⟨Ao66, co66, eo66⟩ := Kd.R_slice HO_7.out
                  subst eo66
                  obtain ⟨Ao67, co67, eo67⟩ := Kd.R_slice HO_9.out
                  subst eo67
                  go_wp2_with (first | ((with_reducible refine gate_callee (f := 20) rfl ?_); refine gl_ (some 49) Tryz.func20 #[.slice Ao66 t304.length co66, .slice Ao67 t308.length co67] ?_; (with_reducible refine (shape_Minus.calls kj5 _ _ t304 _ _ t308 t314 t315 _ ?side1 ?side2 ?side3 ?side4 ?side5 A20.out).mono ?_); (case side1 => exact gw_ HG.out); (case side2 => exact cb_ (Kd.R_reads' HO_7.out).2.2); (case side3 => exact (Kd.R_reads' HO_7.out).2.1); (case side4 => exact cb_ (Kd.R_reads' HO_9.out).2.2); (case side5 => exact (Kd.R_reads' HO_9.out).2.1); rintro e w68 ⟨v316, rfl, ho0, hb⟩; refine ⟨_, rfl, ?_⟩; have HO317 := Aside0.mk (Kd.R_lower (Kd.R_new' (Kd.R_new' ho0 (Kd.R_lt (rr_ HO_7))) (Kd.R_lt (rr_ HO_9))) (below_size bl_)); replace HO_7 := Aside0.mk (Kd.R_elder' (rr_ HO_7) (Kd.R_base ho0) hb); replace HO_9 := Aside0.mk (Kd.R_elder' (rr_ HO_9) (Kd.R_base ho0) hb); replace HB := Aside0.mk (below_step bl_ hb); (try clear hb); (try clear hb2); (try clear hk); (try clear hi); (try clear ho0)) | ((with_reducible refine gate_callee (f := 20) rfl ?_); refine gl_ (some 55) Tryz.func20 #[.slice Ao67 t308.length co67, .slice A0 l0.length c0] ?_; (with_reducible refine (shape_Minus.calls kj5 _ _ t308 _ _ l0 t318 t319 _ ?side1 ?side2 ?side3 ?side4 ?side5 A21.out).mono ?_); (case side1 => exact gw_ HG.out); (case side2 => exact cb_ (Kd.R_reads' HO_9.out).2.2); (case side3 => exact (Kd.R_reads' HO_9.out).2.1); (case side4 => exact cb_ (Kd.C_below HR0.out HB.out)); (case side5 => exact HC0.out); rintro e w69 ⟨v320, rfl, ho0, hb⟩; refine ⟨_, rfl, ?_⟩; have HO321 := Aside0.mk (Kd.R_lower (Kd.R_new' (Kd.R_new' (Kd.R_new' ho0 (Kd.R_lt (rr_ HO_7))) (Kd.R_lt (rr_ HO_9))) (Kd.R_lt (rr_ HO317))) (below_size bl_)); replace HO_7 := Aside0.mk (Kd.R_elder' (rr_ HO_7) (Kd.R_base ho0) hb); replace HO_9 := Aside0.mk (Kd.R_elder' (rr_ HO_9) (Kd.R_base ho0) hb); replace HO317 := Aside0.mk (Kd.R_elder' (rr_ HO317) (Kd.R_base ho0) hb); replace HB := Aside0.mk (below_step bl_ hb); (try clear hb); (try clear hb2); (try clear hk); (try clear hi); (try clear ho0); obtain ⟨Ao70, co70, eo70⟩ := Kd.R_slice HO317.out; subst eo70) | (go_at_call 14; (with_reducible refine (etchhouselaw6_awake.calls kj5  t325 _ ?side1 A65.out).mono ?_); (case side1 => exact gw_ HG.out); rintro e w71 ⟨rfl, hb⟩; replace HO_7 := Aside0.mk (Kd.R_below (rr_ HO_7) hb); replace HO_9 := Aside0.mk (Kd.R_below (rr_ HO_9) hb); replace HO317 := Aside0.mk (Kd.R_below (rr_ HO317) hb); replace HO321 := Aside0.mk (Kd.R_below (rr_ HO321) hb); replace HB := Aside0.mk (below_step bl_ hb); (try clear hb); (try clear hb2); (try clear hk); (try clear hi)))
                  go_ret
                  exact ⟨by first | rfl | (simp [errW_none, errW_some] <;> rfl) | (simp [*, errW_none, errW_some] <;> rfl), bl_⟩
                · rw [if_neg c64] at H
                  have c64b0 : ((t304.length : Int) == 0) = false := beq_eq_false_iff_ne.mpr c64
                  have c64b1 : ((t304.length : Int) != 0) = true := bne_iff_ne.mpr c64
                  have c64b2 : ¬ (t304 = []) := fun h_ => c64 (by rw [h_]; rfl)
                  obtain rfl := Option.some.inj H
                  obtain ⟨Ao72, co72, eo72⟩ := Kd.R_slice HO_7.out
                  subst eo72
                  obtain ⟨Ao73, co73, eo73⟩ := Kd.R_slice HO_9.out
                  subst eo73
                  go_wp2_with (first | ((with_reducible refine gate_callee (f := 20) rfl ?_); refine gl_ (some 49) Tryz.func20 #[.slice Ao72 t304.length co72, .slice Ao73 t308.length co73] ?_; (with_reducible refine (shape_Minus.calls kj5 _ _ t304 _ _ t308 t314 t315 _ ?side1 ?side2 ?side3 ?side4 ?side5 A20.out).mono ?_); (case side1 => exact gw_ HG.out); (case side2 => exact cb_ (Kd.R_reads' HO_7.out).2.2); (case side3 => exact (Kd.R_reads' HO_7.out).2.1); (case side4 => exact cb_ (Kd.R_reads' HO_9.out).2.2); (case side5 => exact (Kd.R_reads' HO_9.out).2.1); rintro e w74 ⟨v316, rfl, ho0, hb⟩; refine ⟨_, rfl, ?_⟩; have HO317 := Aside0.mk (Kd.R_lower (Kd.R_new' (Kd.R_new' ho0 (Kd.R_lt (rr_ HO_7))) (Kd.R_lt (rr_ HO_9))) (below_size bl_)); replace HO_7 := Aside0.mk (Kd.R_elder' (rr_ HO_7) (Kd.R_base ho0) hb); replace HO_9 := Aside0.mk (Kd.R_elder' (rr_ HO_9) (Kd.R_base ho0) hb); replace HB := Aside0.mk (below_step bl_ hb); (try clear hb); (try clear hb2); (try clear hk); (try clear hi); (try clear ho0)) | ((with_reducible refine gate_callee (f := 20) rfl ?_); refine gl_ (some 55) Tryz.func20 #[.slice Ao73 t308.length co73, .slice A0 l0.length c0] ?_; (with_reducible refine (shape_Minus.calls kj5 _ _ t308 _ _ l0 t318 t319 _ ?side1 ?side2 ?side3 ?side4 ?side5 A21.out).mono ?_); (case side1 => exact gw_ HG.out); (case side2 => exact cb_ (Kd.R_reads' HO_9.out).2.2); (case side3 => exact (Kd.R_reads' HO_9.out).2.1); (case side4 => exact cb_ (Kd.C_below HR0.out HB.out)); (case side5 => exact HC0.out); rintro e w75 ⟨v320, rfl, ho0, hb⟩; refine ⟨_, rfl, ?_⟩; have HO321 := Aside0.mk (Kd.R_lower (Kd.R_new' (Kd.R_new' (Kd.R_new' ho0 (Kd.R_lt (rr_ HO_7))) (Kd.R_lt (rr_ HO_9))) (Kd.R_lt (rr_ HO317))) (below_size bl_)); replace HO_7 := Aside0.mk (Kd.R_elder' (rr_ HO_7) (Kd.R_base ho0) hb); replace HO_9 := Aside0.mk (Kd.R_elder' (rr_ HO_9) (Kd.R_base ho0) hb); replace HO317 := Aside0.mk (Kd.R_elder' (rr_ HO317) (Kd.R_base ho0) hb); replace HB := Aside0.mk (below_step bl_ hb); (try clear hb); (try clear hb2); (try clear hk); (try clear hi); (try clear ho0); obtain ⟨Ao76, co76, eo76⟩ := Kd.R_slice HO317.out; subst eo76))
                  go_ret
                  exact ⟨by first | rfl | (simp [errW_none, errW_some] <;> rfl) | (simp [*, errW_none, errW_some] <;> rfl), bl_⟩
          · rw [if_neg c23] at H
            have c23b0 : ((t314.length : Int) == 0) = false := beq_eq_false_iff_ne.mpr c23
            have c23b1 : ((t314.length : Int) != 0) = true := bne_iff_ne.mpr c23
            have c23b2 : ¬ (t314 = []) := fun h_ => c23 (by rw [h_]; rfl)
            obtain rfl := Option.some.inj H
            obtain ⟨Ao77, co77, eo77⟩ := Kd.R_slice HO_7.out
            subst eo77
            obtain ⟨Ao78, co78, eo78⟩ := Kd.R_slice HO_9.out
            subst eo78
            go_wp2_with (first | ((with_reducible refine gate_callee (f := 20) rfl ?_); refine gl_ (some 49) Tryz.func20 #[.slice Ao77 t304.length co77, .slice Ao78 t308.length co78] ?_; (with_reducible refine (shape_Minus.calls kj5 _ _ t304 _ _ t308 t314 t315 _ ?side1 ?side2 ?side3 ?side4 ?side5 A20.out).mono ?_); (case side1 => exact gw_ HG.out); (case side2 => exact cb_ (Kd.R_reads' HO_7.out).2.2); (case side3 => exact (Kd.R_reads' HO_7.out).2.1); (case side4 => exact cb_ (Kd.R_reads' HO_9.out).2.2); (case side5 => exact (Kd.R_reads' HO_9.out).2.1); rintro e w79 ⟨v316, rfl, ho0, hb⟩; refine ⟨_, rfl, ?_⟩; have HO317 := Aside0.mk (Kd.R_lower (Kd.R_new' (Kd.R_new' ho0 (Kd.R_lt (rr_ HO_7))) (Kd.R_lt (rr_ HO_9))) (below_size bl_)); replace HO_7 := Aside0.mk (Kd.R_elder' (rr_ HO_7) (Kd.R_base ho0) hb); replace HO_9 := Aside0.mk (Kd.R_elder' (rr_ HO_9) (Kd.R_base ho0) hb); replace HB := Aside0.mk (below_step bl_ hb); (try clear hb); (try clear hb2); (try clear hk); (try clear hi); (try clear ho0)) | ((with_reducible refine gate_callee (f := 20) rfl ?_); refine gl_ (some 55) Tryz.func20 #[.slice Ao78 t308.length co78, .slice A0 l0.length c0] ?_; (with_reducible refine (shape_Minus.calls kj5 _ _ t308 _ _ l0 t318 t319 _ ?side1 ?side2 ?side3 ?side4 ?side5 A21.out).mono ?_); (case side1 => exact gw_ HG.out); (case side2 => exact cb_ (Kd.R_reads' HO_9.out).2.2); (case side3 => exact (Kd.R_reads' HO_9.out).2.1); (case side4 => exact cb_ (Kd.C_below HR0.out HB.out)); (case side5 => exact HC0.out); rintro e w80 ⟨v320, rfl, ho0, hb⟩; refine ⟨_, rfl, ?_⟩; have HO321 := Aside0.mk (Kd.R_lower (Kd.R_new' (Kd.R_new' (Kd.R_new' ho0 (Kd.R_lt (rr_ HO_7))) (Kd.R_lt (rr_ HO_9))) (Kd.R_lt (rr_ HO317))) (below_size bl_)); replace HO_7 := Aside0.mk (Kd.R_elder' (rr_ HO_7) (Kd.R_base ho0) hb); replace HO_9 := Aside0.mk (Kd.R_elder' (rr_ HO_9) (Kd.R_base ho0) hb); replace HO317 := Aside0.mk (Kd.R_elder' (rr_ HO317) (Kd.R_base ho0) hb); replace HB := Aside0.mk (below_step bl_ hb); (try clear hb); (try clear hb2); (try clear hk); (try clear hi); (try clear ho0); obtain ⟨Ao81, co81, eo81⟩ := Kd.R_slice HO317.out; subst eo81))
            go_ret
            exact ⟨by first | rfl | (simp [errW_none, errW_some] <;> rfl) | (simp [*, errW_none, errW_some] <;> rfl), bl_⟩
        · rw [if_neg c22] at H
          have c22b0 : (t315 == 0) = false := beq_eq_false_iff_ne.mpr c22
          have c22b1 : (t315 != 0) = true := bne_iff_ne.mpr c22
          by_cases c82 : t319 = 0
          · rw [if_pos c82] at H
            have c82b0 : (t319 == 0) = true := beq_iff_eq.mpr c82
            have c82b1 : (t319 != 0) = false := bne_eq_false_iff_eq.mpr c82
            clear c82
            by_cases c83 : (t318.length : Int) = 0
            · rw [if_pos c83] at H
              have c83b0 : ((t318.length : Int) == 0) = true := beq_iff_eq.mpr c83
              have c83b1 : ((t318.length : Int) != 0) = false := bne_eq_false_iff_eq.mpr c83
              clear c83
              by_cases c84 : a1 > 1
              · rw [if_pos c84] at H
                have c84b0 : decide (1 < a1) = true := decide_eq_true c84
                clear c84
                replace H := Option.bind_eq_some_iff.mp H
                obtain ⟨t326, A850, H⟩ := H
                try dsimp only at H
                have A85 := Aside0.mk A850
                clear A850
                obtain rfl := Option.some.inj H
                obtain ⟨Ao86, co86, eo86⟩ := Kd.R_slice HO_7.out
                subst eo86
                obtain ⟨Ao87, co87, eo87⟩ := Kd.R_slice HO_9.out
                subst eo87
                go_wp2_with (first | ((with_reducible refine gate_callee (f := 20) rfl ?_); refine gl_ (some 49) Tryz.func20 #[.slice Ao86 t304.length co86, .slice Ao87 t308.length co87] ?_; (with_reducible refine (shape_Minus.calls kj5 _ _ t304 _ _ t308 t314 t315 _ ?side1 ?side2 ?side3 ?side4 ?side5 A20.out).mono ?_); (case side1 => exact gw_ HG.out); (case side2 => exact cb_ (Kd.R_reads' HO_7.out).2.2); (case side3 => exact (Kd.R_reads' HO_7.out).2.1); (case side4 => exact cb_ (Kd.R_reads' HO_9.out).2.2); (case side5 => exact (Kd.R_reads' HO_9.out).2.1); rintro e w88 ⟨v316, rfl, ho0, hb⟩; refine ⟨_, rfl, ?_⟩; have HO317 := Aside0.mk (Kd.R_lower (Kd.R_new' (Kd.R_new' ho0 (Kd.R_lt (rr_ HO_7))) (Kd.R_lt (rr_ HO_9))) (below_size bl_)); replace HO_7 := Aside0.mk (Kd.R_elder' (rr_ HO_7) (Kd.R_base ho0) hb); replace HO_9 := Aside0.mk (Kd.R_elder' (rr_ HO_9) (Kd.R_base ho0) hb); replace HB := Aside0.mk (below_step bl_ hb); (try clear hb); (try clear hb2); (try clear hk); (try clear hi); (try clear ho0)) | ((with_reducible refine gate_callee (f := 20) rfl ?_); refine gl_ (some 55) Tryz.func20 #[.slice Ao87 t308.length co87, .slice A0 l0.length c0] ?_; (with_reducible refine (shape_Minus.calls kj5 _ _ t308 _ _ l0 t318 t319 _ ?side1 ?side2 ?side3 ?side4 ?side5 A21.out).mono ?_); (case side1 => exact gw_ HG.out); (case side2 => exact cb_ (Kd.R_reads' HO_9.out).2.2); (case side3 => exact (Kd.R_reads' HO_9.out).2.1); (case side4 => exact cb_ (Kd.C_below HR0.out HB.out)); (case side5 => exact HC0.out); rintro e w89 ⟨v320, rfl, ho0, hb⟩; refine ⟨_, rfl, ?_⟩; have HO321 := Aside0.mk (Kd.R_lower (Kd.R_new' (Kd.R_new' (Kd.R_new' ho0 (Kd.R_lt (rr_ HO_7))) (Kd.R_lt (rr_ HO_9))) (Kd.R_lt (rr_ HO317))) (below_size bl_)); replace HO_7 := Aside0.mk (Kd.R_elder' (rr_ HO_7) (Kd.R_base ho0) hb); replace HO_9 := Aside0.mk (Kd.R_elder' (rr_ HO_9) (Kd.R_base ho0) hb); replace HO317 := Aside0.mk (Kd.R_elder' (rr_ HO317) (Kd.R_base ho0) hb); replace HB := Aside0.mk (below_step bl_ hb); (try clear hb); (try clear hb2); (try clear hk); (try clear hi); (try clear ho0); obtain ⟨Ao90, co90, eo90⟩ := Kd.R_slice HO321.out; subst eo90) | (go_at_call 14; (with_reducible refine (etchhouselaw6_awake.calls kj5  t326 _ ?side1 A85.out).mono ?_); (case side1 => exact gw_ HG.out); rintro e w91 ⟨rfl, hb⟩; replace HO_7 := Aside0.mk (Kd.R_below (rr_ HO_7) hb); replace HO_9 := Aside0.mk (Kd.R_below (rr_ HO_9) hb); replace HO317 := Aside0.mk (Kd.R_below (rr_ HO317) hb); replace HO321 := Aside0.mk (Kd.R_below (rr_ HO321) hb); replace HB := Aside0.mk (below_step bl_ hb); (try clear hb); (try clear hb2); (try clear hk); (try clear hi)))
                go_ret
                exact ⟨by first | rfl | (simp [errW_none, errW_some] <;> rfl) | (simp [*, errW_none, errW_some] <;> rfl), bl_⟩
              · rw [if_neg c84] at H
                have c84b0 : decide (1 < a1) = false := decide_eq_false c84
                clear c84
                by_cases c92 : (t304.length : Int) = 0
                · rw [if_pos c92] at H
                  have c92b0 : ((t304.length : Int) == 0) = true := beq_iff_eq.mpr c92
                  have c92b1 : ((t304.length : Int) != 0) = false := bne_eq_false_iff_eq.mpr c92
                  clear c92
                  replace H := Option.bind_eq_some_iff.mp H
                  obtain ⟨t327, A930, H⟩ := H
                  try dsimp only at H
                  have A93 := Aside0.mk A930
                  clear A930
                  obtain rfl := Option.some.inj H
                  obtain ⟨Ao94, co94, eo94⟩ := Kd.R_slice HO_7.out
                  subst eo94
                  obtain ⟨Ao95, co95, eo95⟩ := Kd.R_slice HO_9.out
                  subst eo95
                  go_wp2_with (first | ((with_reducible refine gate_callee (f := 20) rfl ?_); refine gl_ (some 49) Tryz.func20 #[.slice Ao94 t304.length co94, .slice Ao95 t308.length co95] ?_; (with_reducible refine (shape_Minus.calls kj5 _ _ t304 _ _ t308 t314 t315 _ ?side1 ?side2 ?side3 ?side4 ?side5 A20.out).mono ?_); (case side1 => exact gw_ HG.out); (case side2 => exact cb_ (Kd.R_reads' HO_7.out).2.2); (case side3 => exact (Kd.R_reads' HO_7.out).2.1); (case side4 => exact cb_ (Kd.R_reads' HO_9.out).2.2); (case side5 => exact (Kd.R_reads' HO_9.out).2.1); rintro e w96 ⟨v316, rfl, ho0, hb⟩; refine ⟨_, rfl, ?_⟩; have HO317 := Aside0.mk (Kd.R_lower (Kd.R_new' (Kd.R_new' ho0 (Kd.R_lt (rr_ HO_7))) (Kd.R_lt (rr_ HO_9))) (below_size bl_)); replace HO_7 := Aside0.mk (Kd.R_elder' (rr_ HO_7) (Kd.R_base ho0) hb); replace HO_9 := Aside0.mk (Kd.R_elder' (rr_ HO_9) (Kd.R_base ho0) hb); replace HB := Aside0.mk (below_step bl_ hb); (try clear hb); (try clear hb2); (try clear hk); (try clear hi); (try clear ho0)) | ((with_reducible refine gate_callee (f := 20) rfl ?_); refine gl_ (some 55) Tryz.func20 #[.slice Ao95 t308.length co95, .slice A0 l0.length c0] ?_; (with_reducible refine (shape_Minus.calls kj5 _ _ t308 _ _ l0 t318 t319 _ ?side1 ?side2 ?side3 ?side4 ?side5 A21.out).mono ?_); (case side1 => exact gw_ HG.out); (case side2 => exact cb_ (Kd.R_reads' HO_9.out).2.2); (case side3 => exact (Kd.R_reads' HO_9.out).2.1); (case side4 => exact cb_ (Kd.C_below HR0.out HB.out)); (case side5 => exact HC0.out); rintro e w97 ⟨v320, rfl, ho0, hb⟩; refine ⟨_, rfl, ?_⟩; have HO321 := Aside0.mk (Kd.R_lower (Kd.R_new' (Kd.R_new' (Kd.R_new' ho0 (Kd.R_lt (rr_ HO_7))) (Kd.R_lt (rr_ HO_9))) (Kd.R_lt (rr_ HO317))) (below_size bl_)); replace HO_7 := Aside0.mk (Kd.R_elder' (rr_ HO_7) (Kd.R_base ho0) hb); replace HO_9 := Aside0.mk (Kd.R_elder' (rr_ HO_9) (Kd.R_base ho0) hb); replace HO317 := Aside0.mk (Kd.R_elder' (rr_ HO317) (Kd.R_base ho0) hb); replace HB := Aside0.mk (below_step bl_ hb); (try clear hb); (try clear hb2); (try clear hk); (try clear hi); (try clear ho0); obtain ⟨Ao98, co98, eo98⟩ := Kd.R_slice HO321.out; subst eo98) | (go_at_call 14; (with_reducible refine (etchhouselaw6_awake.calls kj5  t327 _ ?side1 A93.out).mono ?_); (case side1 => exact gw_ HG.out); rintro e w99 ⟨rfl, hb⟩; replace HO_7 := Aside0.mk (Kd.R_below (rr_ HO_7) hb); replace HO_9 := Aside0.mk (Kd.R_below (rr_ HO_9) hb); replace HO317 := Aside0.mk (Kd.R_below (rr_ HO317) hb); replace HO321 := Aside0.mk (Kd.R_below (rr_ HO321) hb); replace HB := Aside0.mk (below_step bl_ hb); (try clear hb); (try clear hb2); (try clear hk); (try clear hi)))
                  go_ret
                  exact ⟨by first | rfl | (simp [errW_none, errW_some] <;> rfl) | (simp [*, errW_none, errW_some] <;> rfl), bl_⟩
                · rw [if_neg c92] at H
                  have c92b0 : ((t304.length : Int) == 0) = false := beq_eq_false_iff_ne.mpr c92
                  have c92b1 : ((t304.length : Int) != 0) = true := bne_iff_ne.mpr c92
                  have c92b2 : ¬ (t304 = []) := fun h_ => c92 (by rw [h_]; rfl)
                  obtain rfl := Option.some.inj H
                  obtain ⟨Ao100, co100, eo100⟩ := Kd.R_slice HO_7.out
                  subst eo100
                  obtain ⟨Ao101, co101, eo101⟩ := Kd.R_slice HO_9.out
                  subst eo101
                  go_wp2_with (first | ((with_reducible refine gate_callee (f := 20) rfl ?_); refine gl_ (some 49) Tryz.func20 #[.slice Ao100 t304.length co100, .slice Ao101 t308.length co101] ?_; (with_reducible refine (shape_Minus.calls kj5 _ _ t304 _ _ t308 t314 t315 _ ?side1 ?side2 ?side3 ?side4 ?side5 A20.out).mono ?_); (case side1 => exact gw_ HG.out); (case side2 => exact cb_ (Kd.R_reads' HO_7.out).2.2); (case side3 => exact (Kd.R_reads' HO_7.out).2.1); (case side4 => exact cb_ (Kd.R_reads' HO_9.out).2.2); (case side5 => exact (Kd.R_reads' HO_9.out).2.1); rintro e w102 ⟨v316, rfl, ho0, hb⟩; refine ⟨_, rfl, ?_⟩; have HO317 := Aside0.mk (Kd.R_lower (Kd.R_new' (Kd.R_new' ho0 (Kd.R_lt (rr_ HO_7))) (Kd.R_lt (rr_ HO_9))) (below_size bl_)); replace HO_7 := Aside0.mk (Kd.R_elder' (rr_ HO_7) (Kd.R_base ho0) hb); replace HO_9 := Aside0.mk (Kd.R_elder' (rr_ HO_9) (Kd.R_base ho0) hb); replace HB := Aside0.mk (below_step bl_ hb); (try clear hb); (try clear hb2); (try clear hk); (try clear hi); (try clear ho0)) | ((with_reducible refine gate_callee (f := 20) rfl ?_); refine gl_ (some 55) Tryz.func20 #[.slice Ao101 t308.length co101, .slice A0 l0.length c0] ?_; (with_reducible refine (shape_Minus.calls kj5 _ _ t308 _ _ l0 t318 t319 _ ?side1 ?side2 ?side3 ?side4 ?side5 A21.out).mono ?_); (case side1 => exact gw_ HG.out); (case side2 => exact cb_ (Kd.R_reads' HO_9.out).2.2); (case side3 => exact (Kd.R_reads' HO_9.out).2.1); (case side4 => exact cb_ (Kd.C_below HR0.out HB.out)); (case side5 => exact HC0.out); rintro e w103 ⟨v320, rfl, ho0, hb⟩; refine ⟨_, rfl, ?_⟩; have HO321 := Aside0.mk (Kd.R_lower (Kd.R_new' (Kd.R_new' (Kd.R_new' ho0 (Kd.R_lt (rr_ HO_7))) (Kd.R_lt (rr_ HO_9))) (Kd.R_lt (rr_ HO317))) (below_size bl_)); replace HO_7 := Aside0.mk (Kd.R_elder' (rr_ HO_7) (Kd.R_base ho0) hb); replace HO_9 := Aside0.mk (Kd.R_elder' (rr_ HO_9) (Kd.R_base ho0) hb); replace HO317 := Aside0.mk (Kd.R_elder' (rr_ HO317) (Kd.R_base ho0) hb); replace HB := Aside0.mk (below_step bl_ hb); (try clear hb); (try clear hb2); (try clear hk); (try clear hi); (try clear ho0); obtain ⟨Ao104, co104, eo104⟩ := Kd.R_slice HO321.out; subst eo104))
                  go_ret
                  exact ⟨by first | rfl | (simp [errW_none, errW_some] <;> rfl) | (simp [*, errW_none, errW_some] <;> rfl), bl_⟩
            · rw [if_neg c83] at H
              have c83b0 : ((t318.length : Int) == 0) = false := beq_eq_false_iff_ne.mpr c83
              have c83b1 : ((t318.length : Int) != 0) = true := bne_iff_ne.mpr c83
              have c83b2 : ¬ (t318 = []) := fun h_ => c83 (by rw [h_]; rfl)
              obtain rfl := Option.some.inj H
              obtain ⟨Ao105, co105, eo105⟩ := Kd.R_slice HO_7.out
              subst eo105
              obtain ⟨Ao106, co106, eo106⟩ := Kd.R_slice HO_9.out
              subst eo106
              go_wp2_with (first | ((with_reducible refine gate_callee (f := 20) rfl ?_); refine gl_ (some 49) Tryz.func20 #[.slice Ao105 t304.length co105, .slice Ao106 t308.length co106] ?_; (with_reducible refine (shape_Minus.calls kj5 _ _ t304 _ _ t308 t314 t315 _ ?side1 ?side2 ?side3 ?side4 ?side5 A20.out).mono ?_); (case side1 => exact gw_ HG.out); (case side2 => exact cb_ (Kd.R_reads' HO_7.out).2.2); (case side3 => exact (Kd.R_reads' HO_7.out).2.1); (case side4 => exact cb_ (Kd.R_reads' HO_9.out).2.2); (case side5 => exact (Kd.R_reads' HO_9.out).2.1); rintro e w107 ⟨v316, rfl, ho0, hb⟩; refine ⟨_, rfl, ?_⟩; have HO317 := Aside0.mk (Kd.R_lower (Kd.R_new' (Kd.R_new' ho0 (Kd.R_lt (rr_ HO_7))) (Kd.R_lt (rr_ HO_9))) (below_size bl_)); replace HO_7 := Aside0.mk (Kd.R_elder' (rr_ HO_7) (Kd.R_base ho0) hb); replace HO_9 := Aside0.mk (Kd.R_elder' (rr_ HO_9) (Kd.R_base ho0) hb); replace HB := Aside0.mk (below_step bl_ hb); (try clear hb); (try clear hb2); (try clear hk); (try clear hi); (try clear ho0)) | ((with_reducible refine gate_callee (f := 20) rfl ?_); refine gl_ (some 55) Tryz.func20 #[.slice Ao106 t308.length co106, .slice A0 l0.length c0] ?_; (with_reducible refine (shape_Minus.calls kj5 _ _ t308 _ _ l0 t318 t319 _ ?side1 ?side2 ?side3 ?side4 ?side5 A21.out).mono ?_); (case side1 => exact gw_ HG.out); (case side2 => exact cb_ (Kd.R_reads' HO_9.out).2.2); (case side3 => exact (Kd.R_reads' HO_9.out).2.1); (case side4 => exact cb_ (Kd.C_below HR0.out HB.out)); (case side5 => exact HC0.out); rintro e w108 ⟨v320, rfl, ho0, hb⟩; refine ⟨_, rfl, ?_⟩; have HO321 := Aside0.mk (Kd.R_lower (Kd.R_new' (Kd.R_new' (Kd.R_new' ho0 (Kd.R_lt (rr_ HO_7))) (Kd.R_lt (rr_ HO_9))) (Kd.R_lt (rr_ HO317))) (below_size bl_)); replace HO_7 := Aside0.mk (Kd.R_elder' (rr_ HO_7) (Kd.R_base ho0) hb); replace HO_9 := Aside0.mk (Kd.R_elder' (rr_ HO_9) (Kd.R_base ho0) hb); replace HO317 := Aside0.mk (Kd.R_elder' (rr_ HO317) (Kd.R_base ho0) hb); replace HB := Aside0.mk (below_step bl_ hb); (try clear hb); (try clear hb2); (try clear hk); (try clear hi); (try clear ho0); obtain ⟨Ao109, co109, eo109⟩ := Kd.R_slice HO321.out; subst eo109))
              go_ret
              exact ⟨by first | rfl | (simp [errW_none, errW_some] <;> rfl) | (simp [*, errW_none, errW_some] <;> rfl), bl_⟩
          · rw [if_neg c82] at H
            have c82b0 : (t319 == 0) = false := beq_eq_false_iff_ne.mpr c82
            have c82b1 : (t319 != 0) = true := bne_iff_ne.mpr c82
            by_cases c110 : a1 > 1
            · rw [if_pos c110] at H
              have c110b0 : decide (1 < a1) = true := decide_eq_true c110
              clear c110
              replace H := Option.bind_eq_some_iff.mp H
              obtain ⟨t328, A1110, H⟩ := H
              try dsimp only at H
              have A111 := Aside0.mk A1110
              clear A1110
              obtain rfl := Option.some.inj H
              obtain ⟨Ao112, co112, eo112⟩ := Kd.R_slice HO_7.out
              subst eo112
              obtain ⟨Ao113, co113, eo113⟩ := Kd.R_slice HO_9.out
              subst eo113
              go_wp2_with (first | ((with_reducible refine gate_callee (f := 20) rfl ?_); refine gl_ (some 49) Tryz.func20 #[.slice Ao112 t304.length co112, .slice Ao113 t308.length co113] ?_; (with_reducible refine (shape_Minus.calls kj5 _ _ t304 _ _ t308 t314 t315 _ ?side1 ?side2 ?side3 ?side4 ?side5 A20.out).mono ?_); (case side1 => exact gw_ HG.out); (case side2 => exact cb_ (Kd.R_reads' HO_7.out).2.2); (case side3 => exact (Kd.R_reads' HO_7.out).2.1); (case side4 => exact cb_ (Kd.R_reads' HO_9.out).2.2); (case side5 => exact (Kd.R_reads' HO_9.out).2.1); rintro e w114 ⟨v316, rfl, ho0, hb⟩; refine ⟨_, rfl, ?_⟩; have HO317 := Aside0.mk (Kd.R_lower (Kd.R_new' (Kd.R_new' ho0 (Kd.R_lt (rr_ HO_7))) (Kd.R_lt (rr_ HO_9))) (below_size bl_)); replace HO_7 := Aside0.mk (Kd.R_elder' (rr_ HO_7) (Kd.R_base ho0) hb); replace HO_9 := Aside0.mk (Kd.R_elder' (rr_ HO_9) (Kd.R_base ho0) hb); replace HB := Aside0.mk (below_step bl_ hb); (try clear hb); (try clear hb2); (try clear hk); (try clear hi); (try clear ho0)) | ((with_reducible refine gate_callee (f := 20) rfl ?_); refine gl_ (some 55) Tryz.func20 #[.slice Ao113 t308.length co113, .slice A0 l0.length c0] ?_; (with_reducible refine (shape_Minus.calls kj5 _ _ t308 _ _ l0 t318 t319 _ ?side1 ?side2 ?side3 ?side4 ?side5 A21.out).mono ?_); (case side1 => exact gw_ HG.out); (case side2 => exact cb_ (Kd.R_reads' HO_9.out).2.2); (case side3 => exact (Kd.R_reads' HO_9.out).2.1); (case side4 => exact cb_ (Kd.C_below HR0.out HB.out)); (case side5 => exact HC0.out); rintro e w115 ⟨v320, rfl, ho0, hb⟩; refine ⟨_, rfl, ?_⟩; have HO321 := Aside0.mk (Kd.R_lower (Kd.R_new' (Kd.R_new' (Kd.R_new' ho0 (Kd.R_lt (rr_ HO_7))) (Kd.R_lt (rr_ HO_9))) (Kd.R_lt (rr_ HO317))) (below_size bl_)); replace HO_7 := Aside0.mk (Kd.R_elder' (rr_ HO_7) (Kd.R_base ho0) hb); replace HO_9 := Aside0.mk (Kd.R_elder' (rr_ HO_9) (Kd.R_base ho0) hb); replace HO317 := Aside0.mk (Kd.R_elder' (rr_ HO317) (Kd.R_base ho0) hb); replace HB := Aside0.mk (below_step bl_ hb); (try clear hb); (try clear hb2); (try clear hk); (try clear hi); (try clear ho0)) | (go_at_call 14; (with_reducible refine (etchhouselaw6_awake.calls kj5  t328 _ ?side1 A111.out).mono ?_); (case side1 => exact gw_ HG.out); rintro e w116 ⟨rfl, hb⟩; replace HO_7 := Aside0.mk (Kd.R_below (rr_ HO_7) hb); replace HO_9 := Aside0.mk (Kd.R_below (rr_ HO_9) hb); replace HO317 := Aside0.mk (Kd.R_below (rr_ HO317) hb); replace HO321 := Aside0.mk (Kd.R_below (rr_ HO321) hb); replace HB := Aside0.mk (below_step bl_ hb); (try clear hb); (try clear hb2); (try clear hk); (try clear hi)))
              go_ret
              exact ⟨by first | rfl | (simp [errW_none, errW_some] <;> rfl) | (simp [*, errW_none, errW_some] <;> rfl), bl_⟩
            · rw [if_neg c110] at H
              have c110b0 : decide (1 < a1) = false := decide_eq_false c110
              clear c110
              by_cases c117 : (t304.length : Int) = 0
              · rw [if_pos c117] at H
                have c117b0 : ((t304.length : Int) == 0) = true := beq_iff_eq.mpr c117
                have c117b1 : ((t304.length : Int) != 0) = false := bne_eq_false_iff_eq.mpr c117
                clear c117
                replace H := Option.bind_eq_some_iff.mp H
                obtain ⟨t329, A1180, H⟩ := H
                try dsimp only at H
                have A118 := Aside0.mk A1180
                clear A1180
                obtain rfl := Option.some.inj H
                obtain ⟨Ao119, co119, eo119⟩ := Kd.R_slice HO_7.out
                subst eo119
                obtain ⟨Ao120, co120, eo120⟩ := Kd.R_slice HO_9.out
                subst eo120
                go_wp2_with (first | ((with_reducible refine gate_callee (f := 20) rfl ?_); refine gl_ (some 49) Tryz.func20 #[.slice Ao119 t304.length co119, .slice Ao120 t308.length co120] ?_; (with_reducible refine (shape_Minus.calls kj5 _ _ t304 _ _ t308 t314 t315 _ ?side1 ?side2 ?side3 ?side4 ?side5 A20.out).mono ?_); (case side1 => exact gw_ HG.out); (case side2 => exact cb_ (Kd.R_reads' HO_7.out).2.2); (case side3 => exact (Kd.R_reads' HO_7.out).2.1); (case side4 => exact cb_ (Kd.R_reads' HO_9.out).2.2); (case side5 => exact (Kd.R_reads' HO_9.out).2.1); rintro e w121 ⟨v316, rfl, ho0, hb⟩; refine ⟨_, rfl, ?_⟩; have HO317 := Aside0.mk (Kd.R_lower (Kd.R_new' (Kd.R_new' ho0 (Kd.R_lt (rr_ HO_7))) (Kd.R_lt (rr_ HO_9))) (below_size bl_)); replace HO_7 := Aside0.mk (Kd.R_elder' (rr_ HO_7) (Kd.R_base ho0) hb); replace HO_9 := Aside0.mk (Kd.R_elder' (rr_ HO_9) (Kd.R_base ho0) hb); replace HB := Aside0.mk (below_step bl_ hb); (try clear hb); (try clear hb2); (try clear hk); (try clear hi); (try clear ho0)) | ((with_reducible refine gate_callee (f := 20) rfl ?_); refine gl_ (some 55) Tryz.func20 #[.slice Ao120 t308.length co120, .slice A0 l0.length c0] ?_; (with_reducible refine (shape_Minus.calls kj5 _ _ t308 _ _ l0 t318 t319 _ ?side1 ?side2 ?side3 ?side4 ?side5 A21.out).mono ?_); (case side1 => exact gw_ HG.out); (case side2 => exact cb_ (Kd.R_reads' HO_9.out).2.2); (case side3 => exact (Kd.R_reads' HO_9.out).2.1); (case side4 => exact cb_ (Kd.C_below HR0.out HB.out)); (case side5 => exact HC0.out); rintro e w122 ⟨v320, rfl, ho0, hb⟩; refine ⟨_, rfl, ?_⟩; have HO321 := Aside0.mk (Kd.R_lower (Kd.R_new' (Kd.R_new' (Kd.R_new' ho0 (Kd.R_lt (rr_ HO_7))) (Kd.R_lt (rr_ HO_9))) (Kd.R_lt (rr_ HO317))) (below_size bl_)); replace HO_7 := Aside0.mk (Kd.R_elder' (rr_ HO_7) (Kd.R_base ho0) hb); replace HO_9 := Aside0.mk (Kd.R_elder' (rr_ HO_9) (Kd.R_base ho0) hb); replace HO317 := Aside0.mk (Kd.R_elder' (rr_ HO317) (Kd.R_base ho0) hb); replace HB := Aside0.mk (below_step bl_ hb); (try clear hb); (try clear hb2); (try clear hk); (try clear hi); (try clear ho0)) | (go_at_call 14; (with_reducible refine (etchhouselaw6_awake.calls kj5  t329 _ ?side1 A118.out).mono ?_); (case side1 => exact gw_ HG.out); rintro e w123 ⟨rfl, hb⟩; replace HO_7 := Aside0.mk (Kd.R_below (rr_ HO_7) hb); replace HO_9 := Aside0.mk (Kd.R_below (rr_ HO_9) hb); replace HO317 := Aside0.mk (Kd.R_below (rr_ HO317) hb); replace HO321 := Aside0.mk (Kd.R_below (rr_ HO321) hb); replace HB := Aside0.mk (below_step bl_ hb); (try clear hb); (try clear hb2); (try clear hk); (try clear hi)))
                go_ret
                exact ⟨by first | rfl | (simp [errW_none, errW_some] <;> rfl) | (simp [*, errW_none, errW_some] <;> rfl), bl_⟩
              · rw [if_neg c117] at H
                have c117b0 : ((t304.length : Int) == 0) = false := beq_eq_false_iff_ne.mpr c117
                have c117b1 : ((t304.length : Int) != 0) = true := bne_iff_ne.mpr c117
                have c117b2 : ¬ (t304 = []) := fun h_ => c117 (by rw [h_]; rfl)
                obtain rfl := Option.some.inj H
                obtain ⟨Ao124, co124, eo124⟩ := Kd.R_slice HO_7.out
                subst eo124
                obtain ⟨Ao125, co125, eo125⟩ := Kd.R_slice HO_9.out
                subst eo125
                go_wp2_with (first | ((with_reducible refine gate_callee (f := 20) rfl ?_); refine gl_ (some 49) Tryz.func20 #[.slice Ao124 t304.length co124, .slice Ao125 t308.length co125] ?_; (with_reducible refine (shape_Minus.calls kj5 _ _ t304 _ _ t308 t314 t315 _ ?side1 ?side2 ?side3 ?side4 ?side5 A20.out).mono ?_); (case side1 => exact gw_ HG.out); (case side2 => exact cb_ (Kd.R_reads' HO_7.out).2.2); (case side3 => exact (Kd.R_reads' HO_7.out).2.1); (case side4 => exact cb_ (Kd.R_reads' HO_9.out).2.2); (case side5 => exact (Kd.R_reads' HO_9.out).2.1); rintro e w126 ⟨v316, rfl, ho0, hb⟩; refine ⟨_, rfl, ?_⟩; have HO317 := Aside0.mk (Kd.R_lower (Kd.R_new' (Kd.R_new' ho0 (Kd.R_lt (rr_ HO_7))) (Kd.R_lt (rr_ HO_9))) (below_size bl_)); replace HO_7 := Aside0.mk (Kd.R_elder' (rr_ HO_7) (Kd.R_base ho0) hb); replace HO_9 := Aside0.mk (Kd.R_elder' (rr_ HO_9) (Kd.R_base ho0) hb); replace HB := Aside0.mk (below_step bl_ hb); (try clear hb); (try clear hb2); (try clear hk); (try clear hi); (try clear ho0)) | ((with_reducible refine gate_callee (f := 20) rfl ?_); refine gl_ (some 55) Tryz.func20 #[.slice Ao125 t308.length co125, .slice A0 l0.length c0] ?_; (with_reducible refine (shape_Minus.calls kj5 _ _ t308 _ _ l0 t318 t319 _ ?side1 ?side2 ?side3 ?side4 ?side5 A21.out).mono ?_); (case side1 => exact gw_ HG.out); (case side2 => exact cb_ (Kd.R_reads' HO_9.out).2.2); (case side3 => exact (Kd.R_reads' HO_9.out).2.1); (case side4 => exact cb_ (Kd.C_below HR0.out HB.out)); (case side5 => exact HC0.out); rintro e w127 ⟨v320, rfl, ho0, hb⟩; refine ⟨_, rfl, ?_⟩; have HO321 := Aside0.mk (Kd.R_lower (Kd.R_new' (Kd.R_new' (Kd.R_new' ho0 (Kd.R_lt (rr_ HO_7))) (Kd.R_lt (rr_ HO_9))) (Kd.R_lt (rr_ HO317))) (below_size bl_)); replace HO_7 := Aside0.mk (Kd.R_elder' (rr_ HO_7) (Kd.R_base ho0) hb); replace HO_9 := Aside0.mk (Kd.R_elder' (rr_ HO_9) (Kd.R_base ho0) hb); replace HO317 := Aside0.mk (Kd.R_elder' (rr_ HO317) (Kd.R_base ho0) hb); replace HB := Aside0.mk (below_step bl_ hb); (try clear hb); (try clear hb2); (try clear hk); (try clear hi); (try clear ho0)))
                go_ret
                exact ⟨by first | rfl | (simp [errW_none, errW_some] <;> rfl) | (simp [*, errW_none, errW_some] <;> rfl), bl_⟩
def shape_IsPoint.f (a0_0 : Int) (a0_1 : Int) : Option (Bool) := (shape_IsAt.f a0_0).bind fun t331 => (if t331 = true then ((shape_IsAt.f a0_1).bind fun t332 => (some t332)) else (some false))
set_option maxHeartbeats 8000000 in
set_option maxRecDepth 100000 in
theorem shape_IsPoint.calls (a0_0 : Int) (a0_1 : Int) (r : Bool) (w : World) (hG : Tryz.GW w) (h : shape_IsPoint.f a0_0 a0_1 = some r) :
    Calls Tryz.prog 43 #[.agg #[.int .i64 a0_0, .int .i64 a0_1]] w fun e w' => e = .returned (.bool r) ∧ Below w.heap.size w w' := by
  have hu33 := Tryz.underlying33
  have HG := Aside0.mk hG
  clear hG
  have HB := Aside0.mk (Below.refl w.heap.size w)
  have H : ((shape_IsAt.f a0_0).bind fun t331 => (if t331 = true then ((shape_IsAt.f a0_1).bind fun t332 => (some t332)) else (some false))) = some r := h
  clear h
  replace H := Option.bind_eq_some_iff.mp H
  obtain ⟨t331, A20, H⟩ := H
  try dsimp only at H
  have A2 := Aside0.mk A20
  clear A20
  by_cases c3 : t331 = true
  · subst c3
    rw [if_pos rfl] at H
    replace H := Option.bind_eq_some_iff.mp H
    obtain ⟨t332, A40, H⟩ := H
    try dsimp only at H
    have A4 := Aside0.mk A40
    clear A40
    obtain rfl := Option.some.inj H
    go_enter Tryz.func43, Tryz.ntmps43
    go_wp2_with (first | ((with_reducible refine gate_dst (N := 1) rfl ?_); refine bx_ (N := 1) (cs := #[.int .i64 a0_0, .int .i64 a0_1]) (t := 33) ?_; intro gb330 hg w5 hbox hb; have BK330 := Aside0.mk (hbox); have GW330 := Aside0.mk ((gs_ hg : w.heap.size ≤ gb330)); have GE330 := Aside0.mk ((gs_ hg : w.heap.size ≤ gb330)); replace HB := Aside0.mk (below_step bl_ hb); clear hb hbox hg; obtain ⟨hcz6_0, hcz6_1, hfz6_0, hfz6_1⟩ := bc2_ BK330) | ((with_reducible refine gate_callee (f := 76) rfl ?_); refine gl_ (some 5) Tryz.func76 #[.int .i64 a0_0] ?_; (with_reducible refine (shape_IsAt.calls a0_0 true _ ?side1 A2.out).mono ?_); (case side1 => exact gw_ HG.out); rintro e w' ⟨rfl, ⟨nd, rfl⟩⟩; refine ⟨_, rfl, ?_⟩) | (go_at_call 76; (with_reducible refine (shape_IsAt.calls a0_1 t332 _ ?side1 A4.out).mono ?_); (case side1 => exact gw_ HG.out); rintro e w' ⟨rfl, ⟨nd, rfl⟩⟩))
    go_ret
    exact ⟨by first | rfl | (simp [errW_none, errW_some] <;> rfl) | (simp [*, errW_none, errW_some] <;> rfl), bl_⟩
  · replace c3 := Bool.eq_false_iff.mpr c3
    subst c3
    rw [if_neg (show ¬ (false = true) by decide)] at H
    obtain rfl := Option.some.inj H
    go_enter Tryz.func43, Tryz.ntmps43
    go_wp2_with (first | ((with_reducible refine gate_dst (N := 1) rfl ?_); refine bx_ (N := 1) (cs := #[.int .i64 a0_0, .int .i64 a0_1]) (t := 33) ?_; intro gb330 hg w7 hbox hb; have BK330 := Aside0.mk (hbox); have GW330 := Aside0.mk ((gs_ hg : w.heap.size ≤ gb330)); have GE330 := Aside0.mk ((gs_ hg : w.heap.size ≤ gb330)); replace HB := Aside0.mk (below_step bl_ hb); clear hb hbox hg; obtain ⟨hcz8_0, hcz8_1, hfz8_0, hfz8_1⟩ := bc2_ BK330) | ((with_reducible refine gate_callee (f := 76) rfl ?_); refine gl_ (some 5) Tryz.func76 #[.int .i64 a0_0] ?_; (with_reducible refine (shape_IsAt.calls a0_0 false _ ?side1 A2.out).mono ?_); (case side1 => exact gw_ HG.out); rintro e w' ⟨rfl, ⟨nd, rfl⟩⟩; refine ⟨_, rfl, ?_⟩))
    go_ret
    exact ⟨by first | rfl | (simp [errW_none, errW_some] <;> rfl) | (simp [*, errW_none, errW_some] <;> rfl), bl_⟩
def shape_HasSquare.enc (x : S44) : List Value := [.int .i64 x.f0, .int .i64 x.f1, .int .i64 x.f2, .int .i64 x.f3]
def shape_HasSquare.in_ (px py : Int) (x : S44) : Bool := decide (x.f0 ≤ px) && (decide (px < x.f2) && (decide (x.f1 ≤ py) && decide (py < x.f3)))
def shape_HasSquare.f (l0 : List (S44)) (a1_0 : Int) (a1_1 : Int) : Option (Bool) := if l0.length ≤ 9223372036854775807 then some (l0.any (shape_HasSquare.in_ a1_0 a1_1)) else none
set_option maxHeartbeats 4000000 in
theorem shape_HasSquare.closure (gp : Nat) (px py : Int) (x : S44) (W : World) (h0 : W.cell? ⟨gp, 0, none⟩ = some (.int .i64 px)) (h1 : W.cell? ⟨gp, 1, none⟩ = some (.int .i64 py)) :
    Calls Tryz.prog 99 #[.agg #[.int .i64 x.f0, .int .i64 x.f1, .int .i64 x.f2, .int .i64 x.f3], .pointer (some ⟨gp, 0, none⟩)] W fun e w' => e = .returned (.bool (shape_HasSquare.in_ px py x)) ∧ Below W.heap.size W w' := by
  obtain ⟨x0, x1, x2, x3⟩ := x
  unfold shape_HasSquare.in_
  simp only
  have hu44 := Tryz.underlying44
  have hu33 := Tryz.underlying33
  have hu3 := Tryz.underlying3
  have e0 := Lib.cell?_alloc_some (Obj.cells #[Value.int IntKind.i64 x0, Value.int IntKind.i64 x1, Value.int IntKind.i64 x2, Value.int IntKind.i64 x3] 44) h0
  have e1 := Lib.cell?_alloc_some (Obj.cells #[Value.int IntKind.i64 x0, Value.int IntKind.i64 x1, Value.int IntKind.i64 x2, Value.int IntKind.i64 x3] 44) h1
  have ec : ∀ j v, (#[Value.int IntKind.i64 x0, Value.int IntKind.i64 x1, Value.int IntKind.i64 x2, Value.int IntKind.i64 x3] : Array Value)[j]? = some v → (W.alloc (Obj.cells #[Value.int IntKind.i64 x0, Value.int IntKind.i64 x1, Value.int IntKind.i64 x2, Value.int IntKind.i64 x3] 44)).cell? ⟨W.heap.size, j, none⟩ = some v := by
    intro j v hj
    show (match (W.heap.push _)[W.heap.size]? with | some (.cells c _ _) => if (none : Option _).isSome then none else c[j]? | _ => none) = _
    rw [Array.getElem?_push_size]; exact hj
  have f0 := ec 0 _ rfl
  have f1 := ec 1 _ rfl
  have f2 := ec 2 _ rfl
  have f3 := ec 3 _ rfl
  clear ec
  have BEL := Aside0.mk (below_alloc (Below.refl W.heap.size W) (Obj.cells #[Value.int IntKind.i64 x0, Value.int IntKind.i64 x1, Value.int IntKind.i64 x2, Value.int IntKind.i64 x3] 44))
  cases c1 : decide (x0 ≤ px)
  · simp only [Bool.false_and]
    go_enter Tryz.func99, Tryz.ntmps99
    go_wp2
    go_ret
    exact ⟨rfl, BEL.out⟩
  · cases c2 : decide (px < x2)
    · simp only [Bool.true_and, Bool.false_and]
      go_enter Tryz.func99, Tryz.ntmps99
      go_wp2
      go_ret
      exact ⟨rfl, BEL.out⟩
    · cases c3 : decide (x1 ≤ py)
      · simp only [Bool.true_and, Bool.false_and]
        go_enter Tryz.func99, Tryz.ntmps99
        go_wp2
        go_ret
        exact ⟨rfl, BEL.out⟩
      · simp only [Bool.true_and]
        go_enter Tryz.func99, Tryz.ntmps99
        go_wp2
        go_ret
        exact ⟨rfl, BEL.out⟩
theorem shape_HasSquare.none224 (A : Option Addr) (c : Nat) (fv : Value) (w : World) : Calls Tryz.prog 128 #[.slice A 0 c, fv] w fun e w' => e = .returned (.int .i64 (-1)) ∧ w' = w := by
  go_enter Tryz.func128, Tryz.ntmps128
  go_wp2
  go_loopg [8] 0 (fun _ v8 wr => v8 = .int .i64 0 ∧ wr = w)
  case atStart => exact ⟨rfl, rfl⟩
  case round =>
    obtain ⟨rfl, rfl⟩ := hrel
    go_wp2
    go_ret
    exact ⟨rfl, rfl⟩
theorem shape_HasSquare.none153 (A : Option Addr) (c : Nat) (fv : Value) (w : World) : Calls Tryz.prog 98 #[.slice A 0 c, fv] w fun e w' => e = .returned (.bool false) ∧ w' = w := by
  go_enter Tryz.func98, Tryz.ntmps98
  go_wp2_with (go_at_call 128; refine (shape_HasSquare.none224 A c fv _).mono ?_; rintro e w' ⟨rfl, rfl⟩)
  go_ret
  exact ⟨rfl, rfl⟩
set_option maxHeartbeats 4000000 in
theorem shape_HasSquare.calls (A0 : Option Addr) (c0 : Nat) (l0 : List (S44)) (a1_0 : Int) (a1_1 : Int) (r : Bool) (w : World) (hG : Tryz.GW w) (hr0 : Kd.C k44 w A0 l0.length l0) (hc0 : l0.length ≤ c0) (h : shape_HasSquare.f l0 a1_0 a1_1 = some r) :
    Calls Tryz.prog 55 #[.slice A0 l0.length c0, .agg #[.int .i64 a1_0, .int .i64 a1_1]] w fun e w' => e = .returned (.bool r) ∧ Below w.heap.size w w' := by
  unfold shape_HasSquare.f at h
  split at h
  · rename_i hbig
    obtain rfl := Option.some.inj h
    have hu33 := Tryz.underlying33
    have f0 : (w.alloc (Obj.cells #[Value.int IntKind.i64 a1_0, Value.int IntKind.i64 a1_1] 33)).cell? ⟨w.heap.size, 0, none⟩ = some (.int .i64 a1_0) := by
      show (match (w.heap.push _)[w.heap.size]? with | some (.cells c _ _) => if (none : Option _).isSome then none else c[0]? | _ => none) = _
      rw [Array.getElem?_push_size]; rfl
    have f1 : (w.alloc (Obj.cells #[Value.int IntKind.i64 a1_0, Value.int IntKind.i64 a1_1] 33)).cell? ⟨w.heap.size, 1, none⟩ = some (.int .i64 a1_1) := by
      show (match (w.heap.push _)[w.heap.size]? with | some (.cells c _ _) => if (none : Option _).isSome then none else c[1]? | _ => none) = _
      rw [Array.getElem?_push_size]; rfl
    have hlt : w.heap.size < (w.alloc (Obj.cells #[Value.int IntKind.i64 a1_0, Value.int IntKind.i64 a1_1] 33)).heap.size := by
      show w.heap.size < (w.heap.push _).size
      rw [Array.size_push]; omega
    have bel := below_alloc (Below.refl w.heap.size w) (Obj.cells #[Value.int IntKind.i64 a1_0, Value.int IntKind.i64 a1_1] 33)
    have key : Calls Tryz.prog 98 #[.slice A0 l0.length c0, .func (.func 99) #[] #[.pointer (some ⟨w.heap.size, 0, none⟩)]] (w.alloc (Obj.cells #[Value.int IntKind.i64 a1_0, Value.int IntKind.i64 a1_1] 33)) fun e w' => e = .returned (.bool (l0.any (shape_HasSquare.in_ a1_0 a1_1))) ∧ Below w.heap.size w w' := by
      by_cases hz : l0 = []
      · subst hz
        exact (shape_HasSquare.none153 A0 c0 _ _).mono fun e w' ⟨he, hw⟩ => ⟨he, by rw [hw]; exact bel⟩
      · have hpos : 0 < l0.length := List.length_pos_iff.2 hz
        have hr1 := Kd.C_below hr0 bel
        obtain ⟨_, _, hx⟩ := hr1
        obtain ⟨ad, rfl, hcells⟩ := hx hpos
        obtain ⟨b, off, sp⟩ := ad
        letI : Inhabited S44 := ⟨z44⟩
        have hcell : ∀ j (hj : j < l0.length) i v, (shape_HasSquare.enc l0[j]!)[i]? = some v → (w.alloc (Obj.cells #[Value.int IntKind.i64 a1_0, Value.int IntKind.i64 a1_1] 33)).cell? ((⟨b, off, sp⟩ : Addr).add (j * 4 + i)) = some v := by
          intro j hj i v hv
          obtain ⟨c, _, hK, hc⟩ := hcells j _ (List.getElem?_eq_getElem hj)
          obtain rfl := k44_open hK
          rw [getElem!_pos l0 j hj] at hv
          exact hc i v hv
        have hsp : sp = none := by
          have h := hcell 0 hpos 0 _ rfl
          cases sp with
          | none => rfl
          | some s =>
            exfalso
            have h' : (w.alloc (Obj.cells #[Value.int IntKind.i64 a1_0, Value.int IntKind.i64 a1_1] 33)).cell? ⟨b, off, some s⟩ = some _ := h
            unfold World.cell? at h'
            split at h' <;> simp at h'
        subst hsp
        have hb := World.block_lt_of_cell? _ _ (hcell 0 hpos 0 _ rfl)
        have eg : ∀ args w, (callFunc 99 args).run Tryz.prog w = .ok (.enter 99 args) w := enters_of Tryz.func99 (by kernel_rfl) rfl
        have hp : PredBelow Tryz.prog 99 #[.pointer (some ⟨w.heap.size, 0, none⟩)] (fun x => .agg (shape_HasSquare.enc x).toArray) (shape_HasSquare.in_ a1_0 a1_1) (w.alloc (Obj.cells #[Value.int IntKind.i64 a1_0, Value.int IntKind.i64 a1_1] 33)) := by
          intro W x hW
          refine (shape_HasSquare.closure w.heap.size a1_0 a1_1 x W ((hW.cell hlt).trans f0) ((hW.cell hlt).trans f1)).mono fun e w' ⟨he, hb⟩ => ⟨he, hW.trans ⟨hb.os, hb.tape, hb.output, hb.size, fun k hk => hb.block k (Nat.lt_of_lt_of_le hk hW.size)⟩⟩
        have hc := Tryz.containsRects shape_HasSquare.enc (fun _ => rfl) (shape_HasSquare.in_ a1_0 a1_1) 99 #[.pointer (some ⟨w.heap.size, 0, none⟩)] eg b off l0.length c0 l0 _ hp (Nat.le_refl _) hbig hb (by
          intro j hj i v hv
          have := hcell j hj i v hv
          rwa [Addr.add_lit, ← Nat.add_assoc] at this)
        rw [List.take_length] at hc
        exact hc.mono fun e w' ⟨he, hw⟩ => ⟨he, bel.trans ⟨hw.os, hw.tape, hw.output, hw.size, fun k hk => hw.block k (by omega)⟩⟩
    have KEY := Aside0.mk key
    clear key f0 f1 hlt bel hr0
    go_enter Tryz.func55, Tryz.ntmps55
    go_wp2_with (go_at_call 98; refine KEY.out.mono ?_; rintro e w' ⟨rfl, hb'⟩)
    go_ret
    exact ⟨rfl, hb'⟩
  · cases h
def shape_Has.f (k : Nat) (l0 : List (S44)) (a1_0 : Int) (a1_1 : Int) : Option (Bool × Int) := (shape_CheckRegion.f k l0).bind fun t334 => (if t334 = 0 then ((shape_IsPoint.f a1_0 a1_1).bind fun t335 => (if t335 = true then ((shape_HasSquare.f l0 a1_0 a1_1).bind fun t336 => (some (t336, 0))) else (some (false, 1)))) else (some (false, t334)))
set_option maxHeartbeats 8000000 in
set_option maxRecDepth 100000 in
theorem shape_Has.calls (k : Nat) (A0 : Option Addr) (c0 : Nat) (l0 : List (S44)) (a1_0 : Int) (a1_1 : Int) (r1 : Bool) (r2 : Int) (w : World) (hG : Tryz.GW w) (hr0 : Kd.C k44 w A0 l0.length l0) (hc0 : l0.length ≤ c0) (h : shape_Has.f k l0 a1_0 a1_1 = some (r1, r2)) :
    Calls Tryz.prog 21 #[.slice A0 l0.length c0, .agg #[.int .i64 a1_0, .int .i64 a1_1]] w fun e w' => e = .returned (.tuple #[.bool r1, .int .i64 r2]) ∧ Below w.heap.size w w' := by
  have hu33 := Tryz.underlying33
  have HR0 := Aside0.mk hr0
  have HC0 := Aside0.mk hc0
  clear hr0 hc0
  have HG := Aside0.mk hG
  clear hG
  have HB := Aside0.mk (Below.refl w.heap.size w)
  have H : ((shape_CheckRegion.f k l0).bind fun t334 => (if t334 = 0 then ((shape_IsPoint.f a1_0 a1_1).bind fun t335 => (if t335 = true then ((shape_HasSquare.f l0 a1_0 a1_1).bind fun t336 => (some (t336, 0))) else (some (false, 1)))) else (some (false, t334)))) = some (r1, r2) := h
  clear h
  replace H := Option.bind_eq_some_iff.mp H
  obtain ⟨t334, A30, H⟩ := H
  try dsimp only at H
  have A3 := Aside0.mk A30
  clear A30
  by_cases c4 : t334 = 0
  · rw [if_pos c4] at H
    have c4b0 : (t334 == 0) = true := beq_iff_eq.mpr c4
    have c4b1 : (t334 != 0) = false := bne_eq_false_iff_eq.mpr c4
    clear c4
    replace H := Option.bind_eq_some_iff.mp H
    obtain ⟨t335, A50, H⟩ := H
    try dsimp only at H
    have A5 := Aside0.mk A50
    clear A50
    by_cases c6 : t335 = true
    · subst c6
      rw [if_pos rfl] at H
      replace H := Option.bind_eq_some_iff.mp H
      obtain ⟨t336, A70, H⟩ := H
      try dsimp only at H
      have A7 := Aside0.mk A70
      clear A70
      simp only [Option.some.injEq, Prod.mk.injEq] at H
      obtain ⟨rfl, rfl⟩ := H
      go_enter Tryz.func21, Tryz.ntmps21
      go_wp2_with (first | ((with_reducible refine gate_dst (N := 3) rfl ?_); refine bx_ (N := 3) (cs := #[.int .i64 a1_0, .int .i64 a1_1]) (t := 33) ?_; intro gb333 hg w8 hbox hb; have BK333 := Aside0.mk (hbox); have GW333 := Aside0.mk ((gs_ hg : w.heap.size ≤ gb333)); have GE333 := Aside0.mk ((gs_ hg : w.heap.size ≤ gb333)); replace HB := Aside0.mk (below_step bl_ hb); clear hb hbox hg) | ((with_reducible refine gate_callee (f := 37) rfl ?_); refine gl_ (some 8) Tryz.func37 #[.slice A0 l0.length c0] ?_; (with_reducible refine (shape_CheckRegion.calls k _ _ l0 t334 _ ?side1 ?side2 ?side3 A3.out).mono ?_); (case side1 => exact gw_ HG.out); (case side2 => exact cb_ (Kd.C_below HR0.out HB.out)); (case side3 => exact HC0.out); rintro e w9 ⟨rfl, hb⟩; refine ⟨_, rfl, ?_⟩; replace BK333 := bb_ BK333 hb; replace HB := Aside0.mk (below_step bl_ hb); (try clear hb); (try clear hb2); (try clear hk); (try clear hi); obtain ⟨hcz10_0, hcz10_1, hfz10_0, hfz10_1⟩ := bc2_ BK333) | ((with_reducible refine gate_callee (f := 43) rfl ?_); refine gl_ (some 13) Tryz.func43 #[.agg #[.int .i64 a1_0, .int .i64 a1_1]] ?_; (with_reducible refine (shape_IsPoint.calls a1_0 a1_1 true _ ?side1 A5.out).mono ?_); (case side1 => exact gw_ HG.out); rintro e w11 ⟨rfl, hb⟩; refine ⟨_, rfl, ?_⟩; replace BK333 := bb_ BK333 hb; replace HB := Aside0.mk (below_step bl_ hb); (try clear hb); (try clear hb2); (try clear hk); (try clear hi); obtain ⟨hcz12_0, hcz12_1, hfz12_0, hfz12_1⟩ := bc2_ BK333) | ((with_reducible refine gate_callee (f := 55) rfl ?_); refine gl_ (some 17) Tryz.func55 #[.slice A0 l0.length c0, .agg #[.int .i64 a1_0, .int .i64 a1_1]] ?_; (with_reducible refine (shape_HasSquare.calls _ _ l0 a1_0 a1_1 t336 _ ?side1 ?side2 ?side3 A7.out).mono ?_); (case side1 => exact gw_ HG.out); (case side2 => exact cb_ (Kd.C_below HR0.out HB.out)); (case side3 => exact HC0.out); rintro e w13 ⟨rfl, hb⟩; refine ⟨_, rfl, ?_⟩; replace BK333 := bb_ BK333 hb; replace HB := Aside0.mk (below_step bl_ hb); (try clear hb); (try clear hb2); (try clear hk); (try clear hi)))
      go_ret2
      exact ⟨by first | rfl | (simp [errW_none, errW_some] <;> rfl) | (simp [*, errW_none, errW_some] <;> rfl), bl_⟩
    · replace c6 := Bool.eq_false_iff.mpr c6
      subst c6
      rw [if_neg (show ¬ (false = true) by decide)] at H
      simp only [Option.some.injEq, Prod.mk.injEq] at H
      obtain ⟨rfl, rfl⟩ := H
      go_enter Tryz.func21, Tryz.ntmps21
      go_wp2_with (first | ((with_reducible refine gate_dst (N := 3) rfl ?_); refine bx_ (N := 3) (cs := #[.int .i64 a1_0, .int .i64 a1_1]) (t := 33) ?_; intro gb333 hg w14 hbox hb; have BK333 := Aside0.mk (hbox); have GW333 := Aside0.mk ((gs_ hg : w.heap.size ≤ gb333)); have GE333 := Aside0.mk ((gs_ hg : w.heap.size ≤ gb333)); replace HB := Aside0.mk (below_step bl_ hb); clear hb hbox hg) | ((with_reducible refine gate_callee (f := 37) rfl ?_); refine gl_ (some 8) Tryz.func37 #[.slice A0 l0.length c0] ?_; (with_reducible refine (shape_CheckRegion.calls k _ _ l0 t334 _ ?side1 ?side2 ?side3 A3.out).mono ?_); (case side1 => exact gw_ HG.out); (case side2 => exact cb_ (Kd.C_below HR0.out HB.out)); (case side3 => exact HC0.out); rintro e w15 ⟨rfl, hb⟩; refine ⟨_, rfl, ?_⟩; replace BK333 := bb_ BK333 hb; replace HB := Aside0.mk (below_step bl_ hb); (try clear hb); (try clear hb2); (try clear hk); (try clear hi); obtain ⟨hcz16_0, hcz16_1, hfz16_0, hfz16_1⟩ := bc2_ BK333) | ((with_reducible refine gate_callee (f := 43) rfl ?_); refine gl_ (some 13) Tryz.func43 #[.agg #[.int .i64 a1_0, .int .i64 a1_1]] ?_; (with_reducible refine (shape_IsPoint.calls a1_0 a1_1 false _ ?side1 A5.out).mono ?_); (case side1 => exact gw_ HG.out); rintro e w17 ⟨rfl, hb⟩; refine ⟨_, rfl, ?_⟩; replace BK333 := bb_ BK333 hb; replace HB := Aside0.mk (below_step bl_ hb); (try clear hb); (try clear hb2); (try clear hk); (try clear hi)))
      go_ret2
      exact ⟨by first | rfl | (simp [errW_none, errW_some] <;> rfl) | (simp [*, errW_none, errW_some] <;> rfl), bl_⟩
  · rw [if_neg c4] at H
    have c4b0 : (t334 == 0) = false := beq_eq_false_iff_ne.mpr c4
    have c4b1 : (t334 != 0) = true := bne_iff_ne.mpr c4
    simp only [Option.some.injEq, Prod.mk.injEq] at H
    obtain ⟨rfl, rfl⟩ := H
    go_enter Tryz.func21, Tryz.ntmps21
    go_wp2_with (first | ((with_reducible refine gate_dst (N := 3) rfl ?_); refine bx_ (N := 3) (cs := #[.int .i64 a1_0, .int .i64 a1_1]) (t := 33) ?_; intro gb333 hg w18 hbox hb; have BK333 := Aside0.mk (hbox); have GW333 := Aside0.mk ((gs_ hg : w.heap.size ≤ gb333)); have GE333 := Aside0.mk ((gs_ hg : w.heap.size ≤ gb333)); replace HB := Aside0.mk (below_step bl_ hb); clear hb hbox hg) | ((with_reducible refine gate_callee (f := 37) rfl ?_); refine gl_ (some 8) Tryz.func37 #[.slice A0 l0.length c0] ?_; (with_reducible refine (shape_CheckRegion.calls k _ _ l0 t334 _ ?side1 ?side2 ?side3 A3.out).mono ?_); (case side1 => exact gw_ HG.out); (case side2 => exact cb_ (Kd.C_below HR0.out HB.out)); (case side3 => exact HC0.out); rintro e w19 ⟨rfl, hb⟩; refine ⟨_, rfl, ?_⟩; replace BK333 := bb_ BK333 hb; replace HB := Aside0.mk (below_step bl_ hb); (try clear hb); (try clear hb2); (try clear hk); (try clear hi)))
    go_ret2
    exact ⟨by first | rfl | (simp [errW_none, errW_some] <;> rfl) | (simp [*, errW_none, errW_some] <;> rfl), bl_⟩
end Go.Proofs.YthkeonbmgcphkaaGreatDoor.PT
