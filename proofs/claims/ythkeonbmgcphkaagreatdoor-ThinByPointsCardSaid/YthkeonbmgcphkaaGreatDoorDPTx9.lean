-- Written by this session's own programs (wip/tools).
import Derived.Test.YthkeonbmgcphkaaGreatDoorDPTx0
import Derived.Test.YthkeonbmgcphkaaGreatDoorDPTx2
import Derived.Test.YthkeonbmgcphkaaGreatDoorDPTx3
import Derived.Test.YthkeonbmgcphkaaGreatDoorDPTx8
namespace Go.Proofs.YthkeonbmgcphkaaGreatDoor.PT
open Go.RowKit Go.Proofs.YthkeonbmgcphkaaGreatDoorW.PrintWords Go.Proofs.YthkeonbmgcphkaaGreatDoorW.PrintLast Go.Proofs.YthkeonbmgcphkaaGreatDoorW.PrintMore
attribute [local go_sem] max2_int min2_int max_two min_two max_three min_three max_four min_four
set_option linter.unusedVariables false
set_option linter.unusedSimpArgs false
def slices_IndexFunc_int_int_with_rules_CheckRules_1.l0 : Nat → List Int → Int → Int → Option (Int)
  | 0, _, _, _ => none
  | k + 1, x0, x7, x8 => if x8 < x7 then (if 0 ≤ x8 then (if x8 < (x0.length : Int) then ((rules_CheckRules_1.f (rd x0 x8)).bind fun t176 => (if t176 = true then (some x8) else (slices_IndexFunc_int_int_with_rules_CheckRules_1.l0 k x0 x7 (wrap64 (x8 + 1))))) else (none)) else (none)) else (some (-1))
def slices_IndexFunc_int_int_with_rules_CheckRules_1.f (k : Nat) (l0 : List Int)  : Option (Int) := slices_IndexFunc_int_int_with_rules_CheckRules_1.l0 k l0 (l0.length : Int) 0
set_option maxHeartbeats 8000000 in
set_option maxRecDepth 100000 in
theorem slices_IndexFunc_int_int_with_rules_CheckRules_1.calls (k : Nat) (A0 : Option Addr) (c0 : Nat) (l0 : List Int)  (r : Int) (w : World) (hG : Tryz.GW w) (hr0 : Kd.C (Kd.int .i64) w A0 l0.length l0) (hc0 : l0.length ≤ c0) (h : slices_IndexFunc_int_int_with_rules_CheckRules_1.f k l0 = some r) :
    Calls Tryz.prog 64 #[.slice A0 l0.length c0, .func (.func 33) #[] #[]] w fun e w' => e = .returned (.int .i64 r) ∧ Drawn0 w w' := by
  have HR0 := Aside0.mk hr0
  have HC0 := Aside0.mk hc0
  clear hr0 hc0
  have HG := Aside0.mk hG
  clear hG
  have H : (slices_IndexFunc_int_int_with_rules_CheckRules_1.l0 k l0 (l0.length : Int) 0) = some r := h
  clear h
  have H' := Aside0.mk H
  clear H
  go_enter Tryz.func64, Tryz.ntmps64
  go_wp2
  go_loopg [8] k (fun kq v8 w' => ∃ (x8_1 : Int), v8 = .int .i64 x8_1 ∧ Aside0 (slices_IndexFunc_int_int_with_rules_CheckRules_1.l0 kq l0 (l0.length : Int) x8_1 = some r) ∧ Aside0 (kq ≤ k) ∧ Drawn0 w w')
  case atStart => exact ⟨(0), (by first | rfl | (simp; done) | (simp [*]; done)), H', ⟨Nat.le_refl _⟩, by repeat (first | exact Drawn0.refl _ | apply Drawn0.step)⟩
  case round =>
    clear H'
    try clear c1
    try clear p2
    obtain ⟨x8_1, rfl, HA, HK1, ⟨m1, rfl⟩⟩ := hrel
    cases gk with
    | zero => exact absurd HA.out (by simp [slices_IndexFunc_int_int_with_rules_CheckRules_1.l0])
    | succ k1 =>
      have H := HA.out
      clear HA
      simp only [slices_IndexFunc_int_int_with_rules_CheckRules_1.l0] at H
      by_cases c3 : x8_1 < (l0.length : Int)
      · rw [if_pos c3] at H
        have c3b0 : decide (x8_1 < (l0.length : Int)) = true := decide_eq_true c3
        clear c3
        by_cases c4 : 0 ≤ x8_1
        · rw [if_pos c4] at H
          have c4b0 : decide (0 ≤ x8_1) = true := decide_eq_true c4
          clear c4
          by_cases c5 : x8_1 < (l0.length : Int)
          · rw [if_pos c5] at H
            have c5b0 : decide (x8_1 < (l0.length : Int)) = true := decide_eq_true c5
            clear c5
            replace H := Option.bind_eq_some_iff.mp H
            obtain ⟨t176, A60, H⟩ := H
            try dsimp only at H
            have A6 := Aside0.mk A60
            clear A60
            by_cases c7 : t176 = true
            · subst c7
              rw [if_pos rfl] at H
              obtain rfl := Option.some.inj H
              have p175 : 0 ≤ (x8_1 : Int) := dt_
              have q175 : x8_1 < (l0.length : Int) := dt_
              obtain ⟨ad175, e175, hx175_0⟩ := Kd.at_int HR0.out x8_1 p175 q175
              cases e175
              replace p175 := eq_true p175
              replace q175 := eq_true q175
              go_wp2_with (first | ((with_reducible refine gate_calleeT rfl ?_); refine goesV_ (f := 33) (some 16) rfl rfl Tryz.func33 (by kernel_rfl) rfl #[.int .i64 (rd l0 x8_1)] rfl (by (try simp only [List.map_toArray, List.map_cons, List.map_nil]); first | done | rfl | (simp only [List.length_drop, List.length_take]; rfl)) ?_; (with_reducible refine (rules_CheckRules_1.calls (rd l0 x8_1) true _ ?side1 A6.out).mono ?_); (case side1 => repeat (first | exact HG.out | apply Tryz.gw_drewN | apply Tryz.gw_drew)); rintro e w' ⟨rfl, ⟨nd, rfl⟩⟩; refine ⟨_, rfl, ?_⟩))
              go_ret
              exact ⟨by first | rfl | (simp; done) | (simp [*]; done), by repeat (first | exact Drawn0.refl _ | apply Drawn0.step)⟩
            · replace c7 := Bool.eq_false_iff.mpr c7
              subst c7
              rw [if_neg (show ¬ (false = true) by decide)] at H
              have H' := Aside0.mk H
              clear H
              have p175 : 0 ≤ (x8_1 : Int) := dt_
              have q175 : x8_1 < (l0.length : Int) := dt_
              obtain ⟨ad175, e175, hx175_0⟩ := Kd.at_int HR0.out x8_1 p175 q175
              cases e175
              replace p175 := eq_true p175
              replace q175 := eq_true q175
              go_wp2_with (first | ((with_reducible refine gate_calleeT rfl ?_); refine goesV_ (f := 33) (some 16) rfl rfl Tryz.func33 (by kernel_rfl) rfl #[.int .i64 (rd l0 x8_1)] rfl (by (try simp only [List.map_toArray, List.map_cons, List.map_nil]); first | done | rfl | (simp only [List.length_drop, List.length_take]; rfl)) ?_; (with_reducible refine (rules_CheckRules_1.calls (rd l0 x8_1) false _ ?side1 A6.out).mono ?_); (case side1 => repeat (first | exact HG.out | apply Tryz.gw_drewN | apply Tryz.gw_drew)); rintro e w' ⟨rfl, ⟨nd, rfl⟩⟩; refine ⟨_, rfl, ?_⟩))
              go_roundg k1
              case measure => have := HK1.out; omega
              case rel => exact ⟨(wrap64 (x8_1 + 1)), (by first | rfl | (simp; done) | (simp [*]; done)), H', ⟨by have := HK1.out; omega⟩, by repeat (first | exact Drawn0.refl _ | apply Drawn0.step)⟩
          · rw [if_neg c5] at H
            exact absurd H (by simp)
        · rw [if_neg c4] at H
          exact absurd H (by simp)
      · rw [if_neg c3] at H
        have c3b0 : decide (x8_1 < (l0.length : Int)) = false := decide_eq_false c3
        clear c3
        obtain rfl := Option.some.inj H
        go_wp2
        go_ret
        exact ⟨by first | rfl | (simp; done) | (simp [*]; done), by repeat (first | exact Drawn0.refl _ | apply Drawn0.step)⟩
def slices_ContainsFunc_int_int_with_rules_CheckRules_1.f (k : Nat) (l0 : List Int)  : Option (Bool) := (slices_IndexFunc_int_int_with_rules_CheckRules_1.f k l0).bind fun t177 => (some (decide (t177 ≥ 0)))
set_option maxHeartbeats 8000000 in
set_option maxRecDepth 100000 in
theorem slices_ContainsFunc_int_int_with_rules_CheckRules_1.calls (k : Nat) (A0 : Option Addr) (c0 : Nat) (l0 : List Int)  (r : Bool) (w : World) (hG : Tryz.GW w) (hr0 : Kd.C (Kd.int .i64) w A0 l0.length l0) (hc0 : l0.length ≤ c0) (h : slices_ContainsFunc_int_int_with_rules_CheckRules_1.f k l0 = some r) :
    Calls Tryz.prog 32 #[.slice A0 l0.length c0, .func (.func 33) #[] #[]] w fun e w' => e = .returned (.bool r) ∧ Drawn0 w w' := by
  have HR0 := Aside0.mk hr0
  have HC0 := Aside0.mk hc0
  clear hr0 hc0
  have HG := Aside0.mk hG
  clear hG
  have H : ((slices_IndexFunc_int_int_with_rules_CheckRules_1.f k l0).bind fun t177 => (some (decide (t177 ≥ 0)))) = some r := h
  clear h
  replace H := Option.bind_eq_some_iff.mp H
  obtain ⟨t177, A30, H⟩ := H
  try dsimp only at H
  have A3 := Aside0.mk A30
  clear A30
  obtain rfl := Option.some.inj H
  go_enter Tryz.func32, Tryz.ntmps32
  go_wp2_with (first | ((with_reducible refine gate_callee (f := 64) rfl ?_); refine gl_ (some 7) Tryz.func64 #[.slice A0 l0.length c0, .func (.func 33) #[] #[]] ?_; (with_reducible refine (slices_IndexFunc_int_int_with_rules_CheckRules_1.calls k _ _ l0  t177 _ ?side1 ?side2 ?side3 A3.out).mono ?_); (case side1 => repeat (first | exact HG.out | apply Tryz.gw_drewN | apply Tryz.gw_drew)); (case side2 => repeat (first | exact HR0.out | (with_reducible refine Kd.C_alloc ?_ _) | (with_reducible refine Kd.C_drewN ?_ _) | (with_reducible refine Kd.C_drew ?_))); (case side3 => exact HC0.out); rintro e w' ⟨rfl, ⟨nd, rfl⟩⟩; refine ⟨_, rfl, ?_⟩))
  go_ret
  exact ⟨by first | rfl | (simp; done) | (simp [*]; done), by repeat (first | exact Drawn0.refl _ | apply Drawn0.step)⟩
def rules_CheckRules.l0 : Nat → Int → List (S68) → Int → Int → Option (Int)
  | 0, _, _, _, _ => none
  | k + 1, x4, x31, x32, x33 => if x33 < x32 then (if 0 ≤ x33 then (if x33 < (x31.length : Int) then ((rules_within.f ((rd_T68 x31 x33).f0) (-1) 15).bind fun t186 => (if t186 = true then ((shape_CheckRegion.f k ((rd_T68 x31 x33).f1)).bind fun t187 => (if t187 = 0 then ((rules_isRule.f ((rd_T68 x31 x33).f2)).bind fun t188 => (if t188 = true then (rules_CheckRules.l0 k (wrap64 (x4 + (((rd_T68 x31 x33).f1).length : Int))) x31 x32 (wrap64 (x33 + 1))) else (some 1))) else (some t187))) else (some 1))) else (none)) else (none)) else (if x4 > 2000 then (some 2) else (some 0))
def rules_CheckRules.f (k : Nat) (a0_0 : Int) (a0_1 : Int) (a0_2 : Int) (a0_3 : Int) (a0_4 : Int) (l0_5 : List (S66)) (l0_6 : List (S68)) : Option (Int) := (slices_ContainsFunc_int_int_with_rules_CheckRules_1.f k (([a0_0, a0_1, a0_2, a0_3, a0_4] : List Int))).bind fun t182 => (if t182 = true then (some 1) else ((rules_checkClasses.f k l0_5).bind fun t183 => (if t183 = 0 then (if (l0_6.length : Int) > 50 then (some 2) else (rules_CheckRules.l0 k 0 l0_6 (l0_6.length : Int) 0)) else (some t183))))
set_option maxHeartbeats 8000000 in
set_option maxRecDepth 100000 in
theorem rules_CheckRules.calls (k : Nat) (a0_0 : Int) (a0_1 : Int) (a0_2 : Int) (a0_3 : Int) (a0_4 : Int) (A0_5 : Option Addr) (c0_5 : Nat) (l0_5 : List (S66)) (A0_6 : Option Addr) (c0_6 : Nat) (l0_6 : List (S68)) (r : Int) (w : World) (hG : Tryz.GW w) (hr0_5 : Kd.C k66 w A0_5 l0_5.length l0_5) (hc0_5 : l0_5.length ≤ c0_5) (hr0_6 : Kd.C k68 w A0_6 l0_6.length l0_6) (hc0_6 : l0_6.length ≤ c0_6) (h : rules_CheckRules.f k a0_0 a0_1 a0_2 a0_3 a0_4 l0_5 l0_6 = some r) :
    Calls Tryz.prog 12 #[.agg #[.int .i64 a0_0, .int .i64 a0_1, .int .i64 a0_2, .int .i64 a0_3, .int .i64 a0_4, .slice A0_5 l0_5.length c0_5, .slice A0_6 l0_6.length c0_6]] w fun e w' => e = .returned (.int .i64 r) ∧ Below w.heap.size w w' := by
  have hu25 := Tryz.underlying25
  have hu68 := Tryz.underlying68
  have HR0_5 := Aside0.mk hr0_5
  have HC0_5 := Aside0.mk hc0_5
  clear hr0_5 hc0_5
  have HR0_6 := Aside0.mk hr0_6
  have HC0_6 := Aside0.mk hc0_6
  clear hr0_6 hc0_6
  have HG := Aside0.mk hG
  clear hG
  have HB := Aside0.mk (Below.refl w.heap.size w)
  have H : ((slices_ContainsFunc_int_int_with_rules_CheckRules_1.f k (([a0_0, a0_1, a0_2, a0_3, a0_4] : List Int))).bind fun t182 => (if t182 = true then (some 1) else ((rules_checkClasses.f k l0_5).bind fun t183 => (if t183 = 0 then (if (l0_6.length : Int) > 50 then (some 2) else (rules_CheckRules.l0 k 0 l0_6 (l0_6.length : Int) 0)) else (some t183))))) = some r := h
  clear h
  obtain ⟨y179, hy179⟩ : ∃ y_ : List Int, y_ = (([a0_0, a0_1, a0_2, a0_3, a0_4] : List Int)) := ⟨_, rfl⟩
  replace H : ((slices_ContainsFunc_int_int_with_rules_CheckRules_1.f k y179).bind fun t182 => (if t182 = true then (some 1) else ((rules_checkClasses.f k l0_5).bind fun t183 => (if t183 = 0 then (if (l0_6.length : Int) > 50 then (some 2) else (rules_CheckRules.l0 k 0 l0_6 (l0_6.length : Int) 0)) else (some t183))))) = some r := by first | (rw [hy179]; with_reducible exact H) | (have H2_ := (Option.bind_some _ _).symm.trans H; rw [hy179]; with_reducible exact H2_) | (have H2_ := (Option.bind_some _ _).symm.trans H; with_reducible exact H2_) | with_reducible exact H | (rw [hy179]; exact H) | exact H
  have Ny179 := Aside0.mk hy179
  clear hy179
  replace H := Option.bind_eq_some_iff.mp H
  obtain ⟨t182, A20, H⟩ := H
  try dsimp only at H
  have A2 := Aside0.mk A20
  clear A20
  by_cases c3 : t182 = true
  · subst c3
    rw [if_pos rfl] at H
    obtain rfl := Option.some.inj H
    go_enter Tryz.func12, Tryz.ntmps12
    go_wp2_with (first | ((with_reducible refine gate_dst (N := 1) rfl ?_); refine bx_ (N := 1) (cs := #[.int .i64 a0_0, .int .i64 a0_1, .int .i64 a0_2, .int .i64 a0_3, .int .i64 a0_4, .slice A0_5 l0_5.length c0_5, .slice A0_6 l0_6.length c0_6]) (t := 25) ?_; intro gb178 hg w4 hbox hb; have BK178 := Aside0.mk (hbox); have GW178 := Aside0.mk ((gs_ hg : w.heap.size ≤ gb178)); have GE178 := Aside0.mk ((gs_ hg : w.heap.size ≤ gb178)); replace HB := Aside0.mk (below_step bl_ hb); clear hb hbox hg; obtain ⟨hcz5_0, hcz5_1, hcz5_2, hcz5_3, hcz5_4, hcz5_5, hcz5_6, hfz5_0, hfz5_1, hfz5_2, hfz5_3, hfz5_4, hfz5_5, hfz5_6⟩ := bc7_ BK178) | ((with_reducible refine gate_dst (N := 18) rfl ?_); refine Kd.R_lit (Kd.int .i64) _ 3 ?hg (N := 18) ?hd (xs := ([a0_0, a0_1, a0_2, a0_3, a0_4] : List Int)) (inner := [.int .i64 a0_0, .int .i64 a0_1, .int .i64 a0_2, .int .i64 a0_3, .int .i64 a0_4]) (ok := fun _ => True) (okp := fun _ => True) ?hr ?hp (fun _ hk => hk) trivial (Below.refl _ _) (Nat.le_refl _) (by simp) ?_; (case hd => rfl); (case hg => rfl); (case hr => first | (go_simp; done) | (go_simp; rfl)); (case hp => exact (Reps.one (show Kd.M (Kd.int .i64) _ _ _ a0_0 [.int .i64 a0_0] from rfl) (Reps.one (show Kd.M (Kd.int .i64) _ _ _ a0_1 [.int .i64 a0_1] from rfl) (Reps.one (show Kd.M (Kd.int .i64) _ _ _ a0_2 [.int .i64 a0_2] from rfl) (Reps.one (show Kd.M (Kd.int .i64) _ _ _ a0_3 [.int .i64 a0_3] from rfl) (Reps.one (show Kd.M (Kd.int .i64) _ _ _ a0_4 [.int .i64 a0_4] from rfl) (Reps.none _ _))))))); intro v180 w6 ho7 hb hg_ hnew_; clear hg_ hnew_; (first | rw [← Ny179.out] at ho7 | (simp only [Int.reduceToNat] at ho7; rw [← Ny179.out] at ho7)); have HO181 := Aside0.mk (Kd.R_lower ho7 (below_size bl_)); replace BK178 := bb_ BK178 hb; replace HB := Aside0.mk (below_step bl_ hb); clear hb ho7; obtain ⟨Ao8, co8, eo8⟩ := Kd.R_slice HO181.out; subst eo8) | ((with_reducible refine gate_callee (f := 32) rfl ?_); refine gl_ (some 19) Tryz.func32 #[.slice Ao8 y179.length co8, .func (.func 33) #[] #[]] ?_; (with_reducible refine (slices_ContainsFunc_int_int_with_rules_CheckRules_1.calls k _ _ y179  true _ ?side1 ?side2 ?side3 A2.out).mono ?_); (case side1 => exact gw_ HG.out); (case side2 => exact cb_ (Kd.R_reads' HO181.out).2.2); (case side3 => exact (Kd.R_reads' HO181.out).2.1); rintro e w' ⟨rfl, ⟨nd, rfl⟩⟩; refine ⟨_, rfl, ?_⟩))
    go_ret
    exact ⟨by first | rfl | (simp [errW_none, errW_some] <;> rfl) | (simp [*, errW_none, errW_some] <;> rfl), bl_⟩
  · replace c3 := Bool.eq_false_iff.mpr c3
    subst c3
    rw [if_neg (show ¬ (false = true) by decide)] at H
    replace H := Option.bind_eq_some_iff.mp H
    obtain ⟨t183, A90, H⟩ := H
    try dsimp only at H
    have A9 := Aside0.mk A90
    clear A90
    by_cases c10 : t183 = 0
    · rw [if_pos c10] at H
      have c10b0 : (t183 == 0) = true := beq_iff_eq.mpr c10
      have c10b1 : (t183 != 0) = false := bne_eq_false_iff_eq.mpr c10
      clear c10
      by_cases c11 : (l0_6.length : Int) > 50
      · rw [if_pos c11] at H
        have c11b0 : decide (50 < (l0_6.length : Int)) = true := decide_eq_true c11
        have c11b1 : decide (50 < l0_6.length) = true := decide_eq_true (by omega)
        clear c11
        obtain rfl := Option.some.inj H
        go_enter Tryz.func12, Tryz.ntmps12
        go_wp2_with (first | ((with_reducible refine gate_dst (N := 1) rfl ?_); refine bx_ (N := 1) (cs := #[.int .i64 a0_0, .int .i64 a0_1, .int .i64 a0_2, .int .i64 a0_3, .int .i64 a0_4, .slice A0_5 l0_5.length c0_5, .slice A0_6 l0_6.length c0_6]) (t := 25) ?_; intro gb178 hg w12 hbox hb; have BK178 := Aside0.mk (hbox); have GW178 := Aside0.mk ((gs_ hg : w.heap.size ≤ gb178)); have GE178 := Aside0.mk ((gs_ hg : w.heap.size ≤ gb178)); replace HB := Aside0.mk (below_step bl_ hb); clear hb hbox hg; obtain ⟨hcz13_0, hcz13_1, hcz13_2, hcz13_3, hcz13_4, hcz13_5, hcz13_6, hfz13_0, hfz13_1, hfz13_2, hfz13_3, hfz13_4, hfz13_5, hfz13_6⟩ := bc7_ BK178) | ((with_reducible refine gate_dst (N := 18) rfl ?_); refine Kd.R_lit (Kd.int .i64) _ 3 ?hg (N := 18) ?hd (xs := ([a0_0, a0_1, a0_2, a0_3, a0_4] : List Int)) (inner := [.int .i64 a0_0, .int .i64 a0_1, .int .i64 a0_2, .int .i64 a0_3, .int .i64 a0_4]) (ok := fun _ => True) (okp := fun _ => True) ?hr ?hp (fun _ hk => hk) trivial (Below.refl _ _) (Nat.le_refl _) (by simp) ?_; (case hd => rfl); (case hg => rfl); (case hr => first | (go_simp; done) | (go_simp; rfl)); (case hp => exact (Reps.one (show Kd.M (Kd.int .i64) _ _ _ a0_0 [.int .i64 a0_0] from rfl) (Reps.one (show Kd.M (Kd.int .i64) _ _ _ a0_1 [.int .i64 a0_1] from rfl) (Reps.one (show Kd.M (Kd.int .i64) _ _ _ a0_2 [.int .i64 a0_2] from rfl) (Reps.one (show Kd.M (Kd.int .i64) _ _ _ a0_3 [.int .i64 a0_3] from rfl) (Reps.one (show Kd.M (Kd.int .i64) _ _ _ a0_4 [.int .i64 a0_4] from rfl) (Reps.none _ _))))))); intro v180 w14 ho15 hb hg_ hnew_; clear hg_ hnew_; (first | rw [← Ny179.out] at ho15 | (simp only [Int.reduceToNat] at ho15; rw [← Ny179.out] at ho15)); have HO181 := Aside0.mk (Kd.R_lower ho15 (below_size bl_)); replace BK178 := bb_ BK178 hb; replace HB := Aside0.mk (below_step bl_ hb); clear hb ho15; obtain ⟨Ao16, co16, eo16⟩ := Kd.R_slice HO181.out; subst eo16) | ((with_reducible refine gate_callee (f := 32) rfl ?_); refine gl_ (some 19) Tryz.func32 #[.slice Ao16 y179.length co16, .func (.func 33) #[] #[]] ?_; (with_reducible refine (slices_ContainsFunc_int_int_with_rules_CheckRules_1.calls k _ _ y179  false _ ?side1 ?side2 ?side3 A2.out).mono ?_); (case side1 => exact gw_ HG.out); (case side2 => exact cb_ (Kd.R_reads' HO181.out).2.2); (case side3 => exact (Kd.R_reads' HO181.out).2.1); rintro e w' ⟨rfl, ⟨nd, rfl⟩⟩; refine ⟨_, rfl, ?_⟩; obtain ⟨hcz17_0, hcz17_1, hcz17_2, hcz17_3, hcz17_4, hcz17_5, hcz17_6, hfz17_0, hfz17_1, hfz17_2, hfz17_3, hfz17_4, hfz17_5, hfz17_6⟩ := bc7_ BK178) | ((with_reducible refine gate_callee (f := 35) rfl ?_); refine gl_ (some 22) Tryz.func35 #[.slice A0_5 l0_5.length c0_5] ?_; (with_reducible refine (rules_checkClasses.calls k _ _ l0_5 t183 _ ?side1 ?side2 ?side3 A9.out).mono ?_); (case side1 => exact gw_ HG.out); (case side2 => exact cb_ (Kd.C_below HR0_5.out bl_)); (case side3 => exact HC0_5.out); rintro e w18 ⟨rfl, hb⟩; refine ⟨_, rfl, ?_⟩; replace HO181 := Aside0.mk (Kd.R_below (rr_ HO181) hb); replace BK178 := bb_ BK178 hb; replace HB := Aside0.mk (below_step bl_ hb); (try clear hb); (try clear hb2); (try clear hk); (try clear hi); obtain ⟨hcz19_0, hcz19_1, hcz19_2, hcz19_3, hcz19_4, hcz19_5, hcz19_6, hfz19_0, hfz19_1, hfz19_2, hfz19_3, hfz19_4, hfz19_5, hfz19_6⟩ := bc7_ BK178))
        go_ret
        exact ⟨by first | rfl | (simp [errW_none, errW_some] <;> rfl) | (simp [*, errW_none, errW_some] <;> rfl), bl_⟩
      · rw [if_neg c11] at H
        have c11b0 : decide (50 < (l0_6.length : Int)) = false := decide_eq_false c11
        have c11b1 : decide (50 < l0_6.length) = false := decide_eq_false (by omega)
        clear c11
        have H' := Aside0.mk H
        clear H
        go_enter Tryz.func12, Tryz.ntmps12
        go_wp2_with (first | ((with_reducible refine gate_dst (N := 1) rfl ?_); refine bx_ (N := 1) (cs := #[.int .i64 a0_0, .int .i64 a0_1, .int .i64 a0_2, .int .i64 a0_3, .int .i64 a0_4, .slice A0_5 l0_5.length c0_5, .slice A0_6 l0_6.length c0_6]) (t := 25) ?_; intro gb178 hg w20 hbox hb; have BK178 := Aside0.mk (hbox); have GW178 := Aside0.mk ((gs_ hg : w.heap.size ≤ gb178)); have GE178 := Aside0.mk ((gs_ hg : w.heap.size ≤ gb178)); replace HB := Aside0.mk (below_step bl_ hb); clear hb hbox hg; obtain ⟨hcz21_0, hcz21_1, hcz21_2, hcz21_3, hcz21_4, hcz21_5, hcz21_6, hfz21_0, hfz21_1, hfz21_2, hfz21_3, hfz21_4, hfz21_5, hfz21_6⟩ := bc7_ BK178) | ((with_reducible refine gate_dst (N := 18) rfl ?_); refine Kd.R_lit (Kd.int .i64) _ 3 ?hg (N := 18) ?hd (xs := ([a0_0, a0_1, a0_2, a0_3, a0_4] : List Int)) (inner := [.int .i64 a0_0, .int .i64 a0_1, .int .i64 a0_2, .int .i64 a0_3, .int .i64 a0_4]) (ok := fun _ => True) (okp := fun _ => True) ?hr ?hp (fun _ hk => hk) trivial (Below.refl _ _) (Nat.le_refl _) (by simp) ?_; (case hd => rfl); (case hg => rfl); (case hr => first | (go_simp; done) | (go_simp; rfl)); (case hp => exact (Reps.one (show Kd.M (Kd.int .i64) _ _ _ a0_0 [.int .i64 a0_0] from rfl) (Reps.one (show Kd.M (Kd.int .i64) _ _ _ a0_1 [.int .i64 a0_1] from rfl) (Reps.one (show Kd.M (Kd.int .i64) _ _ _ a0_2 [.int .i64 a0_2] from rfl) (Reps.one (show Kd.M (Kd.int .i64) _ _ _ a0_3 [.int .i64 a0_3] from rfl) (Reps.one (show Kd.M (Kd.int .i64) _ _ _ a0_4 [.int .i64 a0_4] from rfl) (Reps.none _ _))))))); intro v180 w22 ho23 hb hg_ hnew_; clear hg_ hnew_; (first | rw [← Ny179.out] at ho23 | (simp only [Int.reduceToNat] at ho23; rw [← Ny179.out] at ho23)); have HO181 := Aside0.mk (Kd.R_lower ho23 (below_size bl_)); replace BK178 := bb_ BK178 hb; replace HB := Aside0.mk (below_step bl_ hb); clear hb ho23; obtain ⟨Ao24, co24, eo24⟩ := Kd.R_slice HO181.out; subst eo24) | ((with_reducible refine gate_callee (f := 32) rfl ?_); refine gl_ (some 19) Tryz.func32 #[.slice Ao24 y179.length co24, .func (.func 33) #[] #[]] ?_; (with_reducible refine (slices_ContainsFunc_int_int_with_rules_CheckRules_1.calls k _ _ y179  false _ ?side1 ?side2 ?side3 A2.out).mono ?_); (case side1 => exact gw_ HG.out); (case side2 => exact cb_ (Kd.R_reads' HO181.out).2.2); (case side3 => exact (Kd.R_reads' HO181.out).2.1); rintro e w' ⟨rfl, ⟨nd, rfl⟩⟩; refine ⟨_, rfl, ?_⟩; obtain ⟨hcz25_0, hcz25_1, hcz25_2, hcz25_3, hcz25_4, hcz25_5, hcz25_6, hfz25_0, hfz25_1, hfz25_2, hfz25_3, hfz25_4, hfz25_5, hfz25_6⟩ := bc7_ BK178) | ((with_reducible refine gate_callee (f := 35) rfl ?_); refine gl_ (some 22) Tryz.func35 #[.slice A0_5 l0_5.length c0_5] ?_; (with_reducible refine (rules_checkClasses.calls k _ _ l0_5 t183 _ ?side1 ?side2 ?side3 A9.out).mono ?_); (case side1 => exact gw_ HG.out); (case side2 => exact cb_ (Kd.C_below HR0_5.out bl_)); (case side3 => exact HC0_5.out); rintro e w26 ⟨rfl, hb⟩; refine ⟨_, rfl, ?_⟩; replace HO181 := Aside0.mk (Kd.R_below (rr_ HO181) hb); replace BK178 := bb_ BK178 hb; replace HB := Aside0.mk (below_step bl_ hb); (try clear hb); (try clear hb2); (try clear hk); (try clear hi); obtain ⟨hcz27_0, hcz27_1, hcz27_2, hcz27_3, hcz27_4, hcz27_5, hcz27_6, hfz27_0, hfz27_1, hfz27_2, hfz27_3, hfz27_4, hfz27_5, hfz27_6⟩ := bc7_ BK178))
        go_loopg [4, 33] k (fun kq v4 v33 w' => ∃ (x4_1 : Int) (x33_1 : Int), v4 = .int .i64 x4_1 ∧ v33 = .int .i64 x33_1 ∧ Aside0 (rules_CheckRules.l0 kq x4_1 l0_6 (l0_6.length : Int) x33_1 = some r) ∧ Aside0 (kq ≤ k) ∧ Aside0 (w'.heap[gb178]? = some (.cells #[.int .i64 a0_0, .int .i64 a0_1, .int .i64 a0_2, .int .i64 a0_3, .int .i64 a0_4, (.slice A0_5 l0_5.length c0_5), (.slice A0_6 l0_6.length c0_6)] 25 (0, 0))) ∧ Aside0 (Below w.heap.size w w'))
        case atStart => exact ⟨(0), (0), (by first | rfl | (simp; done) | (simp [*]; done)), (by first | rfl | (simp; done) | (simp [*]; done)), H', ⟨Nat.le_refl _⟩, ⟨by (with_reducible repeat (first | refine blk_drewN ?_ _ | refine blk_drew ?_ | refine blk_alloc ?_ _)); exact BK178.out⟩, ⟨bl_⟩⟩
        case round =>
          clear H'
          try clear c1
          try clear p2
          try clear c3
          try clear c10
          try clear c10b0
          try clear c10b1
          try clear c11
          try clear c11b0
          try clear c11b1
          try clear c12
          try clear hcz13_0
          try clear hcz13_1
          try clear hcz13_2
          try clear hcz13_3
          try clear hcz13_4
          try clear hcz13_5
          try clear hcz13_6
          try clear hcz17_0
          try clear hcz17_1
          try clear hcz17_2
          try clear hcz17_3
          try clear hcz17_4
          try clear hcz17_5
          try clear hcz17_6
          try clear hcz19_0
          try clear hcz19_1
          try clear hcz19_2
          try clear hcz19_3
          try clear hcz19_4
          try clear hcz19_5
          try clear hcz19_6
          try clear hcz21_0
          try clear hcz21_1
          try clear hcz21_2
          try clear hcz21_3
          try clear hcz21_4
          try clear hcz21_5
          try clear hcz21_6
          try clear hcz25_0
          try clear hcz25_1
          try clear hcz25_2
          try clear hcz25_3
          try clear hcz25_4
          try clear hcz25_5
          try clear hcz25_6
          try clear hcz27_0
          try clear hcz27_1
          try clear hcz27_2
          try clear hcz27_3
          try clear hcz27_4
          try clear hcz27_5
          try clear hcz27_6
          try clear hcz5_0
          try clear hcz5_1
          try clear hcz5_2
          try clear hcz5_3
          try clear hcz5_4
          try clear hcz5_5
          try clear hcz5_6
          try clear hfz13_0
          try clear hfz13_1
          try clear hfz13_2
          try clear hfz13_3
          try clear hfz13_4
          try clear hfz13_5
          try clear hfz13_6
          try clear hfz17_0
          try clear hfz17_1
          try clear hfz17_2
          try clear hfz17_3
          try clear hfz17_4
          try clear hfz17_5
          try clear hfz17_6
          try clear hfz19_0
          try clear hfz19_1
          try clear hfz19_2
          try clear hfz19_3
          try clear hfz19_4
          try clear hfz19_5
          try clear hfz19_6
          try clear hfz21_0
          try clear hfz21_1
          try clear hfz21_2
          try clear hfz21_3
          try clear hfz21_4
          try clear hfz21_5
          try clear hfz21_6
          try clear hfz25_0
          try clear hfz25_1
          try clear hfz25_2
          try clear hfz25_3
          try clear hfz25_4
          try clear hfz25_5
          try clear hfz25_6
          try clear hfz27_0
          try clear hfz27_1
          try clear hfz27_2
          try clear hfz27_3
          try clear hfz27_4
          try clear hfz27_5
          try clear hfz27_6
          try clear hfz5_0
          try clear hfz5_1
          try clear hfz5_2
          try clear hfz5_3
          try clear hfz5_4
          try clear hfz5_5
          try clear hfz5_6
          obtain ⟨x4_1, x33_1, rfl, rfl, HA, HK1, BK178, HB⟩ := hrel
          cases gk with
          | zero => exact absurd HA.out (by simp [rules_CheckRules.l0])
          | succ k1 =>
            have H := HA.out
            clear HA
            simp only [rules_CheckRules.l0] at H
            by_cases c28 : x33_1 < (l0_6.length : Int)
            · rw [if_pos c28] at H
              have c28b0 : decide (x33_1 < (l0_6.length : Int)) = true := decide_eq_true c28
              clear c28
              by_cases c29 : 0 ≤ x33_1
              · rw [if_pos c29] at H
                have c29b0 : decide (0 ≤ x33_1) = true := decide_eq_true c29
                clear c29
                by_cases c30 : x33_1 < (l0_6.length : Int)
                · rw [if_pos c30] at H
                  have c30b0 : decide (x33_1 < (l0_6.length : Int)) = true := decide_eq_true c30
                  clear c30
                  replace H := Option.bind_eq_some_iff.mp H
                  obtain ⟨t186, A310, H⟩ := H
                  try dsimp only at H
                  have A31 := Aside0.mk A310
                  clear A310
                  by_cases c32 : t186 = true
                  · subst c32
                    rw [if_pos rfl] at H
                    replace H := Option.bind_eq_some_iff.mp H
                    obtain ⟨t187, A330, H⟩ := H
                    try dsimp only at H
                    have A33 := Aside0.mk A330
                    clear A330
                    by_cases c34 : t187 = 0
                    · rw [if_pos c34] at H
                      have c34b0 : (t187 == 0) = true := beq_iff_eq.mpr c34
                      have c34b1 : (t187 != 0) = false := bne_eq_false_iff_eq.mpr c34
                      clear c34
                      replace H := Option.bind_eq_some_iff.mp H
                      obtain ⟨t188, A350, H⟩ := H
                      try dsimp only at H
                      have A35 := Aside0.mk A350
                      clear A350
                      by_cases c36 : t188 = true
                      · subst c36
                        rw [if_pos rfl] at H
                        have H' := Aside0.mk H
                        clear H
                        have p184 : 0 ≤ (x33_1 : Int) := dt_
                        have q184 : x33_1 < (l0_6.length : Int) := dt_
                        obtain ⟨ad184, A184_1, c184_1, e184, hx184_0, hx184_1, hx184_2, hl184_1, hi184_1⟩ := at_T68 HR0_6.out x33_1 p184 q184
                        cases e184
                        replace hx184_0 := (HB.out.cell (World.block_lt_of_cell? w _ hx184_0)).trans hx184_0
                        replace hx184_1 := (HB.out.cell (World.block_lt_of_cell? w _ hx184_1)).trans hx184_1
                        replace hx184_2 := (HB.out.cell (World.block_lt_of_cell? w _ hx184_2)).trans hx184_2
                        have HR184_1 := Aside0.mk hi184_1
                        have HC184_1 := Aside0.mk hl184_1
                        clear hi184_1 hl184_1
                        replace p184 := eq_true p184
                        replace q184 := eq_true q184
                        go_wp2_with (first | ((with_reducible refine gate_dst (N := 6) rfl ?_); refine bx_ (N := 6) (cs := #[.int .i64 0, .slice none 0 0, .int .i64 0]) (t := 68) ?_; intro gb185 hg w37 hbox hb; have BK185 := Aside0.mk (hbox); have GW185 := Aside0.mk ((gs_ hg : w.heap.size ≤ gb185)); have GE185 := Aside0.mk ((gs_ hg : w.heap.size ≤ gb185)); have NB178_185 := Aside0.mk ((nl_ hg BK178 : gb178 ≠ gb185)); have NB185_178 := Aside0.mk ((ng_ hg BK178 : gb185 ≠ gb178)); replace BK178 := bb_ BK178 hb; replace HB := Aside0.mk (below_step bl_ hb); clear hb hbox hg; have hnb38 := NB185_178.out; have hnc38 := NB178_185.out; obtain ⟨hcz39_0, hcz39_1, hcz39_2, hfz39_0, hfz39_1, hfz39_2⟩ := bc3_ BK185) | ((with_reducible refine gate_callee (f := 36) rfl ?_); refine gl_ (some 39) Tryz.func36 #[.int .i64 ((rd_T68 l0_6 x33_1).f0), .int .i64 (-1), .int .i64 15] ?_; (with_reducible refine (rules_within.calls ((rd_T68 l0_6 x33_1).f0) (-1) 15 true _ ?side1 A31.out).mono ?_); (case side1 => exact gw_ HG.out); rintro e w' ⟨rfl, ⟨nd, rfl⟩⟩; refine ⟨_, rfl, ?_⟩) | ((with_reducible refine gate_callee (f := 37) rfl ?_); refine gl_ (some 43) Tryz.func37 #[.slice A184_1 ((rd_T68 l0_6 x33_1).f1).length c184_1] ?_; (with_reducible refine (shape_CheckRegion.calls k1 _ _ ((rd_T68 l0_6 x33_1).f1) t187 _ ?side1 ?side2 ?side3 A33.out).mono ?_); (case side1 => exact gw_ HG.out); (case side2 => exact Kd.C_below HR184_1.out bl_); (case side3 => exact HC184_1.out); rintro e w40 ⟨rfl, hb⟩; refine ⟨_, rfl, ?_⟩; replace BK178 := Aside0.mk (blk_below (g := gb178) (o := .cells #[.int .i64 a0_0, .int .i64 a0_1, .int .i64 a0_2, .int .i64 a0_3, .int .i64 a0_4, .slice A0_5 l0_5.length c0_5, .slice (some ad184) l0_6.length c0_6] 25 (0, 0)) (by (with_reducible repeat (first | refine blk_drewN ?_ _ | refine blk_drew ?_ | refine blk_alloc ?_ _)); refine blk_far ?_ NB178_185.out _; (with_reducible repeat (first | refine blk_drewN ?_ _ | refine blk_drew ?_ | refine blk_alloc ?_ _)); refine blk_far ?_ NB178_185.out _; (with_reducible repeat (first | refine blk_drewN ?_ _ | refine blk_drew ?_ | refine blk_alloc ?_ _)); refine blk_far ?_ NB178_185.out _; (with_reducible repeat (first | refine blk_drewN ?_ _ | refine blk_drew ?_ | refine blk_alloc ?_ _)); exact BK178.out) hb); replace BK185 := Aside0.mk (blk_below (g := gb185) (o := .cells #[.int .i64 ((rd_T68 l0_6 x33_1).f0), .slice A184_1 ((rd_T68 l0_6 x33_1).f1).length c184_1, .int .i64 ((rd_T68 l0_6 x33_1).f2)] 68 (0, 0)) (by (with_reducible repeat (first | refine blk_drewN ?_ _ | refine blk_drew ?_ | refine blk_alloc ?_ _)); refine blk_put (cs := #[.int .i64 ((rd_T68 l0_6 x33_1).f0), .slice A184_1 ((rd_T68 l0_6 x33_1).f1).length c184_1, .int .i64 0]) ?_ 2 _ rfl; (with_reducible repeat (first | refine blk_drewN ?_ _ | refine blk_drew ?_ | refine blk_alloc ?_ _)); refine blk_put (cs := #[.int .i64 ((rd_T68 l0_6 x33_1).f0), .slice none 0 0, .int .i64 0]) ?_ 1 _ rfl; (with_reducible repeat (first | refine blk_drewN ?_ _ | refine blk_drew ?_ | refine blk_alloc ?_ _)); refine blk_put (cs := #[.int .i64 0, .slice none 0 0, .int .i64 0]) ?_ 0 _ rfl; (with_reducible repeat (first | refine blk_drewN ?_ _ | refine blk_drew ?_ | refine blk_alloc ?_ _)); exact BK185.out) hb); replace HB := Aside0.mk (below_step bl_ hb); (try clear hb); (try clear hb2); (try clear hk); (try clear hi); obtain ⟨hcz41_0, hcz41_1, hcz41_2, hfz41_0, hfz41_1, hfz41_2⟩ := bc3_ BK185) | ((with_reducible refine gate_callee (f := 34) rfl ?_); refine gl_ (some 49) Tryz.func34 #[.int .i64 ((rd_T68 l0_6 x33_1).f2)] ?_; (with_reducible refine (rules_isRule.calls ((rd_T68 l0_6 x33_1).f2) true _ ?side1 A35.out).mono ?_); (case side1 => exact gw_ HG.out); rintro e w' ⟨rfl, ⟨nd, rfl⟩⟩; refine ⟨_, rfl, ?_⟩))
                        go_roundg k1
                        case measure => have := HK1.out; omega
                        case rel => exact ⟨(wrap64 (x4_1 + (((rd_T68 l0_6 x33_1).f1).length : Int))), (wrap64 (x33_1 + 1)), (by first | rfl | (simp; done) | (simp [*]; done)), (by first | rfl | (simp; done) | (simp [*]; done)), H', ⟨by have := HK1.out; omega⟩, ⟨by (with_reducible repeat (first | refine blk_drewN ?_ _ | refine blk_drew ?_ | refine blk_alloc ?_ _)); exact BK178.out⟩, ⟨bl_⟩⟩
                      · replace c36 := Bool.eq_false_iff.mpr c36
                        subst c36
                        rw [if_neg (show ¬ (false = true) by decide)] at H
                        obtain rfl := Option.some.inj H
                        have p184 : 0 ≤ (x33_1 : Int) := dt_
                        have q184 : x33_1 < (l0_6.length : Int) := dt_
                        obtain ⟨ad184, A184_1, c184_1, e184, hx184_0, hx184_1, hx184_2, hl184_1, hi184_1⟩ := at_T68 HR0_6.out x33_1 p184 q184
                        cases e184
                        replace hx184_0 := (HB.out.cell (World.block_lt_of_cell? w _ hx184_0)).trans hx184_0
                        replace hx184_1 := (HB.out.cell (World.block_lt_of_cell? w _ hx184_1)).trans hx184_1
                        replace hx184_2 := (HB.out.cell (World.block_lt_of_cell? w _ hx184_2)).trans hx184_2
                        have HR184_1 := Aside0.mk hi184_1
                        have HC184_1 := Aside0.mk hl184_1
                        clear hi184_1 hl184_1
                        replace p184 := eq_true p184
                        replace q184 := eq_true q184
                        go_wp2_with (first | ((with_reducible refine gate_dst (N := 6) rfl ?_); refine bx_ (N := 6) (cs := #[.int .i64 0, .slice none 0 0, .int .i64 0]) (t := 68) ?_; intro gb185 hg w42 hbox hb; have BK185 := Aside0.mk (hbox); have GW185 := Aside0.mk ((gs_ hg : w.heap.size ≤ gb185)); have GE185 := Aside0.mk ((gs_ hg : w.heap.size ≤ gb185)); have NB178_185 := Aside0.mk ((nl_ hg BK178 : gb178 ≠ gb185)); have NB185_178 := Aside0.mk ((ng_ hg BK178 : gb185 ≠ gb178)); replace BK178 := bb_ BK178 hb; replace HB := Aside0.mk (below_step bl_ hb); clear hb hbox hg; have hnb43 := NB185_178.out; have hnc43 := NB178_185.out; obtain ⟨hcz44_0, hcz44_1, hcz44_2, hfz44_0, hfz44_1, hfz44_2⟩ := bc3_ BK185) | ((with_reducible refine gate_callee (f := 36) rfl ?_); refine gl_ (some 39) Tryz.func36 #[.int .i64 ((rd_T68 l0_6 x33_1).f0), .int .i64 (-1), .int .i64 15] ?_; (with_reducible refine (rules_within.calls ((rd_T68 l0_6 x33_1).f0) (-1) 15 true _ ?side1 A31.out).mono ?_); (case side1 => exact gw_ HG.out); rintro e w' ⟨rfl, ⟨nd, rfl⟩⟩; refine ⟨_, rfl, ?_⟩) | ((with_reducible refine gate_callee (f := 37) rfl ?_); refine gl_ (some 43) Tryz.func37 #[.slice A184_1 ((rd_T68 l0_6 x33_1).f1).length c184_1] ?_; (with_reducible refine (shape_CheckRegion.calls k1 _ _ ((rd_T68 l0_6 x33_1).f1) t187 _ ?side1 ?side2 ?side3 A33.out).mono ?_); (case side1 => exact gw_ HG.out); (case side2 => exact Kd.C_below HR184_1.out bl_); (case side3 => exact HC184_1.out); rintro e w45 ⟨rfl, hb⟩; refine ⟨_, rfl, ?_⟩; replace BK178 := Aside0.mk (blk_below (g := gb178) (o := .cells #[.int .i64 a0_0, .int .i64 a0_1, .int .i64 a0_2, .int .i64 a0_3, .int .i64 a0_4, .slice A0_5 l0_5.length c0_5, .slice (some ad184) l0_6.length c0_6] 25 (0, 0)) (by (with_reducible repeat (first | refine blk_drewN ?_ _ | refine blk_drew ?_ | refine blk_alloc ?_ _)); refine blk_far ?_ NB178_185.out _; (with_reducible repeat (first | refine blk_drewN ?_ _ | refine blk_drew ?_ | refine blk_alloc ?_ _)); refine blk_far ?_ NB178_185.out _; (with_reducible repeat (first | refine blk_drewN ?_ _ | refine blk_drew ?_ | refine blk_alloc ?_ _)); refine blk_far ?_ NB178_185.out _; (with_reducible repeat (first | refine blk_drewN ?_ _ | refine blk_drew ?_ | refine blk_alloc ?_ _)); exact BK178.out) hb); replace BK185 := Aside0.mk (blk_below (g := gb185) (o := .cells #[.int .i64 ((rd_T68 l0_6 x33_1).f0), .slice A184_1 ((rd_T68 l0_6 x33_1).f1).length c184_1, .int .i64 ((rd_T68 l0_6 x33_1).f2)] 68 (0, 0)) (by (with_reducible repeat (first | refine blk_drewN ?_ _ | refine blk_drew ?_ | refine blk_alloc ?_ _)); refine blk_put (cs := #[.int .i64 ((rd_T68 l0_6 x33_1).f0), .slice A184_1 ((rd_T68 l0_6 x33_1).f1).length c184_1, .int .i64 0]) ?_ 2 _ rfl; (with_reducible repeat (first | refine blk_drewN ?_ _ | refine blk_drew ?_ | refine blk_alloc ?_ _)); refine blk_put (cs := #[.int .i64 ((rd_T68 l0_6 x33_1).f0), .slice none 0 0, .int .i64 0]) ?_ 1 _ rfl; (with_reducible repeat (first | refine blk_drewN ?_ _ | refine blk_drew ?_ | refine blk_alloc ?_ _)); refine blk_put (cs := #[.int .i64 0, .slice none 0 0, .int .i64 0]) ?_ 0 _ rfl; (with_reducible repeat (first | refine blk_drewN ?_ _ | refine blk_drew ?_ | refine blk_alloc ?_ _)); exact BK185.out) hb); replace HB := Aside0.mk (below_step bl_ hb); (try clear hb); (try clear hb2); (try clear hk); (try clear hi); obtain ⟨hcz46_0, hcz46_1, hcz46_2, hfz46_0, hfz46_1, hfz46_2⟩ := bc3_ BK185) | ((with_reducible refine gate_callee (f := 34) rfl ?_); refine gl_ (some 49) Tryz.func34 #[.int .i64 ((rd_T68 l0_6 x33_1).f2)] ?_; (with_reducible refine (rules_isRule.calls ((rd_T68 l0_6 x33_1).f2) false _ ?side1 A35.out).mono ?_); (case side1 => exact gw_ HG.out); rintro e w' ⟨rfl, ⟨nd, rfl⟩⟩; refine ⟨_, rfl, ?_⟩))
                        go_ret
                        exact ⟨by first | rfl | (simp [errW_none, errW_some] <;> rfl) | (simp [*, errW_none, errW_some] <;> rfl), bl_⟩
                    · rw [if_neg c34] at H
                      have c34b0 : (t187 == 0) = false := beq_eq_false_iff_ne.mpr c34
                      have c34b1 : (t187 != 0) = true := bne_iff_ne.mpr c34
                      obtain rfl := Option.some.inj H
                      have p184 : 0 ≤ (x33_1 : Int) := dt_
                      have q184 : x33_1 < (l0_6.length : Int) := dt_
                      obtain ⟨ad184, A184_1, c184_1, e184, hx184_0, hx184_1, hx184_2, hl184_1, hi184_1⟩ := at_T68 HR0_6.out x33_1 p184 q184
                      cases e184
                      replace hx184_0 := (HB.out.cell (World.block_lt_of_cell? w _ hx184_0)).trans hx184_0
                      replace hx184_1 := (HB.out.cell (World.block_lt_of_cell? w _ hx184_1)).trans hx184_1
                      replace hx184_2 := (HB.out.cell (World.block_lt_of_cell? w _ hx184_2)).trans hx184_2
                      have HR184_1 := Aside0.mk hi184_1
                      have HC184_1 := Aside0.mk hl184_1
                      clear hi184_1 hl184_1
                      replace p184 := eq_true p184
                      replace q184 := eq_true q184
                      go_wp2_with (first | ((with_reducible refine gate_dst (N := 6) rfl ?_); refine bx_ (N := 6) (cs := #[.int .i64 0, .slice none 0 0, .int .i64 0]) (t := 68) ?_; intro gb185 hg w47 hbox hb; have BK185 := Aside0.mk (hbox); have GW185 := Aside0.mk ((gs_ hg : w.heap.size ≤ gb185)); have GE185 := Aside0.mk ((gs_ hg : w.heap.size ≤ gb185)); have NB178_185 := Aside0.mk ((nl_ hg BK178 : gb178 ≠ gb185)); have NB185_178 := Aside0.mk ((ng_ hg BK178 : gb185 ≠ gb178)); replace BK178 := bb_ BK178 hb; replace HB := Aside0.mk (below_step bl_ hb); clear hb hbox hg; have hnb48 := NB185_178.out; have hnc48 := NB178_185.out; obtain ⟨hcz49_0, hcz49_1, hcz49_2, hfz49_0, hfz49_1, hfz49_2⟩ := bc3_ BK185) | ((with_reducible refine gate_callee (f := 36) rfl ?_); refine gl_ (some 39) Tryz.func36 #[.int .i64 ((rd_T68 l0_6 x33_1).f0), .int .i64 (-1), .int .i64 15] ?_; (with_reducible refine (rules_within.calls ((rd_T68 l0_6 x33_1).f0) (-1) 15 true _ ?side1 A31.out).mono ?_); (case side1 => exact gw_ HG.out); rintro e w' ⟨rfl, ⟨nd, rfl⟩⟩; refine ⟨_, rfl, ?_⟩) | ((with_reducible refine gate_callee (f := 37) rfl ?_); refine gl_ (some 43) Tryz.func37 #[.slice A184_1 ((rd_T68 l0_6 x33_1).f1).length c184_1] ?_; (with_reducible refine (shape_CheckRegion.calls k1 _ _ ((rd_T68 l0_6 x33_1).f1) t187 _ ?side1 ?side2 ?side3 A33.out).mono ?_); (case side1 => exact gw_ HG.out); (case side2 => exact Kd.C_below HR184_1.out bl_); (case side3 => exact HC184_1.out); rintro e w50 ⟨rfl, hb⟩; refine ⟨_, rfl, ?_⟩; replace BK178 := Aside0.mk (blk_below (g := gb178) (o := .cells #[.int .i64 a0_0, .int .i64 a0_1, .int .i64 a0_2, .int .i64 a0_3, .int .i64 a0_4, .slice A0_5 l0_5.length c0_5, .slice (some ad184) l0_6.length c0_6] 25 (0, 0)) (by (with_reducible repeat (first | refine blk_drewN ?_ _ | refine blk_drew ?_ | refine blk_alloc ?_ _)); refine blk_far ?_ NB178_185.out _; (with_reducible repeat (first | refine blk_drewN ?_ _ | refine blk_drew ?_ | refine blk_alloc ?_ _)); refine blk_far ?_ NB178_185.out _; (with_reducible repeat (first | refine blk_drewN ?_ _ | refine blk_drew ?_ | refine blk_alloc ?_ _)); refine blk_far ?_ NB178_185.out _; (with_reducible repeat (first | refine blk_drewN ?_ _ | refine blk_drew ?_ | refine blk_alloc ?_ _)); exact BK178.out) hb); replace BK185 := Aside0.mk (blk_below (g := gb185) (o := .cells #[.int .i64 ((rd_T68 l0_6 x33_1).f0), .slice A184_1 ((rd_T68 l0_6 x33_1).f1).length c184_1, .int .i64 ((rd_T68 l0_6 x33_1).f2)] 68 (0, 0)) (by (with_reducible repeat (first | refine blk_drewN ?_ _ | refine blk_drew ?_ | refine blk_alloc ?_ _)); refine blk_put (cs := #[.int .i64 ((rd_T68 l0_6 x33_1).f0), .slice A184_1 ((rd_T68 l0_6 x33_1).f1).length c184_1, .int .i64 0]) ?_ 2 _ rfl; (with_reducible repeat (first | refine blk_drewN ?_ _ | refine blk_drew ?_ | refine blk_alloc ?_ _)); refine blk_put (cs := #[.int .i64 ((rd_T68 l0_6 x33_1).f0), .slice none 0 0, .int .i64 0]) ?_ 1 _ rfl; (with_reducible repeat (first | refine blk_drewN ?_ _ | refine blk_drew ?_ | refine blk_alloc ?_ _)); refine blk_put (cs := #[.int .i64 0, .slice none 0 0, .int .i64 0]) ?_ 0 _ rfl; (with_reducible repeat (first | refine blk_drewN ?_ _ | refine blk_drew ?_ | refine blk_alloc ?_ _)); exact BK185.out) hb); replace HB := Aside0.mk (below_step bl_ hb); (try clear hb); (try clear hb2); (try clear hk); (try clear hi)))
                      go_ret
                      exact ⟨by first | rfl | (simp [errW_none, errW_some] <;> rfl) | (simp [*, errW_none, errW_some] <;> rfl), bl_⟩
                  · replace c32 := Bool.eq_false_iff.mpr c32
                    subst c32
                    rw [if_neg (show ¬ (false = true) by decide)] at H
                    obtain rfl := Option.some.inj H
                    have p184 : 0 ≤ (x33_1 : Int) := dt_
                    have q184 : x33_1 < (l0_6.length : Int) := dt_
                    obtain ⟨ad184, A184_1, c184_1, e184, hx184_0, hx184_1, hx184_2, hl184_1, hi184_1⟩ := at_T68 HR0_6.out x33_1 p184 q184
                    cases e184
                    replace hx184_0 := (HB.out.cell (World.block_lt_of_cell? w _ hx184_0)).trans hx184_0
                    replace hx184_1 := (HB.out.cell (World.block_lt_of_cell? w _ hx184_1)).trans hx184_1
                    replace hx184_2 := (HB.out.cell (World.block_lt_of_cell? w _ hx184_2)).trans hx184_2
                    have HR184_1 := Aside0.mk hi184_1
                    have HC184_1 := Aside0.mk hl184_1
                    clear hi184_1 hl184_1
                    replace p184 := eq_true p184
                    replace q184 := eq_true q184
                    go_wp2_with (first | ((with_reducible refine gate_dst (N := 6) rfl ?_); refine bx_ (N := 6) (cs := #[.int .i64 0, .slice none 0 0, .int .i64 0]) (t := 68) ?_; intro gb185 hg w51 hbox hb; have BK185 := Aside0.mk (hbox); have GW185 := Aside0.mk ((gs_ hg : w.heap.size ≤ gb185)); have GE185 := Aside0.mk ((gs_ hg : w.heap.size ≤ gb185)); have NB178_185 := Aside0.mk ((nl_ hg BK178 : gb178 ≠ gb185)); have NB185_178 := Aside0.mk ((ng_ hg BK178 : gb185 ≠ gb178)); replace BK178 := bb_ BK178 hb; replace HB := Aside0.mk (below_step bl_ hb); clear hb hbox hg; have hnb52 := NB185_178.out; have hnc52 := NB178_185.out; obtain ⟨hcz53_0, hcz53_1, hcz53_2, hfz53_0, hfz53_1, hfz53_2⟩ := bc3_ BK185) | ((with_reducible refine gate_callee (f := 36) rfl ?_); refine gl_ (some 39) Tryz.func36 #[.int .i64 ((rd_T68 l0_6 x33_1).f0), .int .i64 (-1), .int .i64 15] ?_; (with_reducible refine (rules_within.calls ((rd_T68 l0_6 x33_1).f0) (-1) 15 false _ ?side1 A31.out).mono ?_); (case side1 => exact gw_ HG.out); rintro e w' ⟨rfl, ⟨nd, rfl⟩⟩; refine ⟨_, rfl, ?_⟩))
                    go_ret
                    exact ⟨by first | rfl | (simp [errW_none, errW_some] <;> rfl) | (simp [*, errW_none, errW_some] <;> rfl), bl_⟩
                · rw [if_neg c30] at H
                  exact absurd H (by simp)
              · rw [if_neg c29] at H
                exact absurd H (by simp)
            · rw [if_neg c28] at H
              have c28b0 : decide (x33_1 < (l0_6.length : Int)) = false := decide_eq_false c28
              clear c28
              by_cases c54 : x4_1 > 2000
              · rw [if_pos c54] at H
                have c54b0 : decide (2000 < x4_1) = true := decide_eq_true c54
                clear c54
                obtain rfl := Option.some.inj H
                go_wp2
                go_ret
                exact ⟨by first | rfl | (simp [errW_none, errW_some] <;> rfl) | (simp [*, errW_none, errW_some] <;> rfl), bl_⟩
              · rw [if_neg c54] at H
                have c54b0 : decide (2000 < x4_1) = false := decide_eq_false c54
                clear c54
                obtain rfl := Option.some.inj H
                go_wp2
                go_ret
                exact ⟨by first | rfl | (simp [errW_none, errW_some] <;> rfl) | (simp [*, errW_none, errW_some] <;> rfl), bl_⟩
    · rw [if_neg c10] at H
      have c10b0 : (t183 == 0) = false := beq_eq_false_iff_ne.mpr c10
      have c10b1 : (t183 != 0) = true := bne_iff_ne.mpr c10
      obtain rfl := Option.some.inj H
      go_enter Tryz.func12, Tryz.ntmps12
      go_wp2_with (first | ((with_reducible refine gate_dst (N := 1) rfl ?_); refine bx_ (N := 1) (cs := #[.int .i64 a0_0, .int .i64 a0_1, .int .i64 a0_2, .int .i64 a0_3, .int .i64 a0_4, .slice A0_5 l0_5.length c0_5, .slice A0_6 l0_6.length c0_6]) (t := 25) ?_; intro gb178 hg w55 hbox hb; have BK178 := Aside0.mk (hbox); have GW178 := Aside0.mk ((gs_ hg : w.heap.size ≤ gb178)); have GE178 := Aside0.mk ((gs_ hg : w.heap.size ≤ gb178)); replace HB := Aside0.mk (below_step bl_ hb); clear hb hbox hg; obtain ⟨hcz56_0, hcz56_1, hcz56_2, hcz56_3, hcz56_4, hcz56_5, hcz56_6, hfz56_0, hfz56_1, hfz56_2, hfz56_3, hfz56_4, hfz56_5, hfz56_6⟩ := bc7_ BK178) | ((with_reducible refine gate_dst (N := 18) rfl ?_); refine Kd.R_lit (Kd.int .i64) _ 3 ?hg (N := 18) ?hd (xs := ([a0_0, a0_1, a0_2, a0_3, a0_4] : List Int)) (inner := [.int .i64 a0_0, .int .i64 a0_1, .int .i64 a0_2, .int .i64 a0_3, .int .i64 a0_4]) (ok := fun _ => True) (okp := fun _ => True) ?hr ?hp (fun _ hk => hk) trivial (Below.refl _ _) (Nat.le_refl _) (by simp) ?_; (case hd => rfl); (case hg => rfl); (case hr => first | (go_simp; done) | (go_simp; rfl)); (case hp => exact (Reps.one (show Kd.M (Kd.int .i64) _ _ _ a0_0 [.int .i64 a0_0] from rfl) (Reps.one (show Kd.M (Kd.int .i64) _ _ _ a0_1 [.int .i64 a0_1] from rfl) (Reps.one (show Kd.M (Kd.int .i64) _ _ _ a0_2 [.int .i64 a0_2] from rfl) (Reps.one (show Kd.M (Kd.int .i64) _ _ _ a0_3 [.int .i64 a0_3] from rfl) (Reps.one (show Kd.M (Kd.int .i64) _ _ _ a0_4 [.int .i64 a0_4] from rfl) (Reps.none _ _))))))); intro v180 w57 ho58 hb hg_ hnew_; clear hg_ hnew_; (first | rw [← Ny179.out] at ho58 | (simp only [Int.reduceToNat] at ho58; rw [← Ny179.out] at ho58)); have HO181 := Aside0.mk (Kd.R_lower ho58 (below_size bl_)); replace BK178 := bb_ BK178 hb; replace HB := Aside0.mk (below_step bl_ hb); clear hb ho58; obtain ⟨Ao59, co59, eo59⟩ := Kd.R_slice HO181.out; subst eo59) | ((with_reducible refine gate_callee (f := 32) rfl ?_); refine gl_ (some 19) Tryz.func32 #[.slice Ao59 y179.length co59, .func (.func 33) #[] #[]] ?_; (with_reducible refine (slices_ContainsFunc_int_int_with_rules_CheckRules_1.calls k _ _ y179  false _ ?side1 ?side2 ?side3 A2.out).mono ?_); (case side1 => exact gw_ HG.out); (case side2 => exact cb_ (Kd.R_reads' HO181.out).2.2); (case side3 => exact (Kd.R_reads' HO181.out).2.1); rintro e w' ⟨rfl, ⟨nd, rfl⟩⟩; refine ⟨_, rfl, ?_⟩; obtain ⟨hcz60_0, hcz60_1, hcz60_2, hcz60_3, hcz60_4, hcz60_5, hcz60_6, hfz60_0, hfz60_1, hfz60_2, hfz60_3, hfz60_4, hfz60_5, hfz60_6⟩ := bc7_ BK178) | ((with_reducible refine gate_callee (f := 35) rfl ?_); refine gl_ (some 22) Tryz.func35 #[.slice A0_5 l0_5.length c0_5] ?_; (with_reducible refine (rules_checkClasses.calls k _ _ l0_5 t183 _ ?side1 ?side2 ?side3 A9.out).mono ?_); (case side1 => exact gw_ HG.out); (case side2 => exact cb_ (Kd.C_below HR0_5.out bl_)); (case side3 => exact HC0_5.out); rintro e w61 ⟨rfl, hb⟩; refine ⟨_, rfl, ?_⟩; replace HO181 := Aside0.mk (Kd.R_below (rr_ HO181) hb); replace BK178 := bb_ BK178 hb; replace HB := Aside0.mk (below_step bl_ hb); (try clear hb); (try clear hb2); (try clear hk); (try clear hi)))
      go_ret
      exact ⟨by first | rfl | (simp [errW_none, errW_some] <;> rfl) | (simp [*, errW_none, errW_some] <;> rfl), bl_⟩
def strconv_Itoa.f (a0 : Int) : Option (ByteArray) := if -9223372036854775808 ≤ a0 then (if a0 ≤ 9223372036854775807 then some ⟨(Lib.itoa a0).toArray⟩ else none) else none
theorem strconv_Itoa.calls (a0 : Int) (r : ByteArray) (w : World) (hG : Tryz.GW w) (h : strconv_Itoa.f a0 = some r) :
    Calls Tryz.prog 28 #[.int .i64 a0] w fun e w' => e = .returned (.string r) ∧ Below w.heap.size w w' := by
  unfold strconv_Itoa.f at h
  by_cases h0 : -9223372036854775808 ≤ a0
  · by_cases h1 : a0 ≤ 9223372036854775807
    · rw [if_pos h0, if_pos h1] at h
      obtain rfl := Option.some.inj h
      refine (Tryz.strconv_Itoa a0 h0 h1 w hG.pow10).mono fun e w' ⟨he, k, os, hw⟩ => ⟨he, ?_⟩
      rw [hw]
      exact YthkeonbmgcphkaaGreatDoorMem.below_grow (YthkeonbmgcphkaaGreatDoorMem.below_drewN (Below.refl _ _) k) (Nat.le_refl _) os
    · rw [if_pos h0, if_neg h1] at h; cases h
  · rw [if_neg h0] at h; cases h
end Go.Proofs.YthkeonbmgcphkaaGreatDoor.PT
