-- Written by this session's own programs (wip/tools).
import Derived.Test.YthkeonbmgcphkaaGreatDoorDPTx0
import Derived.Test.YthkeonbmgcphkaaGreatDoorDPTx2
import Derived.Test.YthkeonbmgcphkaaGreatDoorDPTx6
import Derived.Test.YthkeonbmgcphkaaGreatDoorDPTx8
import Derived.Test.YthkeonbmgcphkaaGreatDoorDPTx12
import Derived.Test.YthkeonbmgcphkaaGreatDoorDPTx13
namespace Go.Proofs.YthkeonbmgcphkaaGreatDoor.PT
open Go.RowKit Go.Proofs.YthkeonbmgcphkaaGreatDoorW.PrintWords Go.Proofs.YthkeonbmgcphkaaGreatDoorW.PrintLast Go.Proofs.YthkeonbmgcphkaaGreatDoorW.PrintMore
attribute [local go_sem] max2_int min2_int max_two min_two max_three min_three max_four min_four
set_option linter.unusedVariables false
set_option linter.unusedSimpArgs false
def shape_Set_Core.f (k : Nat) (l0 : List (S118)) (a1 : Int) (a2 : Int) (a3 : Int) (a4 : Int) : Option ((List (S118))) := if (l0.length : Int) = 0 then (some ([] : List (S118))) else ((shape_Set_Around.f k l0).bind fun bt238 => ((shape_SetOf.f k (([(⟨wrap64 (bt238.1 - (wrap64 ((wrap64 ((wrap64 ((wrap64 (a1 + a2)) + a3)) + a4)) + 1))), wrap64 (bt238.2.1 - (wrap64 ((wrap64 ((wrap64 ((wrap64 (a1 + a2)) + a3)) + a4)) + 1))), wrap64 (bt238.2.2.1 + (wrap64 ((wrap64 ((wrap64 ((wrap64 (a1 + a2)) + a3)) + a4)) + 1))), wrap64 (bt238.2.2.2 + (wrap64 ((wrap64 ((wrap64 ((wrap64 (a1 + a2)) + a3)) + a4)) + 1)))⟩ : S44)] : List (S44)))).bind fun t246 => ((shape_Set_Less.f k t246 l0).bind fun t249 => ((shape_Set_Spread.f k t249 a2 a1 a4 a3).bind fun t252 => ((shape_Set_Less.f k l0 t252).bind fun t255 => (some t255))))))
set_option maxHeartbeats 8000000 in
set_option maxRecDepth 100000 in
theorem shape_Set_Core.calls (k : Nat) (A0 : Option Addr) (c0 : Nat) (l0 : List (S118)) (a1 : Int) (a2 : Int) (a3 : Int) (a4 : Int) (r : List (S118)) (w : World) (hG : Tryz.GW w) (hr0 : Kd.C k118 w A0 l0.length l0) (hc0 : l0.length ≤ c0) (h : shape_Set_Core.f k l0 a1 a2 a3 a4 = some r) :
    Calls Tryz.prog 84 #[.slice A0 l0.length c0, .int .i64 a1, .int .i64 a2, .int .i64 a3, .int .i64 a4] w fun e w' => ∃ v0_ : Value, e = .returned (v0_) ∧ Kd.S k118 118 w' w.heap.size (fun _ => True) v0_ r ∧ Below w.heap.size w w' := by
  have hu44 := Tryz.underlying44
  have HR0 := Aside0.mk hr0
  have HC0 := Aside0.mk hc0
  clear hr0 hc0
  have HG := Aside0.mk hG
  clear hG
  have HB := Aside0.mk (Below.refl w.heap.size w)
  have H : (if (l0.length : Int) = 0 then (some ([] : List (S118))) else ((shape_Set_Around.f k l0).bind fun bt238 => ((shape_SetOf.f k (([(⟨wrap64 (bt238.1 - (wrap64 ((wrap64 ((wrap64 ((wrap64 (a1 + a2)) + a3)) + a4)) + 1))), wrap64 (bt238.2.1 - (wrap64 ((wrap64 ((wrap64 ((wrap64 (a1 + a2)) + a3)) + a4)) + 1))), wrap64 (bt238.2.2.1 + (wrap64 ((wrap64 ((wrap64 ((wrap64 (a1 + a2)) + a3)) + a4)) + 1))), wrap64 (bt238.2.2.2 + (wrap64 ((wrap64 ((wrap64 ((wrap64 (a1 + a2)) + a3)) + a4)) + 1)))⟩ : S44)] : List (S44)))).bind fun t246 => ((shape_Set_Less.f k t246 l0).bind fun t249 => ((shape_Set_Spread.f k t249 a2 a1 a4 a3).bind fun t252 => ((shape_Set_Less.f k l0 t252).bind fun t255 => (some t255))))))) = some r := h
  clear h
  by_cases c6 : (l0.length : Int) = 0
  · rw [if_pos c6] at H
    have c6b0 : ((l0.length : Int) == 0) = true := beq_iff_eq.mpr c6
    have c6b1 : ((l0.length : Int) != 0) = false := bne_eq_false_iff_eq.mpr c6
    clear c6
    obtain rfl := Option.some.inj H
    go_enter Tryz.func84, Tryz.ntmps84
    go_wp2
    go_ret
    exact ⟨_, by first | rfl | (simp [errW_none, errW_some] <;> rfl) | (simp [*, errW_none, errW_some] <;> rfl), by first | exact Kd.S_nil _ _ _ _ _ | exact Kd.N_nil _ _ _ _ _ | exact Kd.V_nil _ _ _ _ _ | exact Kd.Q_nil _ _ _ _ _ | exact Kd.R_nil _ _ _ _ _, bl_⟩
  · rw [if_neg c6] at H
    have c6b0 : ((l0.length : Int) == 0) = false := beq_eq_false_iff_ne.mpr c6
    have c6b1 : ((l0.length : Int) != 0) = true := bne_iff_ne.mpr c6
    have c6b2 : ¬ (l0 = []) := fun h_ => c6 (by rw [h_]; rfl)
    replace H := Option.bind_eq_some_iff.mp H
    obtain ⟨⟨t238, t239, t240, t241⟩, A70, H⟩ := H
    try dsimp only at H
    have A7 := Aside0.mk A70
    clear A70
    obtain ⟨y243, hy243⟩ : ∃ y_ : List (S44), y_ = (([(⟨wrap64 (t238 - (wrap64 ((wrap64 ((wrap64 ((wrap64 (a1 + a2)) + a3)) + a4)) + 1))), wrap64 (t239 - (wrap64 ((wrap64 ((wrap64 ((wrap64 (a1 + a2)) + a3)) + a4)) + 1))), wrap64 (t240 + (wrap64 ((wrap64 ((wrap64 ((wrap64 (a1 + a2)) + a3)) + a4)) + 1))), wrap64 (t241 + (wrap64 ((wrap64 ((wrap64 ((wrap64 (a1 + a2)) + a3)) + a4)) + 1)))⟩ : S44)] : List (S44))) := ⟨_, rfl⟩
    replace H : ((shape_SetOf.f k y243).bind fun t246 => ((shape_Set_Less.f k t246 l0).bind fun t249 => ((shape_Set_Spread.f k t249 a2 a1 a4 a3).bind fun t252 => ((shape_Set_Less.f k l0 t252).bind fun t255 => (some t255))))) = some r := by first | (rw [hy243]; with_reducible exact H) | (have H2_ := (Option.bind_some _ _).symm.trans H; rw [hy243]; with_reducible exact H2_) | (have H2_ := (Option.bind_some _ _).symm.trans H; with_reducible exact H2_) | with_reducible exact H | (rw [hy243]; exact H) | exact H
    have Ny243 := Aside0.mk hy243
    clear hy243
    replace H := Option.bind_eq_some_iff.mp H
    obtain ⟨t246, A80, H⟩ := H
    try dsimp only at H
    have A8 := Aside0.mk A80
    clear A80
    replace H := Option.bind_eq_some_iff.mp H
    obtain ⟨t249, A90, H⟩ := H
    try dsimp only at H
    have A9 := Aside0.mk A90
    clear A90
    replace H := Option.bind_eq_some_iff.mp H
    obtain ⟨t252, A100, H⟩ := H
    try dsimp only at H
    have A10 := Aside0.mk A100
    clear A100
    replace H := Option.bind_eq_some_iff.mp H
    obtain ⟨t255, A110, H⟩ := H
    try dsimp only at H
    have A11 := Aside0.mk A110
    clear A110
    obtain rfl := Option.some.inj H
    go_enter Tryz.func84, Tryz.ntmps84
    go_wp2_with (first | ((with_reducible refine gate_callee (f := 124) rfl ?_); refine gl_ (some 18) Tryz.func124 #[.slice A0 l0.length c0] ?_; (with_reducible refine (shape_Set_Around.calls k _ _ l0 t238 t239 t240 t241 _ ?side1 ?side2 ?side3 A7.out).mono ?_); (case side1 => exact gw_ HG.out); (case side2 => repeat (first | exact HR0.out | (with_reducible refine Kd.C_alloc ?_ _) | (with_reducible refine Kd.C_drewN ?_ _) | (with_reducible refine Kd.C_drew ?_))); (case side3 => exact HC0.out); rintro e w12 ⟨rfl, hb⟩; refine ⟨_, rfl, ?_⟩; replace HB := Aside0.mk (below_step bl_ hb); (try clear hb); (try clear hb2); (try clear hk); (try clear hi)) | ((with_reducible refine gate_dst (N := 11) rfl ?_); refine bx_ (N := 11) (cs := #[.int .i64 0, .int .i64 0, .int .i64 0, .int .i64 0]) (t := 44) ?_; intro gb242 hg w13 hbox hb; have BK242 := Aside0.mk (hbox); have GW242 := Aside0.mk ((gs_ hg : w.heap.size ≤ gb242)); have GE242 := Aside0.mk ((gs_ hg : w.heap.size ≤ gb242)); replace HB := Aside0.mk (below_step bl_ hb); clear hb hbox hg; obtain ⟨hcz14_0, hcz14_1, hcz14_2, hcz14_3, hfz14_0, hfz14_1, hfz14_2, hfz14_3⟩ := bc4_ BK242) | ((with_reducible refine gate_dst (N := 44) rfl ?_); refine Kd.R_lit k44 _ 44 ?hg (N := 44) ?hd (xs := ([(⟨wrap64 (t238 - (wrap64 ((wrap64 ((wrap64 ((wrap64 (a1 + a2)) + a3)) + a4)) + 1))), wrap64 (t239 - (wrap64 ((wrap64 ((wrap64 ((wrap64 (a1 + a2)) + a3)) + a4)) + 1))), wrap64 (t240 + (wrap64 ((wrap64 ((wrap64 ((wrap64 (a1 + a2)) + a3)) + a4)) + 1))), wrap64 (t241 + (wrap64 ((wrap64 ((wrap64 ((wrap64 (a1 + a2)) + a3)) + a4)) + 1)))⟩ : S44)] : List (S44))) (inner := [.int .i64 (wrap64 (t238 - (wrap64 ((wrap64 ((wrap64 ((wrap64 (a1 + a2)) + a3)) + a4)) + 1)))), .int .i64 (wrap64 (t239 - (wrap64 ((wrap64 ((wrap64 ((wrap64 (a1 + a2)) + a3)) + a4)) + 1)))), .int .i64 (wrap64 (t240 + (wrap64 ((wrap64 ((wrap64 ((wrap64 (a1 + a2)) + a3)) + a4)) + 1)))), .int .i64 (wrap64 (t241 + (wrap64 ((wrap64 ((wrap64 ((wrap64 (a1 + a2)) + a3)) + a4)) + 1))))]) (ok := fun _ => True) (okp := fun _ => True) ?hr ?hp (fun _ hk => hk) trivial (Below.refl _ _) (Nat.le_refl _) (by simp) ?_; (case hd => rfl); (case hg => rfl); (case hr => first | (go_simp; done) | (go_simp; rfl)); (case hp => exact (Reps.c4 (show Kd.M k44 _ _ _ (⟨wrap64 (t238 - (wrap64 ((wrap64 ((wrap64 ((wrap64 (a1 + a2)) + a3)) + a4)) + 1))), wrap64 (t239 - (wrap64 ((wrap64 ((wrap64 ((wrap64 (a1 + a2)) + a3)) + a4)) + 1))), wrap64 (t240 + (wrap64 ((wrap64 ((wrap64 ((wrap64 (a1 + a2)) + a3)) + a4)) + 1))), wrap64 (t241 + (wrap64 ((wrap64 ((wrap64 ((wrap64 (a1 + a2)) + a3)) + a4)) + 1)))⟩ : S44) [.int .i64 (wrap64 (t238 - (wrap64 ((wrap64 ((wrap64 ((wrap64 (a1 + a2)) + a3)) + a4)) + 1)))), .int .i64 (wrap64 (t239 - (wrap64 ((wrap64 ((wrap64 ((wrap64 (a1 + a2)) + a3)) + a4)) + 1)))), .int .i64 (wrap64 (t240 + (wrap64 ((wrap64 ((wrap64 ((wrap64 (a1 + a2)) + a3)) + a4)) + 1)))), .int .i64 (wrap64 (t241 + (wrap64 ((wrap64 ((wrap64 ((wrap64 (a1 + a2)) + a3)) + a4)) + 1))))] from (k44_mkM _ _ _ (⟨wrap64 (t238 - (wrap64 ((wrap64 ((wrap64 ((wrap64 (a1 + a2)) + a3)) + a4)) + 1))), wrap64 (t239 - (wrap64 ((wrap64 ((wrap64 ((wrap64 (a1 + a2)) + a3)) + a4)) + 1))), wrap64 (t240 + (wrap64 ((wrap64 ((wrap64 ((wrap64 (a1 + a2)) + a3)) + a4)) + 1))), wrap64 (t241 + (wrap64 ((wrap64 ((wrap64 ((wrap64 (a1 + a2)) + a3)) + a4)) + 1)))⟩ : S44) )) (Reps.none _ _))); intro v244 w15 ho16 hb hg_ hnew_; clear hg_ hnew_; (first | rw [← Ny243.out] at ho16 | (simp only [Int.reduceToNat] at ho16; rw [← Ny243.out] at ho16)); have HO245 := Aside0.mk (Kd.R_lower (Kd.R_newB ho16 (g := gb242) (o := .cells #[.int .i64 t238, .int .i64 t239, .int .i64 t240, .int .i64 t241] 44 (0, 0)) (by (with_reducible repeat (first | refine blk_drewN ?_ _ | refine blk_drew ?_ | refine blk_alloc ?_ _)); refine blk_put (cs := #[.int .i64 t238, .int .i64 t239, .int .i64 t240, .int .i64 0]) ?_ 3 _ rfl; (with_reducible repeat (first | refine blk_drewN ?_ _ | refine blk_drew ?_ | refine blk_alloc ?_ _)); refine blk_put (cs := #[.int .i64 t238, .int .i64 t239, .int .i64 0, .int .i64 0]) ?_ 2 _ rfl; (with_reducible repeat (first | refine blk_drewN ?_ _ | refine blk_drew ?_ | refine blk_alloc ?_ _)); refine blk_put (cs := #[.int .i64 t238, .int .i64 0, .int .i64 0, .int .i64 0]) ?_ 1 _ rfl; (with_reducible repeat (first | refine blk_drewN ?_ _ | refine blk_drew ?_ | refine blk_alloc ?_ _)); refine blk_put (cs := #[.int .i64 0, .int .i64 0, .int .i64 0, .int .i64 0]) ?_ 0 _ rfl; (with_reducible repeat (first | refine blk_drewN ?_ _ | refine blk_drew ?_ | refine blk_alloc ?_ _)); exact BK242.out)) (below_size bl_)); replace BK242 := Aside0.mk (blk_below (g := gb242) (o := .cells #[.int .i64 t238, .int .i64 t239, .int .i64 t240, .int .i64 t241] 44 (0, 0)) (by (with_reducible repeat (first | refine blk_drewN ?_ _ | refine blk_drew ?_ | refine blk_alloc ?_ _)); refine blk_put (cs := #[.int .i64 t238, .int .i64 t239, .int .i64 t240, .int .i64 0]) ?_ 3 _ rfl; (with_reducible repeat (first | refine blk_drewN ?_ _ | refine blk_drew ?_ | refine blk_alloc ?_ _)); refine blk_put (cs := #[.int .i64 t238, .int .i64 t239, .int .i64 0, .int .i64 0]) ?_ 2 _ rfl; (with_reducible repeat (first | refine blk_drewN ?_ _ | refine blk_drew ?_ | refine blk_alloc ?_ _)); refine blk_put (cs := #[.int .i64 t238, .int .i64 0, .int .i64 0, .int .i64 0]) ?_ 1 _ rfl; (with_reducible repeat (first | refine blk_drewN ?_ _ | refine blk_drew ?_ | refine blk_alloc ?_ _)); refine blk_put (cs := #[.int .i64 0, .int .i64 0, .int .i64 0, .int .i64 0]) ?_ 0 _ rfl; (with_reducible repeat (first | refine blk_drewN ?_ _ | refine blk_drew ?_ | refine blk_alloc ?_ _)); exact BK242.out) hb); replace HB := Aside0.mk (below_step bl_ hb); clear hb ho16; obtain ⟨Ao17, co17, eo17⟩ := Kd.R_slice HO245.out; subst eo17) | ((with_reducible refine gate_callee (f := 51) rfl ?_); refine gl_ (some 45) Tryz.func51 #[.slice Ao17 y243.length co17] ?_; (with_reducible refine (shape_SetOf.calls k _ _ y243 t246 _ ?side1 ?side2 ?side3 A8.out).mono ?_); (case side1 => exact gw_ HG.out); (case side2 => exact cb_ (Kd.R_reads' HO245.out).2.2); (case side3 => exact (Kd.R_reads' HO245.out).2.1); rintro e w18 ⟨v247, rfl, ho0, hb⟩; refine ⟨_, rfl, ?_⟩; have HO248 := Aside0.mk (Kd.S_lower ho0 (below_size bl_)); replace HO245 := Aside0.mk (Kd.R_below (rr_ HO245) hb); replace BK242 := bb_ BK242 hb; replace HB := Aside0.mk (below_step bl_ hb); (try clear hb); (try clear hb2); (try clear hk); (try clear hi); (try clear ho0); obtain ⟨Ao19, co19, eo19⟩ := Kd.S_slice HO248.out; subst eo19) | ((with_reducible refine gate_callee (f := 54) rfl ?_); refine gl_ (some 49) Tryz.func54 #[.slice Ao19 t246.length co19, .slice A0 l0.length c0] ?_; (with_reducible refine (shape_Set_Less.calls k _ _ t246 _ _ l0 t249 _ ?side1 ?side2 ?side3 ?side4 ?side5 A9.out).mono ?_); (case side1 => exact gw_ HG.out); (case side2 => exact cb_ (Kd.S_reads' HO248.out).2.2); (case side3 => exact (Kd.S_reads' HO248.out).2.1); (case side4 => exact cb_ (Kd.C_below HR0.out HB.out)); (case side5 => exact HC0.out); rintro e w20 ⟨v250, rfl, ho0, hb⟩; refine ⟨_, rfl, ?_⟩; have HO251 := Aside0.mk (Kd.S_lower (Kd.S_new' ho0 (Kd.S_lt (ss_ HO248))) (below_size bl_)); replace HO245 := Aside0.mk (Kd.R_below (rr_ HO245) hb); replace HO248 := Aside0.mk (Kd.S_elder' (ss_ HO248) (Kd.S_base ho0) hb); replace BK242 := bb_ BK242 hb; replace HB := Aside0.mk (below_step bl_ hb); (try clear hb); (try clear hb2); (try clear hk); (try clear hi); (try clear ho0); obtain ⟨Ao21, co21, eo21⟩ := Kd.S_slice HO251.out; subst eo21) | ((with_reducible refine gate_callee (f := 85) rfl ?_); refine gl_ (some 54) Tryz.func85 #[.slice Ao21 t249.length co21, .int .i64 a2, .int .i64 a1, .int .i64 a4, .int .i64 a3] ?_; (with_reducible refine (shape_Set_Spread.calls k _ _ t249 a2 a1 a4 a3 t252 _ ?side1 ?side2 ?side3 A10.out).mono ?_); (case side1 => exact gw_ HG.out); (case side2 => exact cb_ (Kd.S_reads' HO251.out).2.2); (case side3 => exact (Kd.S_reads' HO251.out).2.1); rintro e w22 ⟨v253, rfl, ho0, hb⟩; refine ⟨_, rfl, ?_⟩; have HO254 := Aside0.mk (Kd.S_lower (Kd.S_new' (Kd.S_new' ho0 (Kd.S_lt (ss_ HO248))) (Kd.S_lt (ss_ HO251))) (below_size bl_)); replace HO245 := Aside0.mk (Kd.R_below (rr_ HO245) hb); replace HO248 := Aside0.mk (Kd.S_elder' (ss_ HO248) (Kd.S_base ho0) hb); replace HO251 := Aside0.mk (Kd.S_elder' (ss_ HO251) (Kd.S_base ho0) hb); replace BK242 := bb_ BK242 hb; replace HB := Aside0.mk (below_step bl_ hb); (try clear hb); (try clear hb2); (try clear hk); (try clear hi); (try clear ho0); obtain ⟨Ao23, co23, eo23⟩ := Kd.S_slice HO254.out; subst eo23) | ((with_reducible refine gate_callee (f := 54) rfl ?_); refine gl_ (some 55) Tryz.func54 #[.slice A0 l0.length c0, .slice Ao23 t252.length co23] ?_; (with_reducible refine (shape_Set_Less.calls k _ _ l0 _ _ t252 t255 _ ?side1 ?side2 ?side3 ?side4 ?side5 A11.out).mono ?_); (case side1 => exact gw_ HG.out); (case side2 => exact cb_ (Kd.C_below HR0.out HB.out)); (case side3 => exact HC0.out); (case side4 => exact cb_ (Kd.S_reads' HO254.out).2.2); (case side5 => exact (Kd.S_reads' HO254.out).2.1); rintro e w24 ⟨v256, rfl, ho0, hb⟩; refine ⟨_, rfl, ?_⟩; have HO257 := Aside0.mk (Kd.S_lower (Kd.S_new' (Kd.S_new' (Kd.S_new' ho0 (Kd.S_lt (ss_ HO248))) (Kd.S_lt (ss_ HO251))) (Kd.S_lt (ss_ HO254))) (below_size bl_)); replace HO245 := Aside0.mk (Kd.R_below (rr_ HO245) hb); replace HO248 := Aside0.mk (Kd.S_elder' (ss_ HO248) (Kd.S_base ho0) hb); replace HO251 := Aside0.mk (Kd.S_elder' (ss_ HO251) (Kd.S_base ho0) hb); replace HO254 := Aside0.mk (Kd.S_elder' (ss_ HO254) (Kd.S_base ho0) hb); replace BK242 := bb_ BK242 hb; replace HB := Aside0.mk (below_step bl_ hb); (try clear hb); (try clear hb2); (try clear hk); (try clear hi); (try clear ho0)))
    go_ret
    exact ⟨_, by first | rfl | (simp [errW_none, errW_some] <;> rfl) | (simp [*, errW_none, errW_some] <;> rfl), by (with_reducible repeat (first | apply Kd.S_alloc | apply Kd.S_drewN | apply Kd.S_drew)); exact Kd.S_mono HO257.out (fun _ hk => trivial), bl_⟩
def rules_thin.f (k : Nat) (l0 : List (S118)) (a1 : Int) : Option ((List (S118))) := if a1 < 1 then (some ([] : List (S118))) else ((shape_Set_Core.f k l0 0 (wrap64 (a1 - 1)) 0 (wrap64 (a1 - 1))).bind fun t258 => ((shape_Set_Spread.f k t258 0 (wrap64 (a1 - 1)) 0 (wrap64 (a1 - 1))).bind fun t261 => ((shape_Set_Less.f k l0 t261).bind fun t264 => (some t264))))
set_option maxHeartbeats 8000000 in
set_option maxRecDepth 100000 in
theorem rules_thin.calls (k : Nat) (A0 : Option Addr) (c0 : Nat) (l0 : List (S118)) (a1 : Int) (r : List (S118)) (w : World) (hG : Tryz.GW w) (hr0 : Kd.C k118 w A0 l0.length l0) (hc0 : l0.length ≤ c0) (h : rules_thin.f k l0 a1 = some r) :
    Calls Tryz.prog 50 #[.slice A0 l0.length c0, .int .i64 a1] w fun e w' => ∃ v0_ : Value, e = .returned (v0_) ∧ Kd.S k118 118 w' w.heap.size (fun _ => True) v0_ r ∧ Below w.heap.size w w' := by
  have HR0 := Aside0.mk hr0
  have HC0 := Aside0.mk hc0
  clear hr0 hc0
  have HG := Aside0.mk hG
  clear hG
  have HB := Aside0.mk (Below.refl w.heap.size w)
  have H : (if a1 < 1 then (some ([] : List (S118))) else ((shape_Set_Core.f k l0 0 (wrap64 (a1 - 1)) 0 (wrap64 (a1 - 1))).bind fun t258 => ((shape_Set_Spread.f k t258 0 (wrap64 (a1 - 1)) 0 (wrap64 (a1 - 1))).bind fun t261 => ((shape_Set_Less.f k l0 t261).bind fun t264 => (some t264))))) = some r := h
  clear h
  by_cases c3 : a1 < 1
  · rw [if_pos c3] at H
    have c3b0 : decide (a1 < 1) = true := decide_eq_true c3
    clear c3
    obtain rfl := Option.some.inj H
    go_enter Tryz.func50, Tryz.ntmps50
    go_wp2
    go_ret
    exact ⟨_, by first | rfl | (simp [errW_none, errW_some] <;> rfl) | (simp [*, errW_none, errW_some] <;> rfl), by first | exact Kd.S_nil _ _ _ _ _ | exact Kd.N_nil _ _ _ _ _ | exact Kd.V_nil _ _ _ _ _ | exact Kd.Q_nil _ _ _ _ _ | exact Kd.R_nil _ _ _ _ _, bl_⟩
  · rw [if_neg c3] at H
    have c3b0 : decide (a1 < 1) = false := decide_eq_false c3
    clear c3
    replace H := Option.bind_eq_some_iff.mp H
    obtain ⟨t258, A40, H⟩ := H
    try dsimp only at H
    have A4 := Aside0.mk A40
    clear A40
    replace H := Option.bind_eq_some_iff.mp H
    obtain ⟨t261, A50, H⟩ := H
    try dsimp only at H
    have A5 := Aside0.mk A50
    clear A50
    replace H := Option.bind_eq_some_iff.mp H
    obtain ⟨t264, A60, H⟩ := H
    try dsimp only at H
    have A6 := Aside0.mk A60
    clear A60
    obtain rfl := Option.some.inj H
    go_enter Tryz.func50, Tryz.ntmps50
    go_wp2_with (first | ((with_reducible refine gate_callee (f := 84) rfl ?_); refine gl_ (some 13) Tryz.func84 #[.slice A0 l0.length c0, .int .i64 0, .int .i64 (wrap64 (a1 - 1)), .int .i64 0, .int .i64 (wrap64 (a1 - 1))] ?_; (with_reducible refine (shape_Set_Core.calls k _ _ l0 0 (wrap64 (a1 - 1)) 0 (wrap64 (a1 - 1)) t258 _ ?side1 ?side2 ?side3 A4.out).mono ?_); (case side1 => exact gw_ HG.out); (case side2 => repeat (first | exact HR0.out | (with_reducible refine Kd.C_alloc ?_ _) | (with_reducible refine Kd.C_drewN ?_ _) | (with_reducible refine Kd.C_drew ?_))); (case side3 => exact HC0.out); rintro e w7 ⟨v259, rfl, ho0, hb⟩; refine ⟨_, rfl, ?_⟩; have HO260 := Aside0.mk (Kd.S_lower ho0 (below_size bl_)); replace HB := Aside0.mk (below_step bl_ hb); (try clear hb); (try clear hb2); (try clear hk); (try clear hi); (try clear ho0); obtain ⟨Ao8, co8, eo8⟩ := Kd.S_slice HO260.out; subst eo8) | ((with_reducible refine gate_callee (f := 85) rfl ?_); refine gl_ (some 18) Tryz.func85 #[.slice Ao8 t258.length co8, .int .i64 0, .int .i64 (wrap64 (a1 - 1)), .int .i64 0, .int .i64 (wrap64 (a1 - 1))] ?_; (with_reducible refine (shape_Set_Spread.calls k _ _ t258 0 (wrap64 (a1 - 1)) 0 (wrap64 (a1 - 1)) t261 _ ?side1 ?side2 ?side3 A5.out).mono ?_); (case side1 => exact gw_ HG.out); (case side2 => exact cb_ (Kd.S_reads' HO260.out).2.2); (case side3 => exact (Kd.S_reads' HO260.out).2.1); rintro e w9 ⟨v262, rfl, ho0, hb⟩; refine ⟨_, rfl, ?_⟩; have HO263 := Aside0.mk (Kd.S_lower (Kd.S_new' ho0 (Kd.S_lt (ss_ HO260))) (below_size bl_)); replace HO260 := Aside0.mk (Kd.S_elder' (ss_ HO260) (Kd.S_base ho0) hb); replace HB := Aside0.mk (below_step bl_ hb); (try clear hb); (try clear hb2); (try clear hk); (try clear hi); (try clear ho0); obtain ⟨Ao10, co10, eo10⟩ := Kd.S_slice HO263.out; subst eo10) | ((with_reducible refine gate_callee (f := 54) rfl ?_); refine gl_ (some 19) Tryz.func54 #[.slice A0 l0.length c0, .slice Ao10 t261.length co10] ?_; (with_reducible refine (shape_Set_Less.calls k _ _ l0 _ _ t261 t264 _ ?side1 ?side2 ?side3 ?side4 ?side5 A6.out).mono ?_); (case side1 => exact gw_ HG.out); (case side2 => exact cb_ (Kd.C_below HR0.out HB.out)); (case side3 => exact HC0.out); (case side4 => exact cb_ (Kd.S_reads' HO263.out).2.2); (case side5 => exact (Kd.S_reads' HO263.out).2.1); rintro e w11 ⟨v265, rfl, ho0, hb⟩; refine ⟨_, rfl, ?_⟩; have HO266 := Aside0.mk (Kd.S_lower (Kd.S_new' (Kd.S_new' ho0 (Kd.S_lt (ss_ HO260))) (Kd.S_lt (ss_ HO263))) (below_size bl_)); replace HO260 := Aside0.mk (Kd.S_elder' (ss_ HO260) (Kd.S_base ho0) hb); replace HO263 := Aside0.mk (Kd.S_elder' (ss_ HO263) (Kd.S_base ho0) hb); replace HB := Aside0.mk (below_step bl_ hb); (try clear hb); (try clear hb2); (try clear hk); (try clear hi); (try clear ho0)))
    go_ret
    exact ⟨_, by first | rfl | (simp [errW_none, errW_some] <;> rfl) | (simp [*, errW_none, errW_some] <;> rfl), by (with_reducible repeat (first | apply Kd.S_alloc | apply Kd.S_drewN | apply Kd.S_drew)); exact Kd.S_mono HO266.out (fun _ hk => trivial), bl_⟩
def shape_Set_Many.l0 : Nat → Int → List (S118) → Int → Int → Option (Int)
  | 0, _, _, _, _ => none
  | k + 1, x3, x6, x7, x8 => if x8 < x7 then (if 0 ≤ x8 then (if x8 < (x6.length : Int) then (shape_Set_Many.l0 k (wrap64 (x3 + (wrap64 ((((rd_T118 x6 x8).f2).length : Int) / 2)))) x6 x7 (wrap64 (x8 + 1))) else (none)) else (none)) else (some x3)
def shape_Set_Many.f (k : Nat) (l0 : List (S118)) : Option (Int) := shape_Set_Many.l0 k 0 l0 (l0.length : Int) 0
set_option maxHeartbeats 8000000 in
set_option maxRecDepth 100000 in
theorem shape_Set_Many.calls (k : Nat) (A0 : Option Addr) (c0 : Nat) (l0 : List (S118)) (r : Int) (w : World) (hG : Tryz.GW w) (hr0 : Kd.C k118 w A0 l0.length l0) (hc0 : l0.length ≤ c0) (h : shape_Set_Many.f k l0 = some r) :
    Calls Tryz.prog 95 #[.slice A0 l0.length c0] w fun e w' => e = .returned (.int .i64 r) ∧ Below w.heap.size w w' := by
  have hu118 := Tryz.underlying118
  have HR0 := Aside0.mk hr0
  have HC0 := Aside0.mk hc0
  clear hr0 hc0
  have HG := Aside0.mk hG
  clear hG
  have HB := Aside0.mk (Below.refl w.heap.size w)
  have H : (shape_Set_Many.l0 k 0 l0 (l0.length : Int) 0) = some r := h
  clear h
  have H' := Aside0.mk H
  clear H
  go_enter Tryz.func95, Tryz.ntmps95
  go_wp2
  go_loopg [3, 8] k (fun kq v3 v8 w' => ∃ (x3_1 : Int) (x8_1 : Int), v3 = .int .i64 x3_1 ∧ v8 = .int .i64 x8_1 ∧ Aside0 (shape_Set_Many.l0 kq x3_1 l0 (l0.length : Int) x8_1 = some r) ∧ Aside0 (kq ≤ k) ∧ Aside0 (Below w.heap.size w w'))
  case atStart => exact ⟨(0), (0), (by first | rfl | (simp; done) | (simp [*]; done)), (by first | rfl | (simp; done) | (simp [*]; done)), H', ⟨Nat.le_refl _⟩, ⟨bl_⟩⟩
  case round =>
    clear H'
    obtain ⟨x3_1, x8_1, rfl, rfl, HA, HK1, HB⟩ := hrel
    cases gk with
    | zero => exact absurd HA.out (by simp [shape_Set_Many.l0])
    | succ k1 =>
      have H := HA.out
      clear HA
      simp only [shape_Set_Many.l0] at H
      by_cases c2 : x8_1 < (l0.length : Int)
      · rw [if_pos c2] at H
        have c2b0 : decide (x8_1 < (l0.length : Int)) = true := decide_eq_true c2
        clear c2
        by_cases c3 : 0 ≤ x8_1
        · rw [if_pos c3] at H
          have c3b0 : decide (0 ≤ x8_1) = true := decide_eq_true c3
          clear c3
          by_cases c4 : x8_1 < (l0.length : Int)
          · rw [if_pos c4] at H
            have c4b0 : decide (x8_1 < (l0.length : Int)) = true := decide_eq_true c4
            clear c4
            have H' := Aside0.mk H
            clear H
            have p267 : 0 ≤ (x8_1 : Int) := dt_
            have q267 : x8_1 < (l0.length : Int) := dt_
            obtain ⟨ad267, A267_2, c267_2, e267, hx267_0, hx267_1, hx267_2, hl267_2, hi267_2⟩ := at_T118 HR0.out x8_1 p267 q267
            cases e267
            replace hx267_0 := (HB.out.cell (World.block_lt_of_cell? w _ hx267_0)).trans hx267_0
            replace hx267_1 := (HB.out.cell (World.block_lt_of_cell? w _ hx267_1)).trans hx267_1
            replace hx267_2 := (HB.out.cell (World.block_lt_of_cell? w _ hx267_2)).trans hx267_2
            have HR267_2 := Aside0.mk hi267_2
            have HC267_2 := Aside0.mk hl267_2
            clear hi267_2 hl267_2
            replace p267 := eq_true p267
            replace q267 := eq_true q267
            go_wp2_with (first | ((with_reducible refine gate_dst (N := 5) rfl ?_); refine bx_ (N := 5) (cs := #[.int .i64 0, .int .i64 0, .slice none 0 0]) (t := 118) ?_; intro gb268 hg w5 hbox hb; have BK268 := Aside0.mk (hbox); have GW268 := Aside0.mk ((gs_ hg : w.heap.size ≤ gb268)); have GE268 := Aside0.mk ((gs_ hg : w.heap.size ≤ gb268)); replace HB := Aside0.mk (below_step bl_ hb); clear hb hbox hg; obtain ⟨hcz6_0, hcz6_1, hcz6_2, hfz6_0, hfz6_1, hfz6_2⟩ := bc3_ BK268))
            go_roundg k1
            case measure => have := HK1.out; omega
            case rel => exact ⟨(wrap64 (x3_1 + (wrap64 ((((rd_T118 l0 x8_1).f2).length : Int) / 2)))), (wrap64 (x8_1 + 1)), (by first | rfl | (simp; done) | (simp [*]; done)), (by first | rfl | (simp; done) | (simp [*]; done)), H', ⟨by have := HK1.out; omega⟩, ⟨bl_⟩⟩
          · rw [if_neg c4] at H
            exact absurd H (by simp)
        · rw [if_neg c3] at H
          exact absurd H (by simp)
      · rw [if_neg c2] at H
        have c2b0 : decide (x8_1 < (l0.length : Int)) = false := decide_eq_false c2
        clear c2
        obtain rfl := Option.some.inj H
        go_wp2
        go_ret
        exact ⟨by first | rfl | (simp [errW_none, errW_some] <;> rfl) | (simp [*, errW_none, errW_some] <;> rfl), bl_⟩
def shape_Set_Told.f (k : Nat) (l0 : List (S118)) : Option ((List (S44)) × Int) := (shape_Set_Many.f k l0).bind fun t269 => (if t269 > 2000 then (some (([] : List (S44)), 2)) else ((shape_Set_Rects.f k l0).bind fun t270 => (some (t270, 0))))
set_option maxHeartbeats 8000000 in
set_option maxRecDepth 100000 in
theorem shape_Set_Told.calls (k : Nat) (A0 : Option Addr) (c0 : Nat) (l0 : List (S118)) (r1 : List (S44)) (r2 : Int) (w : World) (hG : Tryz.GW w) (hr0 : Kd.C k118 w A0 l0.length l0) (hc0 : l0.length ≤ c0) (h : shape_Set_Told.f k l0 = some (r1, r2)) :
    Calls Tryz.prog 52 #[.slice A0 l0.length c0] w fun e w' => ∃ v0_ : Value, e = .returned (.tuple #[v0_, .int .i64 r2]) ∧ Kd.R k44 44 w' w.heap.size (fun _ => True) v0_ r1 ∧ Below w.heap.size w w' := by
  have HR0 := Aside0.mk hr0
  have HC0 := Aside0.mk hc0
  clear hr0 hc0
  have HG := Aside0.mk hG
  clear hG
  have HB := Aside0.mk (Below.refl w.heap.size w)
  have H : ((shape_Set_Many.f k l0).bind fun t269 => (if t269 > 2000 then (some (([] : List (S44)), 2)) else ((shape_Set_Rects.f k l0).bind fun t270 => (some (t270, 0))))) = some (r1, r2) := h
  clear h
  replace H := Option.bind_eq_some_iff.mp H
  obtain ⟨t269, A20, H⟩ := H
  try dsimp only at H
  have A2 := Aside0.mk A20
  clear A20
  by_cases c3 : t269 > 2000
  · rw [if_pos c3] at H
    have c3b0 : decide (2000 < t269) = true := decide_eq_true c3
    clear c3
    simp only [Option.some.injEq, Prod.mk.injEq] at H
    obtain ⟨rfl, rfl⟩ := H
    go_enter Tryz.func52, Tryz.ntmps52
    go_wp2_with (first | ((with_reducible refine gate_callee (f := 95) rfl ?_); refine gl_ (some 5) Tryz.func95 #[.slice A0 l0.length c0] ?_; (with_reducible refine (shape_Set_Many.calls k _ _ l0 t269 _ ?side1 ?side2 ?side3 A2.out).mono ?_); (case side1 => exact gw_ HG.out); (case side2 => repeat (first | exact HR0.out | (with_reducible refine Kd.C_alloc ?_ _) | (with_reducible refine Kd.C_drewN ?_ _) | (with_reducible refine Kd.C_drew ?_))); (case side3 => exact HC0.out); rintro e w4 ⟨rfl, hb⟩; refine ⟨_, rfl, ?_⟩; replace HB := Aside0.mk (below_step bl_ hb); (try clear hb); (try clear hb2); (try clear hk); (try clear hi)))
    go_ret2
    exact ⟨_, by first | rfl | (simp [errW_none, errW_some] <;> rfl) | (simp [*, errW_none, errW_some] <;> rfl), by first | exact Kd.R_nil _ _ _ _ _ | exact Kd.N_nil _ _ _ _ _ | exact Kd.V_nil _ _ _ _ _ | exact Kd.Q_nil _ _ _ _ _ | exact Kd.S_nil _ _ _ _ _, bl_⟩
  · rw [if_neg c3] at H
    have c3b0 : decide (2000 < t269) = false := decide_eq_false c3
    clear c3
    replace H := Option.bind_eq_some_iff.mp H
    obtain ⟨t270, A50, H⟩ := H
    try dsimp only at H
    have A5 := Aside0.mk A50
    clear A50
    simp only [Option.some.injEq, Prod.mk.injEq] at H
    obtain ⟨rfl, rfl⟩ := H
    go_enter Tryz.func52, Tryz.ntmps52
    go_wp2_with (first | ((with_reducible refine gate_callee (f := 95) rfl ?_); refine gl_ (some 5) Tryz.func95 #[.slice A0 l0.length c0] ?_; (with_reducible refine (shape_Set_Many.calls k _ _ l0 t269 _ ?side1 ?side2 ?side3 A2.out).mono ?_); (case side1 => exact gw_ HG.out); (case side2 => repeat (first | exact HR0.out | (with_reducible refine Kd.C_alloc ?_ _) | (with_reducible refine Kd.C_drewN ?_ _) | (with_reducible refine Kd.C_drew ?_))); (case side3 => exact HC0.out); rintro e w6 ⟨rfl, hb⟩; refine ⟨_, rfl, ?_⟩; replace HB := Aside0.mk (below_step bl_ hb); (try clear hb); (try clear hb2); (try clear hk); (try clear hi)) | ((with_reducible refine gate_callee (f := 69) rfl ?_); refine gl_ (some 8) Tryz.func69 #[.slice A0 l0.length c0] ?_; (with_reducible refine (shape_Set_Rects.calls k _ _ l0 t270 _ ?side1 ?side2 ?side3 A5.out).mono ?_); (case side1 => exact gw_ HG.out); (case side2 => exact cb_ (Kd.C_below HR0.out HB.out)); (case side3 => exact HC0.out); rintro e w7 ⟨v271, rfl, ho0, hb⟩; refine ⟨_, rfl, ?_⟩; have HO272 := Aside0.mk (Kd.R_lower ho0 (below_size bl_)); replace HB := Aside0.mk (below_step bl_ hb); (try clear hb); (try clear hb2); (try clear hk); (try clear hi); (try clear ho0)))
    go_ret2
    exact ⟨_, by first | rfl | (simp [errW_none, errW_some] <;> rfl) | (simp [*, errW_none, errW_some] <;> rfl), rr_ HO272, bl_⟩
def rules_Thin.f (k : Nat) (l0 : List (S44)) (a1 : Int) : Option ((List (S44)) × Int) := (shape_CheckRegion.f k l0).bind fun t273 => (if t273 = 0 then ((rules_isRule.f a1).bind fun t274 => (if t274 = true then ((shape_SetOf.f k l0).bind fun t275 => ((rules_thin.f k t275 a1).bind fun t278 => ((shape_Set_Told.f k t278).bind fun bt281 => (some (bt281.1, bt281.2))))) else (some (([] : List (S44)), 1)))) else (some (([] : List (S44)), t273)))
set_option maxHeartbeats 8000000 in
set_option maxRecDepth 100000 in
theorem rules_Thin.calls (k : Nat) (A0 : Option Addr) (c0 : Nat) (l0 : List (S44)) (a1 : Int) (r1 : List (S44)) (r2 : Int) (w : World) (hG : Tryz.GW w) (hr0 : Kd.C k44 w A0 l0.length l0) (hc0 : l0.length ≤ c0) (h : rules_Thin.f k l0 a1 = some (r1, r2)) :
    Calls Tryz.prog 19 #[.slice A0 l0.length c0, .int .i64 a1] w fun e w' => ∃ v0_ : Value, e = .returned (.tuple #[v0_, .int .i64 r2]) ∧ Kd.R k44 44 w' w.heap.size (fun _ => True) v0_ r1 ∧ Below w.heap.size w w' := by
  have HR0 := Aside0.mk hr0
  have HC0 := Aside0.mk hc0
  clear hr0 hc0
  have HG := Aside0.mk hG
  clear hG
  have HB := Aside0.mk (Below.refl w.heap.size w)
  have H : ((shape_CheckRegion.f k l0).bind fun t273 => (if t273 = 0 then ((rules_isRule.f a1).bind fun t274 => (if t274 = true then ((shape_SetOf.f k l0).bind fun t275 => ((rules_thin.f k t275 a1).bind fun t278 => ((shape_Set_Told.f k t278).bind fun bt281 => (some (bt281.1, bt281.2))))) else (some (([] : List (S44)), 1)))) else (some (([] : List (S44)), t273)))) = some (r1, r2) := h
  clear h
  replace H := Option.bind_eq_some_iff.mp H
  obtain ⟨t273, A30, H⟩ := H
  try dsimp only at H
  have A3 := Aside0.mk A30
  clear A30
  by_cases c4 : t273 = 0
  · rw [if_pos c4] at H
    have c4b0 : (t273 == 0) = true := beq_iff_eq.mpr c4
    have c4b1 : (t273 != 0) = false := bne_eq_false_iff_eq.mpr c4
    clear c4
    replace H := Option.bind_eq_some_iff.mp H
    obtain ⟨t274, A50, H⟩ := H
    try dsimp only at H
    have A5 := Aside0.mk A50
    clear A50
    by_cases c6 : t274 = true
    · subst c6
      rw [if_pos rfl] at H
      replace H := Option.bind_eq_some_iff.mp H
      obtain ⟨t275, A70, H⟩ := H
      try dsimp only at H
      have A7 := Aside0.mk A70
      clear A70
      replace H := Option.bind_eq_some_iff.mp H
      obtain ⟨t278, A80, H⟩ := H
      try dsimp only at H
      have A8 := Aside0.mk A80
      clear A80
      replace H := Option.bind_eq_some_iff.mp H
      obtain ⟨⟨t281, t282⟩, A90, H⟩ := H
      try dsimp only at H
      have A9 := Aside0.mk A90
      clear A90
      simp only [Option.some.injEq, Prod.mk.injEq] at H
      obtain ⟨rfl, rfl⟩ := H
      go_enter Tryz.func19, Tryz.ntmps19
      go_wp2_with (first | ((with_reducible refine gate_callee (f := 37) rfl ?_); refine gl_ (some 8) Tryz.func37 #[.slice A0 l0.length c0] ?_; (with_reducible refine (shape_CheckRegion.calls k _ _ l0 t273 _ ?side1 ?side2 ?side3 A3.out).mono ?_); (case side1 => exact gw_ HG.out); (case side2 => repeat (first | exact HR0.out | (with_reducible refine Kd.C_alloc ?_ _) | (with_reducible refine Kd.C_drewN ?_ _) | (with_reducible refine Kd.C_drew ?_))); (case side3 => exact HC0.out); rintro e w10 ⟨rfl, hb⟩; refine ⟨_, rfl, ?_⟩; replace HB := Aside0.mk (below_step bl_ hb); (try clear hb); (try clear hb2); (try clear hk); (try clear hi)) | ((with_reducible refine gate_callee (f := 34) rfl ?_); refine gl_ (some 13) Tryz.func34 #[.int .i64 a1] ?_; (with_reducible refine (rules_isRule.calls a1 true _ ?side1 A5.out).mono ?_); (case side1 => exact gw_ HG.out); rintro e w' ⟨rfl, ⟨nd, rfl⟩⟩; refine ⟨_, rfl, ?_⟩) | ((with_reducible refine gate_callee (f := 51) rfl ?_); refine gl_ (some 16) Tryz.func51 #[.slice A0 l0.length c0] ?_; (with_reducible refine (shape_SetOf.calls k _ _ l0 t275 _ ?side1 ?side2 ?side3 A7.out).mono ?_); (case side1 => exact gw_ HG.out); (case side2 => exact cb_ (Kd.C_below HR0.out bl_)); (case side3 => exact HC0.out); rintro e w11 ⟨v276, rfl, ho0, hb⟩; refine ⟨_, rfl, ?_⟩; have HO277 := Aside0.mk (Kd.S_lower ho0 (below_size bl_)); replace HB := Aside0.mk (below_step bl_ hb); (try clear hb); (try clear hb2); (try clear hk); (try clear hi); (try clear ho0); obtain ⟨Ao12, co12, eo12⟩ := Kd.S_slice HO277.out; subst eo12) | ((with_reducible refine gate_callee (f := 50) rfl ?_); refine gl_ (some 18) Tryz.func50 #[.slice Ao12 t275.length co12, .int .i64 a1] ?_; (with_reducible refine (rules_thin.calls k _ _ t275 a1 t278 _ ?side1 ?side2 ?side3 A8.out).mono ?_); (case side1 => exact gw_ HG.out); (case side2 => exact cb_ (Kd.S_reads' HO277.out).2.2); (case side3 => exact (Kd.S_reads' HO277.out).2.1); rintro e w13 ⟨v279, rfl, ho0, hb⟩; refine ⟨_, rfl, ?_⟩; have HO280 := Aside0.mk (Kd.S_lower (Kd.S_new' ho0 (Kd.S_lt (ss_ HO277))) (below_size bl_)); replace HO277 := Aside0.mk (Kd.S_elder' (ss_ HO277) (Kd.S_base ho0) hb); replace HB := Aside0.mk (below_step bl_ hb); (try clear hb); (try clear hb2); (try clear hk); (try clear hi); (try clear ho0); obtain ⟨Ao14, co14, eo14⟩ := Kd.S_slice HO280.out; subst eo14) | ((with_reducible refine gate_callee (f := 52) rfl ?_); refine gl_ (some 19) Tryz.func52 #[.slice Ao14 t278.length co14] ?_; (with_reducible refine (shape_Set_Told.calls k _ _ t278 t281 t282 _ ?side1 ?side2 ?side3 A9.out).mono ?_); (case side1 => exact gw_ HG.out); (case side2 => exact cb_ (Kd.S_reads' HO280.out).2.2); (case side3 => exact (Kd.S_reads' HO280.out).2.1); rintro e w15 ⟨v283, rfl, ho0, hb⟩; refine ⟨_, rfl, ?_⟩; have HO284 := Aside0.mk (Kd.R_lower ho0 (below_size bl_)); replace HO277 := Aside0.mk (Kd.S_below (ss_ HO277) hb); replace HO280 := Aside0.mk (Kd.S_below (ss_ HO280) hb); replace HB := Aside0.mk (below_step bl_ hb); (try clear hb); (try clear hb2); (try clear hk); (try clear hi); (try clear ho0)))
      go_ret2
      exact ⟨_, by first | rfl | (simp [errW_none, errW_some] <;> rfl) | (simp [*, errW_none, errW_some] <;> rfl), rr_ HO284, bl_⟩
    · replace c6 := Bool.eq_false_iff.mpr c6
      subst c6
      rw [if_neg (show ¬ (false = true) by decide)] at H
      simp only [Option.some.injEq, Prod.mk.injEq] at H
      obtain ⟨rfl, rfl⟩ := H
      go_enter Tryz.func19, Tryz.ntmps19
      go_wp2_with (first | ((with_reducible refine gate_callee (f := 37) rfl ?_); refine gl_ (some 8) Tryz.func37 #[.slice A0 l0.length c0] ?_; (with_reducible refine (shape_CheckRegion.calls k _ _ l0 t273 _ ?side1 ?side2 ?side3 A3.out).mono ?_); (case side1 => exact gw_ HG.out); (case side2 => repeat (first | exact HR0.out | (with_reducible refine Kd.C_alloc ?_ _) | (with_reducible refine Kd.C_drewN ?_ _) | (with_reducible refine Kd.C_drew ?_))); (case side3 => exact HC0.out); rintro e w16 ⟨rfl, hb⟩; refine ⟨_, rfl, ?_⟩; replace HB := Aside0.mk (below_step bl_ hb); (try clear hb); (try clear hb2); (try clear hk); (try clear hi)) | ((with_reducible refine gate_callee (f := 34) rfl ?_); refine gl_ (some 13) Tryz.func34 #[.int .i64 a1] ?_; (with_reducible refine (rules_isRule.calls a1 false _ ?side1 A5.out).mono ?_); (case side1 => exact gw_ HG.out); rintro e w' ⟨rfl, ⟨nd, rfl⟩⟩; refine ⟨_, rfl, ?_⟩))
      go_ret2
      exact ⟨_, by first | rfl | (simp [errW_none, errW_some] <;> rfl) | (simp [*, errW_none, errW_some] <;> rfl), by first | exact Kd.R_nil _ _ _ _ _ | exact Kd.N_nil _ _ _ _ _ | exact Kd.V_nil _ _ _ _ _ | exact Kd.Q_nil _ _ _ _ _ | exact Kd.S_nil _ _ _ _ _, bl_⟩
  · rw [if_neg c4] at H
    have c4b0 : (t273 == 0) = false := beq_eq_false_iff_ne.mpr c4
    have c4b1 : (t273 != 0) = true := bne_iff_ne.mpr c4
    simp only [Option.some.injEq, Prod.mk.injEq] at H
    obtain ⟨rfl, rfl⟩ := H
    go_enter Tryz.func19, Tryz.ntmps19
    go_wp2_with (first | ((with_reducible refine gate_callee (f := 37) rfl ?_); refine gl_ (some 8) Tryz.func37 #[.slice A0 l0.length c0] ?_; (with_reducible refine (shape_CheckRegion.calls k _ _ l0 t273 _ ?side1 ?side2 ?side3 A3.out).mono ?_); (case side1 => exact gw_ HG.out); (case side2 => repeat (first | exact HR0.out | (with_reducible refine Kd.C_alloc ?_ _) | (with_reducible refine Kd.C_drewN ?_ _) | (with_reducible refine Kd.C_drew ?_))); (case side3 => exact HC0.out); rintro e w17 ⟨rfl, hb⟩; refine ⟨_, rfl, ?_⟩; replace HB := Aside0.mk (below_step bl_ hb); (try clear hb); (try clear hb2); (try clear hk); (try clear hi)))
    go_ret2
    exact ⟨_, by first | rfl | (simp [errW_none, errW_some] <;> rfl) | (simp [*, errW_none, errW_some] <;> rfl), by first | exact Kd.R_nil _ _ _ _ _ | exact Kd.N_nil _ _ _ _ _ | exact Kd.V_nil _ _ _ _ _ | exact Kd.Q_nil _ _ _ _ _ | exact Kd.S_nil _ _ _ _ _, bl_⟩
def shape_two_with_shape_Set_Less.f (k : Nat) (l0 : List (S44)) (l1 : List (S44))  : Option ((List (S44)) × Int) := (shape_CheckRegion.f k l0).bind fun t285 => (if t285 = 0 then ((shape_CheckRegion.f k l1).bind fun t286 => (if t286 = 0 then ((shape_SetOf.f k l0).bind fun t287 => ((shape_SetOf.f k l1).bind fun t290 => ((shape_Set_Less.f k t287 t290).bind fun t293 => ((shape_Set_Told.f k t293).bind fun bt296 => (some (bt296.1, bt296.2)))))) else (some (([] : List (S44)), t286)))) else (some (([] : List (S44)), t285)))
set_option maxHeartbeats 8000000 in
set_option maxRecDepth 100000 in
theorem shape_two_with_shape_Set_Less.calls (k : Nat) (A0 : Option Addr) (c0 : Nat) (l0 : List (S44)) (A1 : Option Addr) (c1 : Nat) (l1 : List (S44))  (r1 : List (S44)) (r2 : Int) (w : World) (hG : Tryz.GW w) (hr0 : Kd.C k44 w A0 l0.length l0) (hc0 : l0.length ≤ c0) (hr1 : Kd.C k44 w A1 l1.length l1) (hc1 : l1.length ≤ c1) (h : shape_two_with_shape_Set_Less.f k l0 l1 = some (r1, r2)) :
    Calls Tryz.prog 53 #[.slice A0 l0.length c0, .slice A1 l1.length c1, .func (.func 54) #[] #[]] w fun e w' => ∃ v0_ : Value, e = .returned (.tuple #[v0_, .int .i64 r2]) ∧ Kd.R k44 44 w' w.heap.size (fun _ => True) v0_ r1 ∧ Below w.heap.size w w' := by
  have HR0 := Aside0.mk hr0
  have HC0 := Aside0.mk hc0
  clear hr0 hc0
  have HR1 := Aside0.mk hr1
  have HC1 := Aside0.mk hc1
  clear hr1 hc1
  have HG := Aside0.mk hG
  clear hG
  have HB := Aside0.mk (Below.refl w.heap.size w)
  have H : ((shape_CheckRegion.f k l0).bind fun t285 => (if t285 = 0 then ((shape_CheckRegion.f k l1).bind fun t286 => (if t286 = 0 then ((shape_SetOf.f k l0).bind fun t287 => ((shape_SetOf.f k l1).bind fun t290 => ((shape_Set_Less.f k t287 t290).bind fun t293 => ((shape_Set_Told.f k t293).bind fun bt296 => (some (bt296.1, bt296.2)))))) else (some (([] : List (S44)), t286)))) else (some (([] : List (S44)), t285)))) = some (r1, r2) := h
  clear h
  replace H := Option.bind_eq_some_iff.mp H
  obtain ⟨t285, A40, H⟩ := H
  try dsimp only at H
  have A4 := Aside0.mk A40
  clear A40
  by_cases c5 : t285 = 0
  · rw [if_pos c5] at H
    have c5b0 : (t285 == 0) = true := beq_iff_eq.mpr c5
    have c5b1 : (t285 != 0) = false := bne_eq_false_iff_eq.mpr c5
    clear c5
    replace H := Option.bind_eq_some_iff.mp H
    obtain ⟨t286, A60, H⟩ := H
    try dsimp only at H
    have A6 := Aside0.mk A60
    clear A60
    by_cases c7 : t286 = 0
    · rw [if_pos c7] at H
      have c7b0 : (t286 == 0) = true := beq_iff_eq.mpr c7
      have c7b1 : (t286 != 0) = false := bne_eq_false_iff_eq.mpr c7
      clear c7
      replace H := Option.bind_eq_some_iff.mp H
      obtain ⟨t287, A80, H⟩ := H
      try dsimp only at H
      have A8 := Aside0.mk A80
      clear A80
      replace H := Option.bind_eq_some_iff.mp H
      obtain ⟨t290, A90, H⟩ := H
      try dsimp only at H
      have A9 := Aside0.mk A90
      clear A90
      replace H := Option.bind_eq_some_iff.mp H
      obtain ⟨t293, A100, H⟩ := H
      try dsimp only at H
      have A10 := Aside0.mk A100
      clear A100
      replace H := Option.bind_eq_some_iff.mp H
      obtain ⟨⟨t296, t297⟩, A110, H⟩ := H
      try dsimp only at H
      have A11 := Aside0.mk A110
      clear A110
      simp only [Option.some.injEq, Prod.mk.injEq] at H
      obtain ⟨rfl, rfl⟩ := H
      go_enter Tryz.func53, Tryz.ntmps53
      go_wp2_with (first | ((with_reducible refine gate_callee (f := 37) rfl ?_); refine gl_ (some 11) Tryz.func37 #[.slice A0 l0.length c0] ?_; (with_reducible refine (shape_CheckRegion.calls k _ _ l0 t285 _ ?side1 ?side2 ?side3 A4.out).mono ?_); (case side1 => exact gw_ HG.out); (case side2 => repeat (first | exact HR0.out | (with_reducible refine Kd.C_alloc ?_ _) | (with_reducible refine Kd.C_drewN ?_ _) | (with_reducible refine Kd.C_drew ?_))); (case side3 => exact HC0.out); rintro e w12 ⟨rfl, hb⟩; refine ⟨_, rfl, ?_⟩; replace HB := Aside0.mk (below_step bl_ hb); (try clear hb); (try clear hb2); (try clear hk); (try clear hi)) | ((with_reducible refine gate_callee (f := 37) rfl ?_); refine gl_ (some 16) Tryz.func37 #[.slice A1 l1.length c1] ?_; (with_reducible refine (shape_CheckRegion.calls k _ _ l1 t286 _ ?side1 ?side2 ?side3 A6.out).mono ?_); (case side1 => exact gw_ HG.out); (case side2 => exact cb_ (Kd.C_below HR1.out HB.out)); (case side3 => exact HC1.out); rintro e w13 ⟨rfl, hb⟩; refine ⟨_, rfl, ?_⟩; replace HB := Aside0.mk (below_step bl_ hb); (try clear hb); (try clear hb2); (try clear hk); (try clear hi)) | ((with_reducible refine gate_callee (f := 51) rfl ?_); refine gl_ (some 22) Tryz.func51 #[.slice A0 l0.length c0] ?_; (with_reducible refine (shape_SetOf.calls k _ _ l0 t287 _ ?side1 ?side2 ?side3 A8.out).mono ?_); (case side1 => exact gw_ HG.out); (case side2 => exact cb_ (Kd.C_below HR0.out HB.out)); (case side3 => exact HC0.out); rintro e w14 ⟨v288, rfl, ho0, hb⟩; refine ⟨_, rfl, ?_⟩; have HO289 := Aside0.mk (Kd.S_lower ho0 (below_size bl_)); replace HB := Aside0.mk (below_step bl_ hb); (try clear hb); (try clear hb2); (try clear hk); (try clear hi); (try clear ho0)) | ((with_reducible refine gate_callee (f := 51) rfl ?_); refine gl_ (some 24) Tryz.func51 #[.slice A1 l1.length c1] ?_; (with_reducible refine (shape_SetOf.calls k _ _ l1 t290 _ ?side1 ?side2 ?side3 A9.out).mono ?_); (case side1 => exact gw_ HG.out); (case side2 => exact cb_ (Kd.C_below HR1.out HB.out)); (case side3 => exact HC1.out); rintro e w15 ⟨v291, rfl, ho0, hb⟩; refine ⟨_, rfl, ?_⟩; have HO292 := Aside0.mk (Kd.S_lower (Kd.S_new' ho0 (Kd.S_lt (ss_ HO289))) (below_size bl_)); replace HO289 := Aside0.mk (Kd.S_elder' (ss_ HO289) (Kd.S_base ho0) hb); replace HB := Aside0.mk (below_step bl_ hb); (try clear hb); (try clear hb2); (try clear hk); (try clear hi); (try clear ho0); obtain ⟨Ao16, co16, eo16⟩ := Kd.S_slice HO289.out; subst eo16; obtain ⟨Ao17, co17, eo17⟩ := Kd.S_slice HO292.out; subst eo17) | ((with_reducible refine gate_calleeT rfl ?_); refine goesV_ (f := 54) (some 25) rfl rfl Tryz.func54 (by kernel_rfl) rfl #[.slice Ao16 t287.length co16, .slice Ao17 t290.length co17] rfl (by (try simp only [List.map_toArray, List.map_cons, List.map_nil]); first | done | rfl | (simp only [List.length_drop, List.length_take]; rfl)) ?_; (with_reducible refine (shape_Set_Less.calls k _ _ t287 _ _ t290 t293 _ ?side1 ?side2 ?side3 ?side4 ?side5 A10.out).mono ?_); (case side1 => exact gw_ HG.out); (case side2 => exact cb_ (Kd.S_reads' HO289.out).2.2); (case side3 => exact (Kd.S_reads' HO289.out).2.1); (case side4 => exact cb_ (Kd.S_reads' HO292.out).2.2); (case side5 => exact (Kd.S_reads' HO292.out).2.1); rintro e w18 ⟨v294, rfl, ho0, hb⟩; refine ⟨_, rfl, ?_⟩; have HO295 := Aside0.mk (Kd.S_lower (Kd.S_new' (Kd.S_new' ho0 (Kd.S_lt (ss_ HO289))) (Kd.S_lt (ss_ HO292))) (below_size bl_)); replace HO289 := Aside0.mk (Kd.S_elder' (ss_ HO289) (Kd.S_base ho0) hb); replace HO292 := Aside0.mk (Kd.S_elder' (ss_ HO292) (Kd.S_base ho0) hb); replace HB := Aside0.mk (below_step bl_ hb); (try clear hb); (try clear hb2); (try clear hk); (try clear hi); (try clear ho0); obtain ⟨Ao19, co19, eo19⟩ := Kd.S_slice HO295.out; subst eo19) | ((with_reducible refine gate_callee (f := 52) rfl ?_); refine gl_ (some 26) Tryz.func52 #[.slice Ao19 t293.length co19] ?_; (with_reducible refine (shape_Set_Told.calls k _ _ t293 t296 t297 _ ?side1 ?side2 ?side3 A11.out).mono ?_); (case side1 => exact gw_ HG.out); (case side2 => exact cb_ (Kd.S_reads' HO295.out).2.2); (case side3 => exact (Kd.S_reads' HO295.out).2.1); rintro e w20 ⟨v298, rfl, ho0, hb⟩; refine ⟨_, rfl, ?_⟩; have HO299 := Aside0.mk (Kd.R_lower ho0 (below_size bl_)); replace HO289 := Aside0.mk (Kd.S_below (ss_ HO289) hb); replace HO292 := Aside0.mk (Kd.S_below (ss_ HO292) hb); replace HO295 := Aside0.mk (Kd.S_below (ss_ HO295) hb); replace HB := Aside0.mk (below_step bl_ hb); (try clear hb); (try clear hb2); (try clear hk); (try clear hi); (try clear ho0)))
      go_ret2
      exact ⟨_, by first | rfl | (simp [errW_none, errW_some] <;> rfl) | (simp [*, errW_none, errW_some] <;> rfl), rr_ HO299, bl_⟩
    · rw [if_neg c7] at H
      have c7b0 : (t286 == 0) = false := beq_eq_false_iff_ne.mpr c7
      have c7b1 : (t286 != 0) = true := bne_iff_ne.mpr c7
      simp only [Option.some.injEq, Prod.mk.injEq] at H
      obtain ⟨rfl, rfl⟩ := H
      go_enter Tryz.func53, Tryz.ntmps53
      go_wp2_with (first | ((with_reducible refine gate_callee (f := 37) rfl ?_); refine gl_ (some 11) Tryz.func37 #[.slice A0 l0.length c0] ?_; (with_reducible refine (shape_CheckRegion.calls k _ _ l0 t285 _ ?side1 ?side2 ?side3 A4.out).mono ?_); (case side1 => exact gw_ HG.out); (case side2 => repeat (first | exact HR0.out | (with_reducible refine Kd.C_alloc ?_ _) | (with_reducible refine Kd.C_drewN ?_ _) | (with_reducible refine Kd.C_drew ?_))); (case side3 => exact HC0.out); rintro e w21 ⟨rfl, hb⟩; refine ⟨_, rfl, ?_⟩; replace HB := Aside0.mk (below_step bl_ hb); (try clear hb); (try clear hb2); (try clear hk); (try clear hi)) | ((with_reducible refine gate_callee (f := 37) rfl ?_); refine gl_ (some 16) Tryz.func37 #[.slice A1 l1.length c1] ?_; (with_reducible refine (shape_CheckRegion.calls k _ _ l1 t286 _ ?side1 ?side2 ?side3 A6.out).mono ?_); (case side1 => exact gw_ HG.out); (case side2 => exact cb_ (Kd.C_below HR1.out HB.out)); (case side3 => exact HC1.out); rintro e w22 ⟨rfl, hb⟩; refine ⟨_, rfl, ?_⟩; replace HB := Aside0.mk (below_step bl_ hb); (try clear hb); (try clear hb2); (try clear hk); (try clear hi)))
      go_ret2
      exact ⟨_, by first | rfl | (simp [errW_none, errW_some] <;> rfl) | (simp [*, errW_none, errW_some] <;> rfl), by first | exact Kd.R_nil _ _ _ _ _ | exact Kd.N_nil _ _ _ _ _ | exact Kd.V_nil _ _ _ _ _ | exact Kd.Q_nil _ _ _ _ _ | exact Kd.S_nil _ _ _ _ _, bl_⟩
  · rw [if_neg c5] at H
    have c5b0 : (t285 == 0) = false := beq_eq_false_iff_ne.mpr c5
    have c5b1 : (t285 != 0) = true := bne_iff_ne.mpr c5
    simp only [Option.some.injEq, Prod.mk.injEq] at H
    obtain ⟨rfl, rfl⟩ := H
    go_enter Tryz.func53, Tryz.ntmps53
    go_wp2_with (first | ((with_reducible refine gate_callee (f := 37) rfl ?_); refine gl_ (some 11) Tryz.func37 #[.slice A0 l0.length c0] ?_; (with_reducible refine (shape_CheckRegion.calls k _ _ l0 t285 _ ?side1 ?side2 ?side3 A4.out).mono ?_); (case side1 => exact gw_ HG.out); (case side2 => repeat (first | exact HR0.out | (with_reducible refine Kd.C_alloc ?_ _) | (with_reducible refine Kd.C_drewN ?_ _) | (with_reducible refine Kd.C_drew ?_))); (case side3 => exact HC0.out); rintro e w23 ⟨rfl, hb⟩; refine ⟨_, rfl, ?_⟩; replace HB := Aside0.mk (below_step bl_ hb); (try clear hb); (try clear hb2); (try clear hk); (try clear hi)))
    go_ret2
    exact ⟨_, by first | rfl | (simp [errW_none, errW_some] <;> rfl) | (simp [*, errW_none, errW_some] <;> rfl), by first | exact Kd.R_nil _ _ _ _ _ | exact Kd.N_nil _ _ _ _ _ | exact Kd.V_nil _ _ _ _ _ | exact Kd.Q_nil _ _ _ _ _ | exact Kd.S_nil _ _ _ _ _, bl_⟩
def shape_Minus.f (k : Nat) (l0 : List (S44)) (l1 : List (S44)) : Option ((List (S44)) × Int) := (shape_two_with_shape_Set_Less.f k l0 l1).bind fun bt300 => (some (bt300.1, bt300.2))
set_option maxHeartbeats 8000000 in
set_option maxRecDepth 100000 in
theorem shape_Minus.calls (k : Nat) (A0 : Option Addr) (c0 : Nat) (l0 : List (S44)) (A1 : Option Addr) (c1 : Nat) (l1 : List (S44)) (r1 : List (S44)) (r2 : Int) (w : World) (hG : Tryz.GW w) (hr0 : Kd.C k44 w A0 l0.length l0) (hc0 : l0.length ≤ c0) (hr1 : Kd.C k44 w A1 l1.length l1) (hc1 : l1.length ≤ c1) (h : shape_Minus.f k l0 l1 = some (r1, r2)) :
    Calls Tryz.prog 20 #[.slice A0 l0.length c0, .slice A1 l1.length c1] w fun e w' => ∃ v0_ : Value, e = .returned (.tuple #[v0_, .int .i64 r2]) ∧ Kd.R k44 44 w' w.heap.size (fun _ => True) v0_ r1 ∧ Below w.heap.size w w' := by
  have HR0 := Aside0.mk hr0
  have HC0 := Aside0.mk hc0
  clear hr0 hc0
  have HR1 := Aside0.mk hr1
  have HC1 := Aside0.mk hc1
  clear hr1 hc1
  have HG := Aside0.mk hG
  clear hG
  have HB := Aside0.mk (Below.refl w.heap.size w)
  have H : ((shape_two_with_shape_Set_Less.f k l0 l1).bind fun bt300 => (some (bt300.1, bt300.2))) = some (r1, r2) := h
  clear h
  replace H := Option.bind_eq_some_iff.mp H
  obtain ⟨⟨t300, t301⟩, A30, H⟩ := H
  try dsimp only at H
  have A3 := Aside0.mk A30
  clear A30
  simp only [Option.some.injEq, Prod.mk.injEq] at H
  obtain ⟨rfl, rfl⟩ := H
  go_enter Tryz.func20, Tryz.ntmps20
  go_wp2_with (first | ((with_reducible refine gate_callee (f := 53) rfl ?_); refine gl_ (some 8) Tryz.func53 #[.slice A0 l0.length c0, .slice A1 l1.length c1, .func (.func 54) #[] #[]] ?_; (with_reducible refine (shape_two_with_shape_Set_Less.calls k _ _ l0 _ _ l1  t300 t301 _ ?side1 ?side2 ?side3 ?side4 ?side5 A3.out).mono ?_); (case side1 => exact gw_ HG.out); (case side2 => repeat (first | exact HR0.out | (with_reducible refine Kd.C_alloc ?_ _) | (with_reducible refine Kd.C_drewN ?_ _) | (with_reducible refine Kd.C_drew ?_))); (case side3 => exact HC0.out); (case side4 => repeat (first | exact HR1.out | (with_reducible refine Kd.C_alloc ?_ _) | (with_reducible refine Kd.C_drewN ?_ _) | (with_reducible refine Kd.C_drew ?_))); (case side5 => exact HC1.out); rintro e w4 ⟨v302, rfl, ho0, hb⟩; refine ⟨_, rfl, ?_⟩; have HO303 := Aside0.mk (Kd.R_lower ho0 (below_size bl_)); replace HB := Aside0.mk (below_step bl_ hb); (try clear hb); (try clear hb2); (try clear hk); (try clear hi); (try clear ho0)))
  go_ret2
  exact ⟨_, by first | rfl | (simp [errW_none, errW_some] <;> rfl) | (simp [*, errW_none, errW_some] <;> rfl), rr_ HO303, bl_⟩
end Go.Proofs.YthkeonbmgcphkaaGreatDoor.PT
