import Derived.Test.YthkeonbmgcphkaaGreatDoorHg6
import Derived.Test.YthkeonbmgcphkaaGreatDoorHg8
import Derived.Test.YthkeonbmgcphkaaGreatDoorHg9
import Derived.Test.YthkeonbmgcphkaaGreatDoorHg14
namespace Go.Proofs.YthkeonbmgcphkaaGreatDoor.PM
open Go.RowKit Go.Proofs.YthkeonbmgcphkaaGreatDoorW.PrintWords Go.Proofs.YthkeonbmgcphkaaGreatDoorW.PrintLast Go.Proofs.YthkeonbmgcphkaaGreatDoorW.PrintMore
attribute [local go_sem] max2_int min2_int max_two min_two max_three min_three max_four min_four
set_option linter.unusedVariables false
set_option maxHeartbeats 8000000
set_option maxRecDepth 100000
set_option linter.unusedSimpArgs false
def aW.l0 : Nat → List Int → Int → Int → Option (Int)
 | 0, _, _, _ => none
 | k + 1, x0, x7, x8 => if x8 < x7 then (if 0 ≤ x8 then (if x8 < (x0.length : Int) then ((eF.f (rd x0 x8)).bind fun t176 => (if t176 = true then (some x8) else (aW.l0 k x0 x7 (wrap64 (x8 + 1))))) else (none)) else (none)) else (some (-1))
def aW.f (k : Nat) (l0 : List Int)  : Option (Int) := aW.l0 k l0 (l0.length : Int) 0
theorem aW.calls (k : Nat) (A0 : Option Addr) (c0 : Nat) (l0 : List Int)  (r : Int) (w : World) (hG : Tryz.GW w) (hr0 : Kd.C (Kd.int .i64) w A0 l0.length l0) (hc0 : l0.length ≤ c0) (h : aW.f k l0 = some r) :
 Calls Tryz.prog 64 #[.slice A0 l0.length c0, .func (.func 33) #[] #[]] w fun e w' => e = .returned (.int .i64 r) ∧ Drawn0 w w' := by
 have HR0 := am_ hr0
 have HC0 := am_ hc0
 clear hr0 hc0
 have HG := am_ hG
 clear hG
 have H : (aW.l0 k l0 (l0.length : Int) 0) = some r := h
 clear h
 replace H := am_ H
 go_enter Tryz.func64, Tryz.ntmps64
 go_wp2
 go_loopg [8] k (fun kq v8 w' => ∃ (x8_1 : Int), v8 = .int .i64 x8_1 ∧ Aside0 (aW.l0 kq l0 (l0.length : Int) x8_1 = some r) ∧ Aside0 (kq ≤ k) ∧ Drawn0 w w')
 case atStart => exact ⟨(0), ra_, H, ⟨Nat.le_refl _⟩, dr_⟩
 case round =>
  clear H
  try clear c1
  try clear p2
  obtain ⟨x8_1, rfl, HA, HK1, ⟨m1, rfl⟩⟩ := hrel
  cases gk with
  | zero => exact absurd HA.out (by simp [aW.l0])
  | succ k1 =>
   have H := HA.out
   clear HA
   simp only [aW.l0] at H
   by_cases c3 : x8_1 < (l0.length : Int)
   rotate_left
   · rw [if_neg c3] at H
     have c3b0 := decide_eq_false c3
     clear c3
     obtain rfl := sj_ H
     go_wp2
     go_ret
     exact ⟨ra_, dr_⟩
   rw [if_pos c3] at H
   have c3b0 := decide_eq_true c3
   clear c3
   obtain ⟨c4b0, H⟩ := ifd_ H
   obtain ⟨c5b0, H⟩ := ifd_ H
   obtain ⟨t176, A6, H⟩ := bs_ H
   by_cases c7 : t176 = true
   · subst c7
     rw [if_pos rfl] at H
     obtain rfl := sj_ H
     have p175 := pt_ x8_1
     have q175 := qt_ x8_1 l0.length
     obtain ⟨ad175, e175, hx175_0⟩ := Kd.at_int HR0.out x8_1 (oe_ p175) (oe_ q175)
     cases e175
     go_wp2_with (first | ((with_reducible refine gK rfl ?_); refine goesV_ (f := 33) (some 16) rfl rfl Tryz.func33 (by kernel_rfl) rfl #[.int .i64 (rd l0 x8_1)] rfl (by (try simp only [List.map_toArray, List.map_cons, List.map_nil]); first | done | rfl | (simp only [List.length_drop, List.length_take]; rfl)) ?_; refine (eF.calls (rd l0 x8_1) true _ gd_ A6.out).mono ?_; rintro e w' ⟨rfl, ⟨nd, rfl⟩⟩; refine ⟨_, rfl, ?_⟩))
     go_ret
     exact ⟨ra_, dr_⟩
   obtain rfl := bf_ c7
   clear c7
   rw [if_neg ft_] at H
   replace H := am_ H
   have p175 := pt_ x8_1
   have q175 := qt_ x8_1 l0.length
   obtain ⟨ad175, e175, hx175_0⟩ := Kd.at_int HR0.out x8_1 (oe_ p175) (oe_ q175)
   cases e175
   go_wp2_with (first | ((with_reducible refine gK rfl ?_); refine goesV_ (f := 33) (some 16) rfl rfl Tryz.func33 (by kernel_rfl) rfl #[.int .i64 (rd l0 x8_1)] rfl (by (try simp only [List.map_toArray, List.map_cons, List.map_nil]); first | done | rfl | (simp only [List.length_drop, List.length_take]; rfl)) ?_; refine (eF.calls (rd l0 x8_1) false _ gd_ A6.out).mono ?_; rintro e w' ⟨rfl, ⟨nd, rfl⟩⟩; refine ⟨_, rfl, ?_⟩))
   go_roundg k1
   case measure => have := HK1.out; omega
   case rel => exact ⟨(wrap64 (x8_1 + 1)), ra_, H, ⟨by have := HK1.out; omega⟩, dr_⟩
def bF.f (k : Nat) (l0 : List Int)  : Option (Bool) := (aW.f k l0).bind fun t177 => (some (decide (t177 ≥ 0)))
theorem bF.calls (k : Nat) (A0 : Option Addr) (c0 : Nat) (l0 : List Int)  (r : Bool) (w : World) (hG : Tryz.GW w) (hr0 : Kd.C (Kd.int .i64) w A0 l0.length l0) (hc0 : l0.length ≤ c0) (h : bF.f k l0 = some r) :
 Calls Tryz.prog 32 #[.slice A0 l0.length c0, .func (.func 33) #[] #[]] w fun e w' => e = .returned (.bool r) ∧ Drawn0 w w' := by
 have HR0 := am_ hr0
 have HC0 := am_ hc0
 clear hr0 hc0
 have HG := am_ hG
 clear hG
 have H : ((aW.f k l0).bind fun t177 => (some (decide (t177 ≥ 0)))) = some r := h
 clear h
 obtain ⟨t177, A3, H⟩ := bs_ H
 obtain rfl := sj_ H
 go_enter Tryz.func32, Tryz.ntmps32
 go_wp2_with (first | ((with_reducible refine gf_ 64 rfl ?_); refine gl_ (some 7) Tryz.func64 #[.slice A0 l0.length c0, .func (.func 33) #[] #[]] ?_; refine (aW.calls k _ _ l0  t177 _ gd_ (by repeat (first | exact HR0.out | (with_reducible refine Kd.C_alloc ?_ _) | (with_reducible refine Kd.C_drewN ?_ _) | (with_reducible refine Kd.C_drew ?_))) HC0.out A3.out).mono ?_; rintro e w' ⟨rfl, ⟨nd, rfl⟩⟩; refine ⟨_, rfl, ?_⟩))
 go_ret
 exact ⟨ra_, dr_⟩
def bZ.l0 : Nat → Int → List (S68) → Int → Int → Option (Int)
 | 0, _, _, _, _ => none
 | k + 1, x4, x31, x32, x33 => if x33 < x32 then (if 0 ≤ x33 then (if x33 < (x31.length : Int) then ((dQ.f ((aV x31 x33).f0) (-1) 15).bind fun t186 => (if t186 = true then ((bH.f k ((aV x31 x33).f1)).bind fun t187 => (if t187 = 0 then ((dN.f ((aV x31 x33).f2)).bind fun t188 => (if t188 = true then (bZ.l0 k (wrap64 (x4 + (((aV x31 x33).f1).length : Int))) x31 x32 (wrap64 (x33 + 1))) else (some 1))) else (some t187))) else (some 1))) else (none)) else (none)) else (if x4 > 2000 then (some 2) else (some 0))
def bZ.f (k : Nat) (a0_0 : Int) (a0_1 : Int) (a0_2 : Int) (a0_3 : Int) (a0_4 : Int) (l0_5 : List (S66)) (l0_6 : List (S68)) : Option (Int) := (bF.f k (([a0_0, a0_1, a0_2, a0_3, a0_4] : List Int))).bind fun t182 => (if t182 = true then (some 1) else ((aG.f k l0_5).bind fun t183 => (if t183 = 0 then (if (l0_6.length : Int) > 50 then (some 2) else (bZ.l0 k 0 l0_6 (l0_6.length : Int) 0)) else (some t183))))
theorem bZ.calls (k : Nat) (a0_0 : Int) (a0_1 : Int) (a0_2 : Int) (a0_3 : Int) (a0_4 : Int) (A0_5 : Option Addr) (c0_5 : Nat) (l0_5 : List (S66)) (A0_6 : Option Addr) (c0_6 : Nat) (l0_6 : List (S68)) (r : Int) (w : World) (hG : Tryz.GW w) (hr0_5 : Kd.C k66 w A0_5 l0_5.length l0_5) (hc0_5 : l0_5.length ≤ c0_5) (hr0_6 : Kd.C k68 w A0_6 l0_6.length l0_6) (hc0_6 : l0_6.length ≤ c0_6) (h : bZ.f k a0_0 a0_1 a0_2 a0_3 a0_4 l0_5 l0_6 = some r) :
 Calls Tryz.prog 12 #[.agg #[.int .i64 a0_0, .int .i64 a0_1, .int .i64 a0_2, .int .i64 a0_3, .int .i64 a0_4, .slice A0_5 l0_5.length c0_5, .slice A0_6 l0_6.length c0_6]] w fun e w' => e = .returned (.int .i64 r) ∧ Below w.heap.size w w' := by
 have hu25 := Tryz.underlying25
 have hu68 := Tryz.underlying68
 have HR0_5 := am_ hr0_5
 have HC0_5 := am_ hc0_5
 clear hr0_5 hc0_5
 have HR0_6 := am_ hr0_6
 have HC0_6 := am_ hc0_6
 clear hr0_6 hc0_6
 have HG := am_ hG
 clear hG
 have HB := am_ (Below.refl w.heap.size w)
 have H : ((bF.f k (([a0_0, a0_1, a0_2, a0_3, a0_4] : List Int))).bind fun t182 => (if t182 = true then (some 1) else ((aG.f k l0_5).bind fun t183 => (if t183 = 0 then (if (l0_6.length : Int) > 50 then (some 2) else (bZ.l0 k 0 l0_6 (l0_6.length : Int) 0)) else (some t183))))) = some r := h
 clear h
 obtain ⟨y179, hy179⟩ : ∃ y_ : List Int, y_ = (([a0_0, a0_1, a0_2, a0_3, a0_4] : List Int)) := ⟨_, rfl⟩
 replace H : ((bF.f k y179).bind fun t182 => (if t182 = true then (some 1) else ((aG.f k l0_5).bind fun t183 => (if t183 = 0 then (if (l0_6.length : Int) > 50 then (some 2) else (bZ.l0 k 0 l0_6 (l0_6.length : Int) 0)) else (some t183))))) = some r := by first | (rw [hy179]; with_reducible exact H) | (have H2_ := (Option.bind_some _ _).symm.trans H; rw [hy179]; with_reducible exact H2_) | (have H2_ := (Option.bind_some _ _).symm.trans H; with_reducible exact H2_) | with_reducible exact H | (rw [hy179]; exact H) | exact H
 have Ny179 := am_ hy179
 clear hy179
 obtain ⟨t182, A2, H⟩ := bs_ H
 by_cases c3 : t182 = true
 · subst c3
   rw [if_pos rfl] at H
   obtain rfl := sj_ H
   go_enter Tryz.func12, Tryz.ntmps12
   go_wp2_with (first | ((with_reducible refine gn_ 1 rfl ?_); refine bq_ (N := 1) (cs := #[.int .i64 a0_0, .int .i64 a0_1, .int .i64 a0_2, .int .i64 a0_3, .int .i64 a0_4, .slice A0_5 l0_5.length c0_5, .slice A0_6 l0_6.length c0_6]) (t := 25) ?_; intro gb178 hg w4 BK178 hb; have GW178 := ga_ w hg; have GE178 := GW178; replace HB := bp_ hb; clear hb hg; have bz5 := bc7_ BK178) | ((with_reducible refine gn_ 18 rfl ?_); refine Kd.R_lit (Kd.int .i64) _ 3 ?hg (N := 18) ?hd (xs := ([a0_0, a0_1, a0_2, a0_3, a0_4] : List Int)) (inner := [.int .i64 a0_0, .int .i64 a0_1, .int .i64 a0_2, .int .i64 a0_3, .int .i64 a0_4]) (ok := fun _ => True) (okp := fun _ => True) ?hr ?hp (fun _ hk => hk) trivial (Below.refl _ _) (Nat.le_refl _) (by simp) ?_; (case hd => rfl); (case hg => rfl); (case hr => first | (go_simp; done) | (go_simp; rfl)); (case hp => exact (Reps.one (show Kd.M (Kd.int .i64) _ _ _ a0_0 [.int .i64 a0_0] from rfl) (Reps.one (show Kd.M (Kd.int .i64) _ _ _ a0_1 [.int .i64 a0_1] from rfl) (Reps.one (show Kd.M (Kd.int .i64) _ _ _ a0_2 [.int .i64 a0_2] from rfl) (Reps.one (show Kd.M (Kd.int .i64) _ _ _ a0_3 [.int .i64 a0_3] from rfl) (Reps.one (show Kd.M (Kd.int .i64) _ _ _ a0_4 [.int .i64 a0_4] from rfl) (Reps.none _ _))))))); intro v180 w6 ho7 hb hg_ hnew_; clear hg_ hnew_; (first | rw [← Ny179.out] at ho7 | (simp only [Int.reduceToNat] at ho7; rw [← Ny179.out] at ho7)); have HO181 := am_ (Kd.R_lower ho7 (below_size bl_)); replace BK178 := bb_ BK178 hb; replace HB := bp_ hb; clear hb ho7; obtain ⟨Ao8, co8, eo8⟩ := Kd.R_slice HO181.out; subst eo8) | ((with_reducible refine gf_ 32 rfl ?_); refine gl_ (some 19) Tryz.func32 #[.slice Ao8 y179.length co8, .func (.func 33) #[] #[]] ?_; refine (bF.calls k _ _ y179  true _ (gw_ HG.out) (cb_ (Kd.R_reads' HO181.out).2.2) ((Kd.R_reads' HO181.out).2.1) A2.out).mono ?_; rintro e w' ⟨rfl, ⟨nd, rfl⟩⟩; refine ⟨_, rfl, ?_⟩))
   go_ret
   exact ⟨er_, bl_⟩
 obtain rfl := bf_ c3
 clear c3
 rw [if_neg ft_] at H
 obtain ⟨t183, A9, H⟩ := bs_ H
 by_cases c10 : t183 = 0
 rotate_left
 · rw [if_neg c10] at H
   have c10b0 : (t183 == 0) = false := beq_eq_false_iff_ne.mpr c10
   have c10b1 : (t183 != 0) = true := bne_iff_ne.mpr c10
   obtain rfl := sj_ H
   go_enter Tryz.func12, Tryz.ntmps12
   go_wp2_with (first | ((with_reducible refine gn_ 1 rfl ?_); refine bq_ (N := 1) (cs := #[.int .i64 a0_0, .int .i64 a0_1, .int .i64 a0_2, .int .i64 a0_3, .int .i64 a0_4, .slice A0_5 l0_5.length c0_5, .slice A0_6 l0_6.length c0_6]) (t := 25) ?_; intro gb178 hg w55 BK178 hb; have GW178 := ga_ w hg; have GE178 := GW178; replace HB := bp_ hb; clear hb hg; have bz56 := bc7_ BK178) | ((with_reducible refine gn_ 18 rfl ?_); refine Kd.R_lit (Kd.int .i64) _ 3 ?hg (N := 18) ?hd (xs := ([a0_0, a0_1, a0_2, a0_3, a0_4] : List Int)) (inner := [.int .i64 a0_0, .int .i64 a0_1, .int .i64 a0_2, .int .i64 a0_3, .int .i64 a0_4]) (ok := fun _ => True) (okp := fun _ => True) ?hr ?hp (fun _ hk => hk) trivial (Below.refl _ _) (Nat.le_refl _) (by simp) ?_; (case hd => rfl); (case hg => rfl); (case hr => first | (go_simp; done) | (go_simp; rfl)); (case hp => exact (Reps.one (show Kd.M (Kd.int .i64) _ _ _ a0_0 [.int .i64 a0_0] from rfl) (Reps.one (show Kd.M (Kd.int .i64) _ _ _ a0_1 [.int .i64 a0_1] from rfl) (Reps.one (show Kd.M (Kd.int .i64) _ _ _ a0_2 [.int .i64 a0_2] from rfl) (Reps.one (show Kd.M (Kd.int .i64) _ _ _ a0_3 [.int .i64 a0_3] from rfl) (Reps.one (show Kd.M (Kd.int .i64) _ _ _ a0_4 [.int .i64 a0_4] from rfl) (Reps.none _ _))))))); intro v180 w57 ho58 hb hg_ hnew_; clear hg_ hnew_; (first | rw [← Ny179.out] at ho58 | (simp only [Int.reduceToNat] at ho58; rw [← Ny179.out] at ho58)); have HO181 := am_ (Kd.R_lower ho58 (below_size bl_)); replace BK178 := bb_ BK178 hb; replace HB := bp_ hb; clear hb ho58; obtain ⟨Ao59, co59, eo59⟩ := Kd.R_slice HO181.out; subst eo59) | ((with_reducible refine gf_ 32 rfl ?_); refine gl_ (some 19) Tryz.func32 #[.slice Ao59 y179.length co59, .func (.func 33) #[] #[]] ?_; refine (bF.calls k _ _ y179  false _ (gw_ HG.out) (cb_ (Kd.R_reads' HO181.out).2.2) ((Kd.R_reads' HO181.out).2.1) A2.out).mono ?_; rintro e w' ⟨rfl, ⟨nd, rfl⟩⟩; refine ⟨_, rfl, ?_⟩; have bz60 := bc7_ BK178) | ((with_reducible refine gf_ 35 rfl ?_); refine gl_ (some 22) Tryz.func35 #[.slice A0_5 l0_5.length c0_5] ?_; refine (aG.calls k _ _ l0_5 t183 _ (gw_ HG.out) (cb_ (Kd.C_below HR0_5.out bl_)) HC0_5.out A9.out).mono ?_; rintro e w61 ⟨rfl, hb⟩; refine ⟨_, rfl, ?_⟩; replace HO181 := am_ (Kd.R_below (rr_ HO181) hb); replace BK178 := bb_ BK178 hb; replace HB := bp_ hb; (try clear hb)))
   go_ret
   exact ⟨er_, bl_⟩
 rw [if_pos c10] at H
 have c10b0 : (t183 == 0) = true := beq_iff_eq.mpr c10
 have c10b1 : (t183 != 0) = false := bne_eq_false_iff_eq.mpr c10
 clear c10
 by_cases c11 : (l0_6.length : Int) > 50
 · rw [if_pos c11] at H
   have c11b0 : decide (50 < (l0_6.length : Int)) = true := decide_eq_true c11
   have c11b1 : decide (50 < l0_6.length) = true := decide_eq_true (by omega)
   clear c11
   obtain rfl := sj_ H
   go_enter Tryz.func12, Tryz.ntmps12
   go_wp2_with (first | ((with_reducible refine gn_ 1 rfl ?_); refine bq_ (N := 1) (cs := #[.int .i64 a0_0, .int .i64 a0_1, .int .i64 a0_2, .int .i64 a0_3, .int .i64 a0_4, .slice A0_5 l0_5.length c0_5, .slice A0_6 l0_6.length c0_6]) (t := 25) ?_; intro gb178 hg w12 BK178 hb; have GW178 := ga_ w hg; have GE178 := GW178; replace HB := bp_ hb; clear hb hg; have bz13 := bc7_ BK178) | ((with_reducible refine gn_ 18 rfl ?_); refine Kd.R_lit (Kd.int .i64) _ 3 ?hg (N := 18) ?hd (xs := ([a0_0, a0_1, a0_2, a0_3, a0_4] : List Int)) (inner := [.int .i64 a0_0, .int .i64 a0_1, .int .i64 a0_2, .int .i64 a0_3, .int .i64 a0_4]) (ok := fun _ => True) (okp := fun _ => True) ?hr ?hp (fun _ hk => hk) trivial (Below.refl _ _) (Nat.le_refl _) (by simp) ?_; (case hd => rfl); (case hg => rfl); (case hr => first | (go_simp; done) | (go_simp; rfl)); (case hp => exact (Reps.one (show Kd.M (Kd.int .i64) _ _ _ a0_0 [.int .i64 a0_0] from rfl) (Reps.one (show Kd.M (Kd.int .i64) _ _ _ a0_1 [.int .i64 a0_1] from rfl) (Reps.one (show Kd.M (Kd.int .i64) _ _ _ a0_2 [.int .i64 a0_2] from rfl) (Reps.one (show Kd.M (Kd.int .i64) _ _ _ a0_3 [.int .i64 a0_3] from rfl) (Reps.one (show Kd.M (Kd.int .i64) _ _ _ a0_4 [.int .i64 a0_4] from rfl) (Reps.none _ _))))))); intro v180 w14 ho15 hb hg_ hnew_; clear hg_ hnew_; (first | rw [← Ny179.out] at ho15 | (simp only [Int.reduceToNat] at ho15; rw [← Ny179.out] at ho15)); have HO181 := am_ (Kd.R_lower ho15 (below_size bl_)); replace BK178 := bb_ BK178 hb; replace HB := bp_ hb; clear hb ho15; obtain ⟨Ao16, co16, eo16⟩ := Kd.R_slice HO181.out; subst eo16) | ((with_reducible refine gf_ 32 rfl ?_); refine gl_ (some 19) Tryz.func32 #[.slice Ao16 y179.length co16, .func (.func 33) #[] #[]] ?_; refine (bF.calls k _ _ y179  false _ (gw_ HG.out) (cb_ (Kd.R_reads' HO181.out).2.2) ((Kd.R_reads' HO181.out).2.1) A2.out).mono ?_; rintro e w' ⟨rfl, ⟨nd, rfl⟩⟩; refine ⟨_, rfl, ?_⟩; have bz17 := bc7_ BK178) | ((with_reducible refine gf_ 35 rfl ?_); refine gl_ (some 22) Tryz.func35 #[.slice A0_5 l0_5.length c0_5] ?_; refine (aG.calls k _ _ l0_5 t183 _ (gw_ HG.out) (cb_ (Kd.C_below HR0_5.out bl_)) HC0_5.out A9.out).mono ?_; rintro e w18 ⟨rfl, hb⟩; refine ⟨_, rfl, ?_⟩; replace HO181 := am_ (Kd.R_below (rr_ HO181) hb); replace BK178 := bb_ BK178 hb; replace HB := bp_ hb; (try clear hb); have bz19 := bc7_ BK178))
   go_ret
   exact ⟨er_, bl_⟩
 rw [if_neg c11] at H
 have c11b0 : decide (50 < (l0_6.length : Int)) = false := decide_eq_false c11
 have c11b1 : decide (50 < l0_6.length) = false := decide_eq_false (by omega)
 clear c11
 replace H := am_ H
 go_enter Tryz.func12, Tryz.ntmps12
 go_wp2_with (first | ((with_reducible refine gn_ 1 rfl ?_); refine bq_ (N := 1) (cs := #[.int .i64 a0_0, .int .i64 a0_1, .int .i64 a0_2, .int .i64 a0_3, .int .i64 a0_4, .slice A0_5 l0_5.length c0_5, .slice A0_6 l0_6.length c0_6]) (t := 25) ?_; intro gb178 hg w20 BK178 hb; have GW178 := ga_ w hg; have GE178 := GW178; replace HB := bp_ hb; clear hb hg; have bz21 := bc7_ BK178) | ((with_reducible refine gn_ 18 rfl ?_); refine Kd.R_lit (Kd.int .i64) _ 3 ?hg (N := 18) ?hd (xs := ([a0_0, a0_1, a0_2, a0_3, a0_4] : List Int)) (inner := [.int .i64 a0_0, .int .i64 a0_1, .int .i64 a0_2, .int .i64 a0_3, .int .i64 a0_4]) (ok := fun _ => True) (okp := fun _ => True) ?hr ?hp (fun _ hk => hk) trivial (Below.refl _ _) (Nat.le_refl _) (by simp) ?_; (case hd => rfl); (case hg => rfl); (case hr => first | (go_simp; done) | (go_simp; rfl)); (case hp => exact (Reps.one (show Kd.M (Kd.int .i64) _ _ _ a0_0 [.int .i64 a0_0] from rfl) (Reps.one (show Kd.M (Kd.int .i64) _ _ _ a0_1 [.int .i64 a0_1] from rfl) (Reps.one (show Kd.M (Kd.int .i64) _ _ _ a0_2 [.int .i64 a0_2] from rfl) (Reps.one (show Kd.M (Kd.int .i64) _ _ _ a0_3 [.int .i64 a0_3] from rfl) (Reps.one (show Kd.M (Kd.int .i64) _ _ _ a0_4 [.int .i64 a0_4] from rfl) (Reps.none _ _))))))); intro v180 w22 ho23 hb hg_ hnew_; clear hg_ hnew_; (first | rw [← Ny179.out] at ho23 | (simp only [Int.reduceToNat] at ho23; rw [← Ny179.out] at ho23)); have HO181 := am_ (Kd.R_lower ho23 (below_size bl_)); replace BK178 := bb_ BK178 hb; replace HB := bp_ hb; clear hb ho23; obtain ⟨Ao24, co24, eo24⟩ := Kd.R_slice HO181.out; subst eo24) | ((with_reducible refine gf_ 32 rfl ?_); refine gl_ (some 19) Tryz.func32 #[.slice Ao24 y179.length co24, .func (.func 33) #[] #[]] ?_; refine (bF.calls k _ _ y179  false _ (gw_ HG.out) (cb_ (Kd.R_reads' HO181.out).2.2) ((Kd.R_reads' HO181.out).2.1) A2.out).mono ?_; rintro e w' ⟨rfl, ⟨nd, rfl⟩⟩; refine ⟨_, rfl, ?_⟩; have bz25 := bc7_ BK178) | ((with_reducible refine gf_ 35 rfl ?_); refine gl_ (some 22) Tryz.func35 #[.slice A0_5 l0_5.length c0_5] ?_; refine (aG.calls k _ _ l0_5 t183 _ (gw_ HG.out) (cb_ (Kd.C_below HR0_5.out bl_)) HC0_5.out A9.out).mono ?_; rintro e w26 ⟨rfl, hb⟩; refine ⟨_, rfl, ?_⟩; replace HO181 := am_ (Kd.R_below (rr_ HO181) hb); replace BK178 := bb_ BK178 hb; replace HB := bp_ hb; (try clear hb); have bz27 := bc7_ BK178))
 go_loopg [4, 33] k (fun kq v4 v33 w' => ∃ (x4_1 : Int) (x33_1 : Int), v4 = .int .i64 x4_1 ∧ v33 = .int .i64 x33_1 ∧ Aside0 (bZ.l0 kq x4_1 l0_6 (l0_6.length : Int) x33_1 = some r) ∧ Aside0 (kq ≤ k) ∧ Aside0 (w'.heap[gb178]? = some (.cells #[.int .i64 a0_0, .int .i64 a0_1, .int .i64 a0_2, .int .i64 a0_3, .int .i64 a0_4, (.slice A0_5 l0_5.length c0_5), (.slice A0_6 l0_6.length c0_6)] 25 (0, 0))) ∧ Aside0 (Below w.heap.size w w'))
 case atStart => exact ⟨(0), (0), ra_, ra_, H, ⟨Nat.le_refl _⟩, ⟨bk_ BK178⟩, ⟨bl_⟩⟩
 case round =>
  clear H
  try clear c1
  try clear p2
  try clear c3
  try clear c10
  try clear c10b0
  try clear c10b1
  try clear c11
  try clear c11b0
  try clear c11b1
  try clear c12
  try clear bz13
  try clear bz17
  try clear bz19
  try clear bz21
  try clear bz25
  try clear bz27
  try clear bz5
  obtain ⟨x4_1, x33_1, rfl, rfl, HA, HK1, BK178, HB⟩ := hrel
  cases gk with
  | zero => exact absurd HA.out (by simp [bZ.l0])
  | succ k1 =>
   have H := HA.out
   clear HA
   simp only [bZ.l0] at H
   by_cases c28 : x33_1 < (l0_6.length : Int)
   rotate_left
   · rw [if_neg c28] at H
     have c28b0 := decide_eq_false c28
     clear c28
     by_cases c54 : x4_1 > 2000
     · rw [if_pos c54] at H
       have c54b0 : decide (2000 < x4_1) = true := decide_eq_true c54
       clear c54
       obtain rfl := sj_ H
       go_wp2
       go_ret
       exact ⟨er_, bl_⟩
     rw [if_neg c54] at H
     have c54b0 : decide (2000 < x4_1) = false := decide_eq_false c54
     clear c54
     obtain rfl := sj_ H
     go_wp2
     go_ret
     exact ⟨er_, bl_⟩
   rw [if_pos c28] at H
   have c28b0 := decide_eq_true c28
   clear c28
   obtain ⟨c29b0, H⟩ := ifd_ H
   obtain ⟨c30b0, H⟩ := ifd_ H
   obtain ⟨t186, A31, H⟩ := bs_ H
   by_cases c32 : t186 = true
   rotate_left
   · obtain rfl := bf_ c32
     clear c32
     rw [if_neg ft_] at H
     obtain rfl := sj_ H
     have p184 := pt_ x33_1
     have q184 := qt_ x33_1 l0_6.length
     obtain ⟨ad184, A184_1, c184_1, e184, hx184_0, hx184_1, hx184_2, hl184_1, hi184_1⟩ := iQ HR0_6.out x33_1 (oe_ p184) (oe_ q184)
     cases e184
     replace hx184_0 := ce_ HB hx184_0
     replace hx184_1 := ce_ HB hx184_1
     replace hx184_2 := ce_ HB hx184_2
     have HR184_1 := am_ hi184_1
     have HC184_1 := am_ hl184_1
     clear hi184_1 hl184_1
     go_wp2_with (first | ((with_reducible refine gn_ 6 rfl ?_); refine bq_ (N := 6) (cs := #[.int .i64 0, .slice none 0 0, .int .i64 0]) (t := 68) ?_; intro gb185 hg w51 BK185 hb; have GW185 := ga_ w hg; have GE185 := GW185; have NB178_185 := am_ ((nl_ hg BK178 : gb178 ≠ gb185)); have NB185_178 := am_ ((ng_ hg BK178 : gb185 ≠ gb178)); replace BK178 := bb_ BK178 hb; replace HB := bp_ hb; clear hb hg; have hnb52 := NB185_178.out; have hnc52 := NB178_185.out; have bz53 := bc3_ BK185) | ((with_reducible refine gf_ 36 rfl ?_); refine gl_ (some 39) Tryz.func36 #[.int .i64 ((aV l0_6 x33_1).f0), .int .i64 (-1), .int .i64 15] ?_; refine (dQ.calls ((aV l0_6 x33_1).f0) (-1) 15 false _ (gw_ HG.out) A31.out).mono ?_; rintro e w' ⟨rfl, ⟨nd, rfl⟩⟩; refine ⟨_, rfl, ?_⟩))
     go_ret
     exact ⟨er_, bl_⟩
   subst c32
   rw [if_pos rfl] at H
   obtain ⟨t187, A33, H⟩ := bs_ H
   by_cases c34 : t187 = 0
   rotate_left
   · rw [if_neg c34] at H
     have c34b0 : (t187 == 0) = false := beq_eq_false_iff_ne.mpr c34
     have c34b1 : (t187 != 0) = true := bne_iff_ne.mpr c34
     obtain rfl := sj_ H
     have p184 := pt_ x33_1
     have q184 := qt_ x33_1 l0_6.length
     obtain ⟨ad184, A184_1, c184_1, e184, hx184_0, hx184_1, hx184_2, hl184_1, hi184_1⟩ := iQ HR0_6.out x33_1 (oe_ p184) (oe_ q184)
     cases e184
     replace hx184_0 := ce_ HB hx184_0
     replace hx184_1 := ce_ HB hx184_1
     replace hx184_2 := ce_ HB hx184_2
     have HR184_1 := am_ hi184_1
     have HC184_1 := am_ hl184_1
     clear hi184_1 hl184_1
     go_wp2_with (first | ((with_reducible refine gn_ 6 rfl ?_); refine bq_ (N := 6) (cs := #[.int .i64 0, .slice none 0 0, .int .i64 0]) (t := 68) ?_; intro gb185 hg w47 BK185 hb; have GW185 := ga_ w hg; have GE185 := GW185; have NB178_185 := am_ ((nl_ hg BK178 : gb178 ≠ gb185)); have NB185_178 := am_ ((ng_ hg BK178 : gb185 ≠ gb178)); replace BK178 := bb_ BK178 hb; replace HB := bp_ hb; clear hb hg; have hnb48 := NB185_178.out; have hnc48 := NB178_185.out; have bz49 := bc3_ BK185) | ((with_reducible refine gf_ 36 rfl ?_); refine gl_ (some 39) Tryz.func36 #[.int .i64 ((aV l0_6 x33_1).f0), .int .i64 (-1), .int .i64 15] ?_; refine (dQ.calls ((aV l0_6 x33_1).f0) (-1) 15 true _ (gw_ HG.out) A31.out).mono ?_; rintro e w' ⟨rfl, ⟨nd, rfl⟩⟩; refine ⟨_, rfl, ?_⟩) | ((with_reducible refine gf_ 37 rfl ?_); refine gl_ (some 43) Tryz.func37 #[.slice A184_1 ((aV l0_6 x33_1).f1).length c184_1] ?_; refine (bH.calls k1 _ _ ((aV l0_6 x33_1).f1) t187 _ (gw_ HG.out) (Kd.C_below HR184_1.out bl_) HC184_1.out A33.out).mono ?_; rintro e w50 ⟨rfl, hb⟩; refine ⟨_, rfl, ?_⟩; replace BK178 := am_ (blk_below (g := gb178) (o := .cells #[.int .i64 a0_0, .int .i64 a0_1, .int .i64 a0_2, .int .i64 a0_3, .int .i64 a0_4, .slice A0_5 l0_5.length c0_5, .slice (some ad184) l0_6.length c0_6] 25 (0, 0)) (bw_ BK178) hb); replace BK185 := am_ (blk_below (g := gb185) (o := .cells #[.int .i64 ((aV l0_6 x33_1).f0), .slice A184_1 ((aV l0_6 x33_1).f1).length c184_1, .int .i64 ((aV l0_6 x33_1).f2)] 68 (0, 0)) (bw_ BK185) hb); replace HB := bp_ hb; (try clear hb)))
     go_ret
     exact ⟨er_, bl_⟩
   rw [if_pos c34] at H
   have c34b0 : (t187 == 0) = true := beq_iff_eq.mpr c34
   have c34b1 : (t187 != 0) = false := bne_eq_false_iff_eq.mpr c34
   clear c34
   obtain ⟨t188, A35, H⟩ := bs_ H
   by_cases c36 : t188 = true
   · subst c36
     rw [if_pos rfl] at H
     replace H := am_ H
     have p184 := pt_ x33_1
     have q184 := qt_ x33_1 l0_6.length
     obtain ⟨ad184, A184_1, c184_1, e184, hx184_0, hx184_1, hx184_2, hl184_1, hi184_1⟩ := iQ HR0_6.out x33_1 (oe_ p184) (oe_ q184)
     cases e184
     replace hx184_0 := ce_ HB hx184_0
     replace hx184_1 := ce_ HB hx184_1
     replace hx184_2 := ce_ HB hx184_2
     have HR184_1 := am_ hi184_1
     have HC184_1 := am_ hl184_1
     clear hi184_1 hl184_1
     go_wp2_with (first | ((with_reducible refine gn_ 6 rfl ?_); refine bq_ (N := 6) (cs := #[.int .i64 0, .slice none 0 0, .int .i64 0]) (t := 68) ?_; intro gb185 hg w37 BK185 hb; have GW185 := ga_ w hg; have GE185 := GW185; have NB178_185 := am_ ((nl_ hg BK178 : gb178 ≠ gb185)); have NB185_178 := am_ ((ng_ hg BK178 : gb185 ≠ gb178)); replace BK178 := bb_ BK178 hb; replace HB := bp_ hb; clear hb hg; have hnb38 := NB185_178.out; have hnc38 := NB178_185.out; have bz39 := bc3_ BK185) | ((with_reducible refine gf_ 36 rfl ?_); refine gl_ (some 39) Tryz.func36 #[.int .i64 ((aV l0_6 x33_1).f0), .int .i64 (-1), .int .i64 15] ?_; refine (dQ.calls ((aV l0_6 x33_1).f0) (-1) 15 true _ (gw_ HG.out) A31.out).mono ?_; rintro e w' ⟨rfl, ⟨nd, rfl⟩⟩; refine ⟨_, rfl, ?_⟩) | ((with_reducible refine gf_ 37 rfl ?_); refine gl_ (some 43) Tryz.func37 #[.slice A184_1 ((aV l0_6 x33_1).f1).length c184_1] ?_; refine (bH.calls k1 _ _ ((aV l0_6 x33_1).f1) t187 _ (gw_ HG.out) (Kd.C_below HR184_1.out bl_) HC184_1.out A33.out).mono ?_; rintro e w40 ⟨rfl, hb⟩; refine ⟨_, rfl, ?_⟩; replace BK178 := am_ (blk_below (g := gb178) (o := .cells #[.int .i64 a0_0, .int .i64 a0_1, .int .i64 a0_2, .int .i64 a0_3, .int .i64 a0_4, .slice A0_5 l0_5.length c0_5, .slice (some ad184) l0_6.length c0_6] 25 (0, 0)) (bw_ BK178) hb); replace BK185 := am_ (blk_below (g := gb185) (o := .cells #[.int .i64 ((aV l0_6 x33_1).f0), .slice A184_1 ((aV l0_6 x33_1).f1).length c184_1, .int .i64 ((aV l0_6 x33_1).f2)] 68 (0, 0)) (bw_ BK185) hb); replace HB := bp_ hb; (try clear hb); have bz41 := bc3_ BK185) | ((with_reducible refine gf_ 34 rfl ?_); refine gl_ (some 49) Tryz.func34 #[.int .i64 ((aV l0_6 x33_1).f2)] ?_; refine (dN.calls ((aV l0_6 x33_1).f2) true _ (gw_ HG.out) A35.out).mono ?_; rintro e w' ⟨rfl, ⟨nd, rfl⟩⟩; refine ⟨_, rfl, ?_⟩))
     go_roundg k1
     case measure => have := HK1.out; omega
     case rel => exact ⟨(wrap64 (x4_1 + (((aV l0_6 x33_1).f1).length : Int))), (wrap64 (x33_1 + 1)), ra_, ra_, H, ⟨by have := HK1.out; omega⟩, ⟨bk_ BK178⟩, ⟨bl_⟩⟩
   obtain rfl := bf_ c36
   clear c36
   rw [if_neg ft_] at H
   obtain rfl := sj_ H
   have p184 := pt_ x33_1
   have q184 := qt_ x33_1 l0_6.length
   obtain ⟨ad184, A184_1, c184_1, e184, hx184_0, hx184_1, hx184_2, hl184_1, hi184_1⟩ := iQ HR0_6.out x33_1 (oe_ p184) (oe_ q184)
   cases e184
   replace hx184_0 := ce_ HB hx184_0
   replace hx184_1 := ce_ HB hx184_1
   replace hx184_2 := ce_ HB hx184_2
   have HR184_1 := am_ hi184_1
   have HC184_1 := am_ hl184_1
   clear hi184_1 hl184_1
   go_wp2_with (first | ((with_reducible refine gn_ 6 rfl ?_); refine bq_ (N := 6) (cs := #[.int .i64 0, .slice none 0 0, .int .i64 0]) (t := 68) ?_; intro gb185 hg w42 BK185 hb; have GW185 := ga_ w hg; have GE185 := GW185; have NB178_185 := am_ ((nl_ hg BK178 : gb178 ≠ gb185)); have NB185_178 := am_ ((ng_ hg BK178 : gb185 ≠ gb178)); replace BK178 := bb_ BK178 hb; replace HB := bp_ hb; clear hb hg; have hnb43 := NB185_178.out; have hnc43 := NB178_185.out; have bz44 := bc3_ BK185) | ((with_reducible refine gf_ 36 rfl ?_); refine gl_ (some 39) Tryz.func36 #[.int .i64 ((aV l0_6 x33_1).f0), .int .i64 (-1), .int .i64 15] ?_; refine (dQ.calls ((aV l0_6 x33_1).f0) (-1) 15 true _ (gw_ HG.out) A31.out).mono ?_; rintro e w' ⟨rfl, ⟨nd, rfl⟩⟩; refine ⟨_, rfl, ?_⟩) | ((with_reducible refine gf_ 37 rfl ?_); refine gl_ (some 43) Tryz.func37 #[.slice A184_1 ((aV l0_6 x33_1).f1).length c184_1] ?_; refine (bH.calls k1 _ _ ((aV l0_6 x33_1).f1) t187 _ (gw_ HG.out) (Kd.C_below HR184_1.out bl_) HC184_1.out A33.out).mono ?_; rintro e w45 ⟨rfl, hb⟩; refine ⟨_, rfl, ?_⟩; replace BK178 := am_ (blk_below (g := gb178) (o := .cells #[.int .i64 a0_0, .int .i64 a0_1, .int .i64 a0_2, .int .i64 a0_3, .int .i64 a0_4, .slice A0_5 l0_5.length c0_5, .slice (some ad184) l0_6.length c0_6] 25 (0, 0)) (bw_ BK178) hb); replace BK185 := am_ (blk_below (g := gb185) (o := .cells #[.int .i64 ((aV l0_6 x33_1).f0), .slice A184_1 ((aV l0_6 x33_1).f1).length c184_1, .int .i64 ((aV l0_6 x33_1).f2)] 68 (0, 0)) (bw_ BK185) hb); replace HB := bp_ hb; (try clear hb); have bz46 := bc3_ BK185) | ((with_reducible refine gf_ 34 rfl ?_); refine gl_ (some 49) Tryz.func34 #[.int .i64 ((aV l0_6 x33_1).f2)] ?_; refine (dN.calls ((aV l0_6 x33_1).f2) false _ (gw_ HG.out) A35.out).mono ?_; rintro e w' ⟨rfl, ⟨nd, rfl⟩⟩; refine ⟨_, rfl, ?_⟩))
   go_ret
   exact ⟨er_, bl_⟩
def strconv_Itoa.f (a0 : Int) : Option (ByteArray) := if -9223372036854775808 ≤ a0 then (if a0 ≤ 9223372036854775807 then some ⟨(Lib.itoa a0).toArray⟩ else none) else none
theorem strconv_Itoa.calls (a0 : Int) (r : ByteArray) (w : World) (hG : Tryz.GW w) (h : strconv_Itoa.f a0 = some r) :
 Calls Tryz.prog 28 #[.int .i64 a0] w fun e w' => e = .returned (.string r) ∧ Below w.heap.size w w' := by
 unfold strconv_Itoa.f at h
 by_cases h0 : -9223372036854775808 ≤ a0
 · by_cases h1 : a0 ≤ 9223372036854775807
   · rw [if_pos h0, if_pos h1] at h
     obtain rfl := Option.some.inj h
     refine (Tryz.strconv_Itoa a0 h0 h1 w hG.pow10).mono fun e w' ⟨he, k, os, hw⟩ => ⟨he, ?_⟩
     rw [hw]
     exact YthkeonbmgcphkaaGreatDoorMem.below_grow (YthkeonbmgcphkaaGreatDoorMem.below_drewN (Below.refl _ _) k) (Nat.le_refl _) os
   rw [if_pos h0, if_neg h1] at h; cases h
 rw [if_neg h0] at h; cases h
end Go.Proofs.YthkeonbmgcphkaaGreatDoor.PM
