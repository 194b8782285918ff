import Derived.Test.YthkeonbmgcphkaaGreatDoorHg6
import Derived.Test.YthkeonbmgcphkaaGreatDoorHg21
import Derived.Test.YthkeonbmgcphkaaGreatDoorHg25
import Derived.Test.YthkeonbmgcphkaaGreatDoorHg20
namespace Go.Proofs.YthkeonbmgcphkaaGreatDoor.PM
open Go.RowKit Go.Proofs.YthkeonbmgcphkaaGreatDoorW.PrintWords Go.Proofs.YthkeonbmgcphkaaGreatDoorW.PrintLast Go.Proofs.YthkeonbmgcphkaaGreatDoorW.PrintMore
attribute [local go_sem] max2_int min2_int max_two min_two max_three min_three max_four min_four
set_option linter.unusedVariables false
set_option maxHeartbeats 8000000
set_option maxRecDepth 100000
set_option linter.unusedSimpArgs false
def bC.l0 : Nat → List (S44) → Int → Option (Int)
 | 0, _, _ => none
 | k + 1, x0, x4 => if x4 < (x0.length : Int) then (if 0 ≤ (wrap64 (x4 - 1)) then (if (wrap64 (x4 - 1)) < (x0.length : Int) then (if 0 ≤ x4 then ((dU.f ((aI x0 (wrap64 (x4 - 1))).f0) ((aI x0 (wrap64 (x4 - 1))).f1) ((aI x0 (wrap64 (x4 - 1))).f2) ((aI x0 (wrap64 (x4 - 1))).f3) ((aI x0 x4).f0) ((aI x0 x4).f1) ((aI x0 x4).f2) ((aI x0 x4).f3)).bind fun t316 => (if t316 = true then (bC.l0 k x0 (wrap64 (x4 + 1))) else (some 8))) else (none)) else (none)) else (none)) else ((bQ.f k x0).bind fun t317 => ((dA.f k x0 t317).bind fun t320 => (if t320 = true then (some 0) else (some 3))))
def bC.f (k : Nat) (l0 : List (S44)) : Option (Int) := (bD.f k l0).bind fun t313 => (if t313 = 0 then (bC.l0 k l0 1) else (some t313))
def bC.T7 : Bool × List (List Nat × List Nat) := (true, [([], []), ([], []), ([1], [1]), ([0, 2], [0, 2]), ([3], [3]), ([], []), ([], []), ([5, 6], [5, 6]), ([7], [7]), ([4, 8], [4, 8]), ([9], [9])])
def bC.B7 : List Nat := [0, 0, 2, 7, 15, 0, 0, 96, 224, 511, 1023]
theorem bC.tab7 : rtab .any (opsOf Tryz.f41 7) = bC.T7 := by kernel_rfl
theorem bC.jU : waitsOk bC.T7.2 bC.B7 = true := by kernel_rfl
theorem bC.calls (k : Nat) (A0 : Option Addr) (c0 : Nat) (l0 : List (S44)) (r : Int) (w : World) (hG : Tryz.GW w) (hr0 : Kd.C k44 w A0 l0.length l0) (hc0 : l0.length ≤ c0) (h : bC.f k l0 = some r) :
 Calls Tryz.prog 41 #[.slice A0 l0.length c0] w fun e w' => e = .returned (.int .i64 r) ∧ Below w.heap.size w w' := by
 have hu44 := Tryz.underlying44
 have HR0 := am_ hr0
 have HC0 := am_ hc0
 clear hr0 hc0
 have HG := am_ hG
 clear hG
 have HB := am_ (Below.refl w.heap.size w)
 have H : ((bD.f k l0).bind fun t313 => (if t313 = 0 then (bC.l0 k l0 1) else (some t313))) = some r := h
 clear h
 obtain ⟨t313, A2, H⟩ := bs_ H
 by_cases c3 : t313 = 0
 rotate_left
 · rw [if_neg c3] at H
   have c3b0 : (t313 == 0) = false := beq_eq_false_iff_ne.mpr c3
   have c3b1 : (t313 != 0) = true := bne_iff_ne.mpr c3
   obtain rfl := sj_ H
   go_enter Tryz.func41, Tryz.ntmps41
   go_wp2_with (first | ((with_reducible refine gf_ 73 rfl ?_); refine gl_ (some 6) Tryz.func73 #[.slice A0 l0.length c0] ?_; refine (bD.calls k _ _ l0 t313 _ (gw_ HG.out) (by repeat (first | exact HR0.out | (with_reducible refine Kd.C_alloc ?_ _) | (with_reducible refine Kd.C_drewN ?_ _) | (with_reducible refine Kd.C_drew ?_))) HC0.out A2.out).mono ?_; rintro e w23 ⟨rfl, hb⟩; refine ⟨_, rfl, ?_⟩; replace HB := bp_ hb; (try clear hb)))
   go_ret
   exact ⟨er_, bl_⟩
 rw [if_pos c3] at H
 have c3b0 : (t313 == 0) = true := beq_iff_eq.mpr c3
 have c3b1 : (t313 != 0) = false := bne_eq_false_iff_eq.mpr c3
 clear c3
 replace H := am_ H
 go_enter Tryz.func41, Tryz.ntmps41
 go_wp2_with (first | ((with_reducible refine gf_ 73 rfl ?_); refine gl_ (some 6) Tryz.func73 #[.slice A0 l0.length c0] ?_; refine (bD.calls k _ _ l0 t313 _ (gw_ HG.out) (by repeat (first | exact HR0.out | (with_reducible refine Kd.C_alloc ?_ _) | (with_reducible refine Kd.C_drewN ?_ _) | (with_reducible refine Kd.C_drew ?_))) HC0.out A2.out).mono ?_; rintro e w4 ⟨rfl, hb⟩; refine ⟨_, rfl, ?_⟩; replace HB := bp_ hb; (try clear hb)))
 go_loopg [4] k (fun kq v4 w' => ∃ (x4_1 : Int), v4 = .int .i64 x4_1 ∧ Aside0 (bC.l0 kq l0 x4_1 = some r) ∧ Aside0 (kq ≤ k) ∧ Aside0 (Below w.heap.size w w'))
 case atStart => exact ⟨(1), ra_, H, ⟨Nat.le_refl _⟩, ⟨bl_⟩⟩
 case round =>
  clear H
  try clear p2
  try clear c3
  try clear c3b0
  try clear c3b1
  try clear c4
  obtain ⟨x4_1, rfl, HA, HK1, HB⟩ := hrel
  cases gk with
  | zero => exact absurd HA.out (by simp [bC.l0])
  | succ k1 =>
   have H := HA.out
   clear HA
   simp only [bC.l0] at H
   by_cases c5 : x4_1 < (l0.length : Int)
   rotate_left
   · rw [if_neg c5] at H
     have c5b0 := decide_eq_false c5
     clear c5
     obtain ⟨t317, A16, H⟩ := bs_ H
     obtain ⟨t320, A17, H⟩ := bs_ H
     by_cases c18 : t320 = true
     · subst c18
       rw [if_pos rfl] at H
       obtain rfl := sj_ H
       go_wp2_with (first | ((with_reducible refine gf_ 75 rfl ?_); refine gl_ (some 29) Tryz.func75 #[.slice A0 l0.length c0] ?_; refine (bQ.calls k1 _ _ l0 t317 _ (gw_ HG.out) (cb_ (Kd.C_below HR0.out HB.out)) HC0.out A16.out).mono ?_; rintro e w19 ⟨v318, rfl, ho0, hb⟩; refine ⟨_, rfl, ?_⟩; have HO319 := am_ (Kd.R_lower ho0 (below_size bl_)); replace HB := bp_ hb; (try clear hb); (try clear ho0); obtain ⟨Ao20, co20, eo20⟩ := Kd.R_slice HO319.out; subst eo20) | ((with_reducible refine gf_ 60 rfl ?_); refine gl_ (some 30) Tryz.func60 #[.slice A0 l0.length c0, .slice Ao20 t317.length co20] ?_; refine (dA.calls k1 _ _ l0 _ _ t317 true _ (gw_ HG.out) (cb_ (Kd.C_below HR0.out HB.out)) HC0.out (cb_ (Kd.R_reads' HO319.out).2.2) ((Kd.R_reads' HO319.out).2.1) A17.out).mono ?_; rintro e w' ⟨rfl, ⟨nd, rfl⟩⟩; refine ⟨_, rfl, ?_⟩))
       go_ret
       exact ⟨er_, bl_⟩
     obtain rfl := bf_ c18
     clear c18
     rw [if_neg ft_] at H
     obtain rfl := sj_ H
     go_wp2_with (first | ((with_reducible refine gf_ 75 rfl ?_); refine gl_ (some 29) Tryz.func75 #[.slice A0 l0.length c0] ?_; refine (bQ.calls k1 _ _ l0 t317 _ (gw_ HG.out) (cb_ (Kd.C_below HR0.out HB.out)) HC0.out A16.out).mono ?_; rintro e w21 ⟨v318, rfl, ho0, hb⟩; refine ⟨_, rfl, ?_⟩; have HO319 := am_ (Kd.R_lower ho0 (below_size bl_)); replace HB := bp_ hb; (try clear hb); (try clear ho0); obtain ⟨Ao22, co22, eo22⟩ := Kd.R_slice HO319.out; subst eo22) | ((with_reducible refine gf_ 60 rfl ?_); refine gl_ (some 30) Tryz.func60 #[.slice A0 l0.length c0, .slice Ao22 t317.length co22] ?_; refine (dA.calls k1 _ _ l0 _ _ t317 false _ (gw_ HG.out) (cb_ (Kd.C_below HR0.out HB.out)) HC0.out (cb_ (Kd.R_reads' HO319.out).2.2) ((Kd.R_reads' HO319.out).2.1) A17.out).mono ?_; rintro e w' ⟨rfl, ⟨nd, rfl⟩⟩; refine ⟨_, rfl, ?_⟩))
     go_ret
     exact ⟨er_, bl_⟩
   rw [if_pos c5] at H
   have c5b0 := decide_eq_true c5
   clear c5
   obtain ⟨ji6, hji6⟩ : ∃ j_ : Int, (wrap64 (x4_1 - 1)) = j_ := ⟨_, rfl⟩
   first | rw [hji6] at H | simp only [hji6] at H
   have hji6w : (IntKind.i64.wrap (x4_1 - 1)) = ji6 := (i64_w _).trans hji6
   obtain ⟨c7b0, H⟩ := ifd_ H
   obtain ⟨c8b0, H⟩ := ifd_ H
   obtain ⟨c9b0, H⟩ := ifd_ H
   obtain ⟨t316, A10, H⟩ := bs_ H
   by_cases c11 : t316 = true
   · subst c11
     rw [if_pos rfl] at H
     replace H := am_ H
     try go_wp2
     replace HB := am_ (below_drew1 HB.out)
     have p314 := pt_ (ji6)
     have q314 := qt_ (ji6) l0.length
     obtain ⟨ad314, e314, hx314_0, hx314_1, hx314_2, hx314_3⟩ := dS HR0.out (ji6) (oe_ p314) (oe_ q314)
     have hw314_3 := hx314_3
     have hw314_2 := hx314_2
     have hw314_1 := hx314_1
     have hw314_0 := hx314_0
     cases e314
     replace hx314_0 := ce_ HB hx314_0
     replace hx314_1 := ce_ HB hx314_1
     replace hx314_2 := ce_ HB hx314_2
     replace hx314_3 := ce_ HB hx314_3
     have p315 := pt_ x4_1
     have q315 := qt_ x4_1 l0.length
     obtain ⟨ad315, e315, hx315_0, hx315_1, hx315_2, hx315_3⟩ := dS HR0.out x4_1 (oe_ p315) (oe_ q315)
     have hw315_3 := hx315_3
     have hw315_2 := hx315_2
     have hw315_1 := hx315_1
     have hw315_0 := hx315_0
     obtain rfl : ad314 = ad315 := (by injection e315)
     replace hx315_0 := ce_ HB hx315_0
     replace hx315_1 := ce_ HB hx315_1
     replace hx315_2 := ce_ HB hx315_2
     replace hx315_3 := ce_ HB hx315_3
     refine start_ (n := 11) (S := fun w' => w'.cell? (ad314.add (((ji6)).toNat * 4)) = some (.int .i64 ((aI l0 (ji6)).f0)) ∧ w'.cell? ⟨(ad314.add (((ji6)).toNat * 4)).block, (ad314.add (((ji6)).toNat * 4)).off + 1, none⟩ = some (.int .i64 ((aI l0 (ji6)).f1)) ∧ w'.cell? ⟨(ad314.add (((ji6)).toNat * 4)).block, (ad314.add (((ji6)).toNat * 4)).off + 2, none⟩ = some (.int .i64 ((aI l0 (ji6)).f2)) ∧ w'.cell? ⟨(ad314.add (((ji6)).toNat * 4)).block, (ad314.add (((ji6)).toNat * 4)).off + 3, none⟩ = some (.int .i64 ((aI l0 (ji6)).f3)) ∧ w'.cell? (ad314.add ((x4_1).toNat * 4)) = some (.int .i64 ((aI l0 x4_1).f0)) ∧ w'.cell? ⟨(ad314.add ((x4_1).toNat * 4)).block, (ad314.add ((x4_1).toNat * 4)).off + 1, none⟩ = some (.int .i64 ((aI l0 x4_1).f1)) ∧ w'.cell? ⟨(ad314.add ((x4_1).toNat * 4)).block, (ad314.add ((x4_1).toNat * 4)).off + 2, none⟩ = some (.int .i64 ((aI l0 x4_1).f2)) ∧ w'.cell? ⟨(ad314.add ((x4_1).toNat * 4)).block, (ad314.add ((x4_1).toNat * 4)).off + 3, none⟩ = some (.int .i64 ((aI l0 x4_1).f3))) (ds := []) (bv 11 0) (by kernel_rfl) rfl rfl ⟨(ce_ HB hw314_0), (ce_ HB hw314_1), (ce_ HB hw314_2), (ce_ HB hw314_3), (ce_ HB hw315_0), (ce_ HB hw315_1), (ce_ HB hw315_2), (ce_ HB hw315_3)⟩ (fun hHeld => ?_); refine with_tabW bC.tab7 bC.jU (fun HT_ HW_ => ?_)
     generalize wr.drew = w12 at HB hx314_0 hx314_1 hx314_2 hx314_3 hx315_0 hx315_1 hx315_2 hx315_3 hHeld ⊢
     refine pu_ 0 16 (bv 11 1) ?_
     refine pu_ 1 17 (bv 11 3) ?_
     refine pu_ 2 18 (bv 11 7) ?_
     refine pu_ 3 19 (bv 11 15) ?_
     refine pu_ 5 21 (bv 11 47) ?_
     refine pu_ 6 22 (bv 11 111) ?_
     refine pu_ 7 23 (bv 11 239) ?_
     refine tk_ 4 20 (bv 11 255) hHeld ?_
     refine tk_ 8 24 (bv 11 511) hHeld ?_
     refine one_ (i := 9) (N := some 25) (bv 11 1023) rfl rfl (one_of HT_.out (by kernel_rfl)) (by decide) (fun K hK => ?_)
     refine goes_ Tryz.func74 (by kernel_rfl) rfl #[.agg #[.int .i64 ((aI l0 (ji6)).f0), .int .i64 ((aI l0 (ji6)).f1), .int .i64 ((aI l0 (ji6)).f2), .int .i64 ((aI l0 (ji6)).f3)], .agg #[.int .i64 ((aI l0 x4_1).f0), .int .i64 ((aI l0 x4_1).f1), .int .i64 ((aI l0 x4_1).f2), .int .i64 ((aI l0 x4_1).f3)]] (by rfl) rfl rfl (by (try simp only [List.map_toArray, List.map_cons, List.map_nil]); first | done | (simp only [hji6]; rfl) | rfl | (simp only [List.length_drop, List.length_take]; rfl)) ?_
     with_reducible refine (dU.calls ((aI l0 (ji6)).f0) ((aI l0 (ji6)).f1) ((aI l0 (ji6)).f2) ((aI l0 (ji6)).f3) ((aI l0 x4_1).f0) ((aI l0 x4_1).f1) ((aI l0 x4_1).f2) ((aI l0 x4_1).f3) true _ ?s1 A10.out).mono ?_
     (case s1 => exact gw_ HG.out)
     rintro e w13 ⟨rfl, hb⟩
     refine ⟨_, rfl, ?_⟩
     replace HB := bp_ hb
     (try clear hb)
     (try clear hb2)
     (try clear hk)
     (try clear hi)
     refine hK.out _ _ ⟨(ce_ HB hw314_0), (ce_ HB hw314_1), (ce_ HB hw314_2), (ce_ HB hw314_3), (ce_ HB hw315_0), (ce_ HB hw315_1), (ce_ HB hw315_2), (ce_ HB hw315_3)⟩ (fun hHeld => ?_)
     clear hK K
     refine norm_ (a' := ?_) ?_ ?_
     rotate_left
     · show Act.put _ (some 25) _ = _
       simp only [Act.put, List.setIfInBounds_toArray, List.set_cons_zero, List.set_cons_succ, i64_w, i32_w]
       rfl
     refine pu_ 10 26 (bv 11 2047) ?_
     refine done_ (done_of HT_.out (by kernel_rfl)) ?_
     try go_wp2
     go_roundg k1
     case measure => have := HK1.out; omega
     case rel => exact ⟨(wrap64 (x4_1 + 1)), ra_, H, ⟨by have := HK1.out; omega⟩, ⟨bl_⟩⟩
   obtain rfl := bf_ c11
   clear c11
   rw [if_neg ft_] at H
   obtain rfl := sj_ H
   try go_wp2
   replace HB := am_ (below_drew1 HB.out)
   have p314 := pt_ (ji6)
   have q314 := qt_ (ji6) l0.length
   obtain ⟨ad314, e314, hx314_0, hx314_1, hx314_2, hx314_3⟩ := dS HR0.out (ji6) (oe_ p314) (oe_ q314)
   have hw314_3 := hx314_3
   have hw314_2 := hx314_2
   have hw314_1 := hx314_1
   have hw314_0 := hx314_0
   cases e314
   replace hx314_0 := ce_ HB hx314_0
   replace hx314_1 := ce_ HB hx314_1
   replace hx314_2 := ce_ HB hx314_2
   replace hx314_3 := ce_ HB hx314_3
   have p315 := pt_ x4_1
   have q315 := qt_ x4_1 l0.length
   obtain ⟨ad315, e315, hx315_0, hx315_1, hx315_2, hx315_3⟩ := dS HR0.out x4_1 (oe_ p315) (oe_ q315)
   have hw315_3 := hx315_3
   have hw315_2 := hx315_2
   have hw315_1 := hx315_1
   have hw315_0 := hx315_0
   obtain rfl : ad314 = ad315 := (by injection e315)
   replace hx315_0 := ce_ HB hx315_0
   replace hx315_1 := ce_ HB hx315_1
   replace hx315_2 := ce_ HB hx315_2
   replace hx315_3 := ce_ HB hx315_3
   refine start_ (n := 11) (S := fun w' => w'.cell? (ad314.add (((ji6)).toNat * 4)) = some (.int .i64 ((aI l0 (ji6)).f0)) ∧ w'.cell? ⟨(ad314.add (((ji6)).toNat * 4)).block, (ad314.add (((ji6)).toNat * 4)).off + 1, none⟩ = some (.int .i64 ((aI l0 (ji6)).f1)) ∧ w'.cell? ⟨(ad314.add (((ji6)).toNat * 4)).block, (ad314.add (((ji6)).toNat * 4)).off + 2, none⟩ = some (.int .i64 ((aI l0 (ji6)).f2)) ∧ w'.cell? ⟨(ad314.add (((ji6)).toNat * 4)).block, (ad314.add (((ji6)).toNat * 4)).off + 3, none⟩ = some (.int .i64 ((aI l0 (ji6)).f3)) ∧ w'.cell? (ad314.add ((x4_1).toNat * 4)) = some (.int .i64 ((aI l0 x4_1).f0)) ∧ w'.cell? ⟨(ad314.add ((x4_1).toNat * 4)).block, (ad314.add ((x4_1).toNat * 4)).off + 1, none⟩ = some (.int .i64 ((aI l0 x4_1).f1)) ∧ w'.cell? ⟨(ad314.add ((x4_1).toNat * 4)).block, (ad314.add ((x4_1).toNat * 4)).off + 2, none⟩ = some (.int .i64 ((aI l0 x4_1).f2)) ∧ w'.cell? ⟨(ad314.add ((x4_1).toNat * 4)).block, (ad314.add ((x4_1).toNat * 4)).off + 3, none⟩ = some (.int .i64 ((aI l0 x4_1).f3))) (ds := []) (bv 11 0) (by kernel_rfl) rfl rfl ⟨(ce_ HB hw314_0), (ce_ HB hw314_1), (ce_ HB hw314_2), (ce_ HB hw314_3), (ce_ HB hw315_0), (ce_ HB hw315_1), (ce_ HB hw315_2), (ce_ HB hw315_3)⟩ (fun hHeld => ?_); refine with_tabW bC.tab7 bC.jU (fun HT_ HW_ => ?_)
   generalize wr.drew = w14 at HB hx314_0 hx314_1 hx314_2 hx314_3 hx315_0 hx315_1 hx315_2 hx315_3 hHeld ⊢
   refine pu_ 0 16 (bv 11 1) ?_
   refine pu_ 1 17 (bv 11 3) ?_
   refine pu_ 2 18 (bv 11 7) ?_
   refine pu_ 3 19 (bv 11 15) ?_
   refine pu_ 5 21 (bv 11 47) ?_
   refine pu_ 6 22 (bv 11 111) ?_
   refine pu_ 7 23 (bv 11 239) ?_
   refine tk_ 4 20 (bv 11 255) hHeld ?_
   refine tk_ 8 24 (bv 11 511) hHeld ?_
   refine one_ (i := 9) (N := some 25) (bv 11 1023) rfl rfl (one_of HT_.out (by kernel_rfl)) (by decide) (fun K hK => ?_)
   refine goes_ Tryz.func74 (by kernel_rfl) rfl #[.agg #[.int .i64 ((aI l0 (ji6)).f0), .int .i64 ((aI l0 (ji6)).f1), .int .i64 ((aI l0 (ji6)).f2), .int .i64 ((aI l0 (ji6)).f3)], .agg #[.int .i64 ((aI l0 x4_1).f0), .int .i64 ((aI l0 x4_1).f1), .int .i64 ((aI l0 x4_1).f2), .int .i64 ((aI l0 x4_1).f3)]] (by rfl) rfl rfl (by (try simp only [List.map_toArray, List.map_cons, List.map_nil]); first | done | (simp only [hji6]; rfl) | rfl | (simp only [List.length_drop, List.length_take]; rfl)) ?_
   with_reducible refine (dU.calls ((aI l0 (ji6)).f0) ((aI l0 (ji6)).f1) ((aI l0 (ji6)).f2) ((aI l0 (ji6)).f3) ((aI l0 x4_1).f0) ((aI l0 x4_1).f1) ((aI l0 x4_1).f2) ((aI l0 x4_1).f3) false _ ?s1 A10.out).mono ?_
   (case s1 => exact gw_ HG.out)
   rintro e w15 ⟨rfl, hb⟩
   refine ⟨_, rfl, ?_⟩
   replace HB := bp_ hb
   (try clear hb)
   (try clear hb2)
   (try clear hk)
   (try clear hi)
   refine hK.out _ _ ⟨(ce_ HB hw314_0), (ce_ HB hw314_1), (ce_ HB hw314_2), (ce_ HB hw314_3), (ce_ HB hw315_0), (ce_ HB hw315_1), (ce_ HB hw315_2), (ce_ HB hw315_3)⟩ (fun hHeld => ?_)
   clear hK K
   refine norm_ (a' := ?_) ?_ ?_
   rotate_left
   · show Act.put _ (some 25) _ = _
     simp only [Act.put, List.setIfInBounds_toArray, List.set_cons_zero, List.set_cons_succ, i64_w, i32_w]
     rfl
   refine pu_ 10 26 (bv 11 2047) ?_
   refine done_ (done_of HT_.out (by kernel_rfl)) ?_
   try go_wp2
   go_ret
   exact ⟨by first | rfl | (simp [dK, dL] <;> rfl) | (simp only [← hji6]; first | rfl | (simp [dK, dL] <;> rfl)) | (simp [*, dK, dL] <;> rfl), bl_⟩
end Go.Proofs.YthkeonbmgcphkaaGreatDoor.PM
namespace Go.Proofs.YthkeonbmgcphkaaGreatDoorPlain
open Go.RowKit Go.Proofs.YthkeonbmgcphkaaGreatDoor.PM Go.Proofs.YthkeonbmgcphkaaGreatDoorW.PrintWords
set_option linter.unusedVariables false
set_option linter.unusedSimpArgs false
abbrev Sp := S171
abbrev Rb := S138
theorem rdSp {l : List Sp} {i : Nat} (h : i < l.length) : dC l (i : Int) = l[i] := by
  unfold dC
  rw [List.getD_eq_getElem?_getD, Int.toNat_natCast, List.getElem?_eq_getElem h, Option.getD_some]
theorem rdRb {l : List Rb} {i : Nat} (h : i < l.length) : bJ l (i : Int) = l[i] := by
  unfold bJ
  rw [List.getD_eq_getElem?_getD, Int.toNat_natCast, List.getElem?_eq_getElem h, Option.getD_some]
theorem mnMin (a b : Int) : mn a b = min a b := by unfold mn; split <;> omega
theorem mxMax (a b : Int) : mx a b = max a b := by unfold mx; split <;> omega
theorem put_mid {lo hi n : Nat} (h1 : lo < hi) (h2 : hi ≤ n) (hn : n ≤ 4000000000000) : wrap64 (Int.tdiv (wrap64 ((lo : Int) + (hi : Int))) 2) = (((lo + hi) / 2 : Nat) : Int) := by
  rw [w64 (x := (lo : Int) + hi) (by omega) (by omega)]
  have e : ((lo : Int) + (hi : Int)).tdiv 2 = (((lo + hi) / 2 : Nat) : Int) := by
    rw [show (lo : Int) + (hi : Int) = ((lo + hi : Nat) : Int) by omega]
    rfl
  rw [e, w64 (by omega) (by omega)]
theorem put_tot (l : List Int) (v : Int) (hi : Inc l) (hl : l.length ≤ 1000000000000) : Tot (fun k => dE.f k l v) fun r => Inc r ∧ (∀ x, x ∈ r ↔ x ∈ l ∨ x = v) ∧ r.length ≤ l.length + 1 := by
  unfold dE.f
  have hp := List.pairwise_iff_getElem.1 hi
  have key : ∀ (d lo up : Nat), up - lo ≤ d → lo ≤ up → up ≤ l.length → (∀ j, (h : j < l.length) → j < lo → l[j] < v) → (∀ j, (h : j < l.length) → up ≤ j → v ≤ l[j]) →
      Tot (fun k => dE.l0 k l v (lo : Int) (up : Int)) fun r => Inc r ∧ (∀ x, x ∈ r ↔ x ∈ l ∨ x = v) ∧ r.length ≤ l.length + 1 := by
    intro d
    induction d with
    | zero =>
      intro lo up hd hlu hul h1 h2
      obtain rfl : lo = up := by omega
      have hold : ∀ (r : List Int), r = l.take lo ++ ([v] ++ l.drop lo) → (∀ j, (h : j < l.length) → lo ≤ j → v < l[j]) → Inc r ∧ (∀ x, x ∈ r ↔ x ∈ l ∨ x = v) ∧ r.length ≤ l.length + 1 := by
        intro r hr h3
        refine ⟨?_, fun x => ?_, by rw [hr]; simp; omega⟩
        · rw [hr]
          refine List.pairwise_append.2 ⟨hi.sublist (List.take_sublist _ _), List.pairwise_append.2 ⟨by simp, hi.sublist (List.drop_sublist _ _), fun a ha b hb => ?_⟩, fun a ha b hb => ?_⟩
          · rw [List.mem_singleton.1 ha]
            obtain ⟨j, hj, rfl⟩ := List.getElem_of_mem hb
            rw [List.getElem_drop]
            exact h3 _ (by simp at hj; omega) (by omega)
          · obtain ⟨i, hi', rfl⟩ := List.getElem_of_mem ha
            have hi'' : i < lo ∧ i < l.length := by simp at hi'; omega
            rw [List.getElem_take]
            have ha := h1 i hi''.2 hi''.1
            rcases List.mem_append.1 hb with hb | hb
            · rw [List.mem_singleton.1 hb]; exact ha
            · obtain ⟨j, hj, rfl⟩ := List.getElem_of_mem hb
              rw [List.getElem_drop]
              have := h3 (lo + j) (by simp at hj; omega) (by omega)
              omega
        · rw [hr]
          simp only [List.mem_append, List.mem_singleton]
          have : x ∈ l ↔ x ∈ l.take lo ∨ x ∈ l.drop lo := by rw [← List.mem_append, List.take_append_drop]
          rw [this]
          constructor
          · rintro (h | h | h)
            · exact .inl (.inl h)
            · exact .inr h
            · exact .inl (.inr h)
          · rintro ((h | h) | h)
            · exact .inl h
            · exact .inr (.inr h)
            · exact .inr (.inl h)
      have ins : Tot (fun _ => ((some (l.take (lo : Int).toNat : List Int)).bind fun y => (if ([] : List Int).length + y.length < 17592186044416 then ((some (([] : List Int) ++ y : List Int)).bind fun y2 => (if y2.length < 17592186044416 then ((some (y2 ++ [v] : List Int)).bind fun y3 => ((some (l.drop (lo : Int).toNat : List Int)).bind fun y4 => (if y3.length + y4.length < 17592186044416 then (some (y3 ++ y4)) else (none)))) else (none))) else (none)))) fun r => r = l.take lo ++ ([v] ++ l.drop lo) := by
        simp only [Option.bind_some, Int.toNat_natCast, List.nil_append]
        refine Tot.ite (fun _ => ?_) (fun h => absurd ?_ h)
        · refine Tot.ite (fun _ => ?_) (fun h => absurd ?_ h)
          · refine Tot.ite (fun _ => Tot.pure _ (by simp)) (fun h => absurd ?_ h)
            simp <;> omega
          · simp <;> omega
        · simp <;> omega
      refine Tot.succ ?_ fun k => by rw [dE.l0]
      refine Tot.ite (fun h => by exfalso; omega) (fun _ => ?_)
      refine Tot.ite (fun hlt => ?_) (fun hge => ?_)
      · refine Tot.ite (fun _ => ?_) (fun h => by exfalso; omega)
        have hlt' : lo < l.length := by omega
        rw [iJ l lo hlt']
        refine Tot.ite (fun he => Tot.pure _ ⟨hi, fun x => ⟨fun h => .inl h, fun h => h.elim id fun h => ?_⟩, by omega⟩) (fun hne => ?_)
        · rw [h, ← he]; exact List.getElem_mem _
        · refine Tot.ite (fun _ => ?_) (fun h => by exfalso; omega)
          refine ins.imp fun r hr => hold r hr fun j hj hlo => ?_
          have h3 := h2 lo hlt' (Nat.le_refl _)
          by_cases c : j = lo
          · subst c; omega
          · have := hp lo j hlt' hj (by omega); omega
      · first
          | (refine Tot.ite (fun _ => ?_) (fun h => by exfalso; omega); refine Tot.ite (fun _ => ?_) (fun h => by exfalso; omega); exact ins.imp fun r hr => hold r hr fun j hj hlo => by omega)
          | (refine Tot.ite (fun _ => ?_) (fun h => by exfalso; omega); exact ins.imp fun r hr => hold r hr fun j hj hlo => by omega)
          | exact ins.imp fun r hr => hold r hr fun j hj hlo => by omega
    | succ d ih =>
      intro lo up hd hlu hul h1 h2
      by_cases hlt : lo < up
      · have em := put_mid hlt hul (by omega)
        have hm1 : lo ≤ (lo + up) / 2 := by omega
        have hm2 : (lo + up) / 2 < up := by omega
        refine Tot.succ ?_ fun k => by rw [dE.l0]
        rw [em, iJ l _ (show (lo + up) / 2 < l.length by omega)]
        refine Tot.ite (fun _ => ?_) (fun h => by exfalso; omega)
        refine Tot.ite (fun _ => ?_) (fun h => by exfalso; omega)
        refine Tot.ite (fun _ => ?_) (fun h => by exfalso; omega)
        refine Tot.ite (fun hv => ?_) (fun hv => ?_)
        · have e1 : wrap64 ((((lo + up) / 2 : Nat) : Int) + 1) = (((lo + up) / 2 + 1 : Nat) : Int) := by rw [w64 (by omega) (by omega)]; omega
          rw [e1]
          refine ih ((lo + up) / 2 + 1) up (by omega) (by omega) hul (fun j hj hjl => ?_) h2
          by_cases c : j = (lo + up) / 2
          · subst c; exact hv
          · have := hp j ((lo + up) / 2) hj (by omega) (by omega); omega
        · refine ih lo ((lo + up) / 2) (by omega) hm1 (by omega) h1 (fun j hj hjl => ?_)
          by_cases c : j = (lo + up) / 2
          · subst c; omega
          · have := hp ((lo + up) / 2) j (by omega) hj (by omega); omega
      · obtain rfl : lo = up := by omega
        exact ih lo lo (by omega) hlu hul h1 h2
  exact key l.length 0 l.length (by omega) (by omega) (Nat.le_refl _) (fun j hj h => by omega) (fun j hj h => by omega)
theorem heights_tot (l : List Rc) (hl : l.length ≤ 1000000) : Tot (fun k => bU.f k l) fun r => Inc r ∧ (∀ x, x ∈ r ↔ ∃ q ∈ l, x = q.f1 ∨ x = q.f3) ∧ r.length ≤ 2 * l.length := by
  unfold bU.f
  have key : ∀ (d j : Nat) (ys : List Int), j + d = l.length → Inc ys → (∀ x, x ∈ ys ↔ ∃ q ∈ l.take j, x = q.f1 ∨ x = q.f3) → ys.length ≤ 2 * j → Tot (fun k => bU.l0 k l ys (j : Int)) fun r => Inc r ∧ (∀ x, x ∈ r ↔ ∃ q ∈ l, x = q.f1 ∨ x = q.f3) ∧ r.length ≤ 2 * l.length := by
    intro d
    induction d with
    | zero =>
      intro j ys hj hi hm hlen
      obtain rfl : j = l.length := by omega
      rw [List.take_length] at hm
      exact Tot.succ (Tot.pure ys ⟨hi, hm, hlen⟩) fun k => by rw [bU.l0, if_neg (by omega)]
    | succ d ih =>
      intro j ys hj hi hm hlen
      have hjs : j < l.length := by omega
      refine Tot.succ ?_ fun k => by rw [bU.l0, if_pos (by omega), if_pos (by omega), jS hjs, w1 hjs (by omega)]
      refine Tot.bind (put_tot ys l[j].f1 hi (by omega)) fun y1 h1 => Tot.bind (put_tot y1 l[j].f3 h1.1 (by omega)) fun y2 h2 => ?_
      refine ih (j + 1) y2 (by omega) h2.1 (fun x => ?_) (by omega)
      rw [h2.2.1, h1.2.1, hm, List.take_add_one, List.getElem?_eq_getElem hjs]
      simp only [Option.toList_some, List.mem_append, List.mem_singleton]
      constructor
      · rintro ((⟨q, hq, h⟩ | h) | h)
        · exact ⟨q, .inl hq, h⟩
        · exact ⟨_, .inr rfl, .inl h⟩
        · exact ⟨_, .inr rfl, .inr h⟩
      · rintro ⟨q, hq | rfl, h⟩
        · exact .inl (.inl ⟨q, hq, h⟩)
        · exact h.elim (fun h => .inl (.inr h)) (fun h => .inr h)
  exact key l.length 0 [] (by omega) List.Pairwise.nil (fun x => by simp) (by simp)
def dV (l : List Sp) : List Int := l.flatMap fun s => [s.f0, s.f1]
theorem jO (l : List Sp) : (dV l).length = 2 * l.length := by
  unfold dV
  induction l with
  | nil => rfl
  | cons a r ih => simp at ih ⊢; omega
theorem eU (s : Sp) (l : List Sp) : dV (s :: l) = s.f0 :: s.f1 :: dV l := rfl
theorem flatS_inj : ∀ {l m : List Sp}, dV l = dV m → l = m
  | [], [], _ => rfl
  | [], s :: m, h => by simp [dV] at h
  | s :: l, [], h => by simp [dV] at h
  | ⟨a, b⟩ :: l, ⟨c, d⟩ :: m, h => by
    rw [eU, eU] at h
    simp only [List.cons.injEq] at h
    obtain ⟨rfl, rfl, h⟩ := h
    rw [flatS_inj h]
theorem tog_flat_cons {s : Sp} {l : List Sp} (x : Int) (h : s.f0 < s.f1) : tog (dV (s :: l)) x = ((decide (s.f0 ≤ x) && decide (x < s.f1)) != tog (dV l) x) := by
  rw [eU, tog, tog]
  by_cases h1 : s.f0 ≤ x <;> by_cases h2 : s.f1 ≤ x
  · rw [decide_eq_true h1, decide_eq_true h2, decide_eq_false (show ¬ x < s.f1 by omega)]; simp
  · rw [decide_eq_true h1, decide_eq_false h2, decide_eq_true (show x < s.f1 by omega)]; simp
  · omega
  · rw [decide_eq_false h1, decide_eq_false h2]; simp
theorem tog_flat : ∀ {l : List Sp}, Inc (dV l) → ∀ x, tog (dV l) x = l.any fun s => decide (s.f0 ≤ x) && decide (x < s.f1)
  | [], _, x => rfl
  | s :: l, h, x => by
    rw [eU] at h
    have h1 : s.f0 < s.f1 := fK h s.f1 (by simp)
    have hr := gZ (gZ h)
    rw [tog_flat_cons x h1, List.any_cons, ← tog_flat hr x]
    by_cases c : s.f0 ≤ x ∧ x < s.f1
    · rw [iW (l := dV l) (x := x) fun a ha => by have := fK (gZ h) a ha; omega]
      simp
    · have : (decide (s.f0 ≤ x) && decide (x < s.f1)) = false := by
        rw [Bool.eq_false_iff]
        simp only [ne_eq, Bool.and_eq_true, decide_eq_true_eq]
        exact c
      rw [this]
      simp
def fJ : List Sp → Int → Int → List Sp
  | [], a, b => [⟨a, b⟩]
  | t :: r, a, b => if t.f0 ≤ b then fJ r (min a t.f0) (max b t.f1) else ⟨a, b⟩ :: t :: r
def iE : List Sp → Int → Int → List Sp
  | [], a, b => [⟨a, b⟩]
  | t :: r, a, b => if t.f1 < a then t :: iE r a b else fJ (t :: r) a b
theorem absorb_mem : ∀ (l : List Sp) (a b : Int), ∀ v ∈ dV (fJ l a b), v = a ∨ v = b ∨ v ∈ dV l
  | [], a, b, v, h => by simp [fJ, dV] at h; omega
  | t :: r, a, b, v, h => by
    rw [fJ] at h
    rw [eU]
    simp only [List.mem_cons]
    split at h
    · rcases absorb_mem r _ _ v h with h | h | h
      · by_cases c : a ≤ t.f0
        · left; omega
        · right; right; left; omega
      · by_cases c : t.f1 ≤ b
        · right; left; omega
        · right; right; right; left; omega
      · exact .inr (.inr (.inr (.inr h)))
    · rw [eU, eU] at h
      simp only [List.mem_cons] at h
      rcases h with h | h | h | h | h
      · exact .inl h
      · exact .inr (.inl h)
      · exact .inr (.inr (.inl h))
      · exact .inr (.inr (.inr (.inl h)))
      · exact .inr (.inr (.inr (.inr h)))
theorem absorb_len : ∀ (l : List Sp) (a b : Int), (fJ l a b).length ≤ l.length + 1
  | [], a, b => by simp [fJ]
  | t :: r, a, b => by
    rw [fJ]
    split
    · have := absorb_len r (min a t.f0) (max b t.f1)
      simp only [List.length_cons]; omega
    · simp
theorem joinP_len : ∀ (l : List Sp) (a b : Int), (iE l a b).length ≤ l.length + 1
  | [], a, b => by simp [iE]
  | t :: r, a, b => by
    rw [iE]
    split
    · have := joinP_len r a b
      simp only [List.length_cons]; omega
    · exact absorb_len _ _ _
theorem joinP_mem : ∀ (l : List Sp) (a b : Int), ∀ v ∈ dV (iE l a b), v = a ∨ v = b ∨ v ∈ dV l
  | [], a, b, v, h => by simp [iE, dV] at h; omega
  | t :: r, a, b, v, h => by
    rw [iE] at h
    split at h
    · rw [eU] at h ⊢
      simp only [List.mem_cons] at h ⊢
      rcases h with h | h | h
      · exact .inr (.inr (.inl h))
      · exact .inr (.inr (.inr (.inl h)))
      · rcases joinP_mem r a b v h with h | h | h
        · exact .inl h
        · exact .inr (.inl h)
        · exact .inr (.inr (.inr (.inr h)))
    · exact absorb_mem _ _ _ v h
theorem flat_parts {s : Sp} {l : List Sp} (h : Inc (dV (s :: l))) : s.f0 < s.f1 ∧ Inc (dV l) ∧ ∀ v ∈ dV l, s.f1 < v := by
  rw [eU] at h
  exact ⟨fK h s.f1 (by simp), gZ (gZ h), fun v hv => fK (gZ h) v hv⟩
theorem flat_mk {s : Sp} {l : List Sp} (h1 : s.f0 < s.f1) (h2 : Inc (dV l)) (h3 : ∀ v ∈ dV l, s.f1 < v) : Inc (dV (s :: l)) := by
  rw [eU]
  refine List.pairwise_cons.2 ⟨fun v hv => ?_, List.pairwise_cons.2 ⟨h3, h2⟩⟩
  rcases List.mem_cons.1 hv with rfl | hv
  · exact h1
  · have := h3 v hv; omega
theorem mem_flat {s : Sp} {l : List Sp} (h : s ∈ l) : s.f0 ∈ dV l ∧ s.f1 ∈ dV l := ⟨List.mem_flatMap.2 ⟨s, h, by simp⟩, List.mem_flatMap.2 ⟨s, h, by simp⟩⟩
def inS (x : Int) (s : Sp) : Bool := decide (s.f0 ≤ x) && decide (x < s.f1)
theorem kZ : ∀ (l : List Sp) (a b : Int), Inc (dV l) → a < b → (∀ t ∈ l, a ≤ t.f1) → Inc (dV (fJ l a b)) ∧ ∀ x, (fJ l a b).any (inS x) = (l.any (inS x) || inS x ⟨a, b⟩)
  | [], a, b, _, hab, _ => ⟨by simpa [fJ, dV] using hab, fun x => by simp [fJ]⟩
  | t :: r, a, b, hi, hab, hat => by
    obtain ⟨h1, h2, h3⟩ := flat_parts hi
    have h4 := hat t List.mem_cons_self
    rw [fJ]
    split
    · rename_i hle
      obtain ⟨i1, i2⟩ := kZ r (min a t.f0) (max b t.f1) h2 (by omega) (fun u hu => by have := h3 u.f1 (mem_flat hu).2; omega)
      refine ⟨i1, fun x => ?_⟩
      rw [i2, List.any_cons]
      have : inS x ⟨min a t.f0, max b t.f1⟩ = (inS x t || inS x ⟨a, b⟩) := by
        unfold inS
        rw [Bool.eq_iff_iff]
        simp only [Bool.and_eq_true, Bool.or_eq_true, decide_eq_true_eq]
        omega
      rw [this]
      cases r.any (inS x) <;> cases inS x t <;> cases inS x ⟨a, b⟩ <;> rfl
    · rename_i hgt
      refine ⟨flat_mk hab hi fun v hv => ?_, fun x => ?_⟩
      · rw [eU] at hv
        simp only [List.mem_cons] at hv
        rcases hv with rfl | rfl | hv
        · simp only; omega
        · simp only; omega
        · have := h3 v hv; simp only; omega
      · rw [List.any_cons (a := (⟨a, b⟩ : Sp))]
        cases (t :: r).any (inS x) <;> cases inS x ⟨a, b⟩ <;> rfl
theorem joinP_spec : ∀ (l : List Sp) (a b : Int), Inc (dV l) → a < b → Inc (dV (iE l a b)) ∧ ∀ x, (iE l a b).any (inS x) = (l.any (inS x) || inS x ⟨a, b⟩)
  | [], a, b, _, hab => ⟨by simpa [iE, dV] using hab, fun x => by simp [iE]⟩
  | t :: r, a, b, hi, hab => by
    obtain ⟨h1, h2, h3⟩ := flat_parts hi
    rw [iE]
    split
    · rename_i hlt
      obtain ⟨i1, i2⟩ := joinP_spec r a b h2 hab
      refine ⟨flat_mk h1 i1 fun v hv => ?_, fun x => ?_⟩
      · rcases joinP_mem r a b v hv with rfl | rfl | hv
        · exact hlt
        · omega
        · exact h3 v hv
      · rw [List.any_cons, List.any_cons, i2]
        cases inS x t <;> rfl
    · rename_i hge
      exact kZ (t :: r) a b hi hab fun u hu => by
        rcases List.mem_cons.1 hu with rfl | hu
        · omega
        · have := h3 u.f1 (mem_flat hu).2; omega
theorem joined_tot (l : List Sp) (a b : Int) (hl : l.length ≤ 1000000) : Tot (fun k => aK.f k l a b) fun r => r = iE l a b := by
  unfold aK.f
  have k1 : ∀ (d j : Nat) (out : List Sp) (a b : Int), j + d = l.length → out.length ≤ 1000000 → Tot (fun k => aK.l1 k l out (j : Int) a b) fun r => r = out ++ fJ (l.drop j) a b := by
    intro d
    induction d with
    | zero =>
      intro j out a b hj ho
      refine Tot.succ (Tot.pure (out ++ fJ (l.drop j) a b) rfl) fun k => ?_
      rw [aK.l1, if_neg (by omega), if_pos (by omega)]
      simp only [Option.bind_some]
      rw [if_pos (by omega), if_pos (by omega), if_pos (by simp <;> omega), Int.toNat_natCast, List.drop_of_length_le (by omega)]
      simp [fJ]
    | succ d ih =>
      intro j out a b hj ho
      have hjs : j < l.length := by omega
      have e := List.drop_eq_getElem_cons hjs
      by_cases c : l[j].f0 ≤ b
      · refine Tot.succ ((ih (j + 1) out (min a l[j].f0) (max b l[j].f1) (by omega) ho).imp fun r hr => ?_) fun k => ?_
        · rw [hr, e, fJ, if_pos c]
        · rw [aK.l1, if_pos (by omega), if_pos (by omega), rdSp hjs, if_pos c, w1 hjs (by omega), mnMin, mxMax]
      · refine Tot.succ (Tot.pure (out ++ fJ (l.drop j) a b) rfl) fun k => ?_
        rw [aK.l1, if_pos (by omega), if_pos (by omega), rdSp hjs, if_neg c, if_pos (by omega)]
        simp only [Option.bind_some]
        rw [if_pos (by omega), if_pos (by simp <;> omega), Int.toNat_natCast, e, fJ, if_neg c]
        simp
  have k0 : ∀ (d j : Nat) (out : List Sp), j + d = l.length → out.length ≤ j → Tot (fun k => aK.l0 k l out (j : Int) a b) fun r => r = out ++ iE (l.drop j) a b := by
    intro d
    induction d with
    | zero =>
      intro j out hj ho
      have h := k1 0 j out a b hj (by omega)
      rw [List.drop_of_length_le (show l.length ≤ j by omega)] at h ⊢
      refine Tot.succ (Tot.succ (f := fun k => aK.j1 k l out (j : Int) a b) h fun k => by rw [aK.j1]) fun k => ?_
      rw [aK.l0, if_neg (by omega)]
    | succ d ih =>
      intro j out hj ho
      have hjs : j < l.length := by omega
      have e := List.drop_eq_getElem_cons hjs
      by_cases c : l[j].f1 < a
      · refine Tot.succ ((ih (j + 1) (out ++ [l[j]]) (by omega) (by simp <;> omega)).imp fun r hr => ?_) fun k => ?_
        · rw [hr, e, iE, if_pos c]; simp
        · rw [aK.l0, if_pos (by omega), if_pos (by omega), rdSp hjs, if_pos c, if_pos (by omega), w1 hjs (by omega)]
      · have h := k1 (d + 1) j out a b hj (by omega)
        refine Tot.succ (Tot.succ (f := fun k => aK.j1 k l out (j : Int) a b) (h.imp fun r hr => ?_) fun k => by rw [aK.j1]) fun k => ?_
        · rw [hr, e, iE, if_neg c]
        · rw [aK.l0, if_pos (by omega), if_pos (by omega), rdSp hjs, if_neg c]
  exact k0 l.length 0 [] (by omega) (by simp)
theorem row_tot (l : List Rc) (y : Int) (hl : l.length ≤ 100000) (hg : ∀ r ∈ l, r.f0 < r.f2) : Tot (fun k => bY.f k l y) fun r => Inc (dV r) ∧ (∀ x, r.any (inS x) = covR l y x) ∧ r.length ≤ l.length := by
  unfold bY.f
  have key : ∀ (d j : Nat) (out : List Sp), j + d = l.length → Inc (dV out) → (∀ x, out.any (inS x) = covR (l.take j) y x) → out.length ≤ j → Tot (fun k => bY.l0 k l y out (j : Int)) fun r => Inc (dV r) ∧ (∀ x, r.any (inS x) = covR l y x) ∧ r.length ≤ l.length := by
    intro d
    induction d with
    | zero =>
      intro j out hj hi hc ho
      obtain rfl : j = l.length := by omega
      rw [List.take_length] at hc
      exact Tot.succ (Tot.pure out ⟨hi, hc, ho⟩) fun k => by rw [bY.l0, if_neg (by omega)]
    | succ d ih =>
      intro j out hj hi hc ho
      have hjs : j < l.length := by omega
      have et : ∀ x, covR (l.take (j + 1)) y x = (covR (l.take j) y x || inR l[j] y x) := fun x => by
        unfold covR
        rw [List.take_add_one, List.getElem?_eq_getElem hjs, List.any_append]
        simp
      refine Tot.succ ?_ fun k => by rw [bY.l0, if_pos (by omega), if_pos (by omega), jS hjs, w1 hjs (by omega)]
      have out_ : ¬ (l[j].f1 ≤ y ∧ y < l[j].f3) → Tot (fun k => bY.l0 k l y out ((j + 1 : Nat) : Int)) fun r => Inc (dV r) ∧ (∀ x, r.any (inS x) = covR l y x) ∧ r.length ≤ l.length := fun hn => by
        refine ih (j + 1) out (by omega) hi (fun x => ?_) (by omega)
        rw [et, hc]
        have : inR l[j] y x = false := by
          unfold inR
          rw [Bool.eq_false_iff]
          simp only [ne_eq, Bool.and_eq_true, decide_eq_true_eq]
          omega
        rw [this, Bool.or_false]
      refine Tot.ite (fun h1 => Tot.ite (fun h2 => ?_) (fun h2 => out_ (by omega))) (fun h1 => out_ (by omega))
      refine Tot.bind (joined_tot out l[j].f0 l[j].f2 (by omega)) fun o ho' => ?_
      obtain ⟨i1, i2⟩ := joinP_spec out l[j].f0 l[j].f2 hi (hg _ (List.getElem_mem hjs))
      have := joinP_len out l[j].f0 l[j].f2
      subst ho'
      refine ih (j + 1) _ (by omega) i1 (fun x => ?_) (by omega)
      rw [i2, et, hc]
      congr 1
      unfold inS inR
      rw [decide_eq_true h1, decide_eq_true h2]
      simp
  exact key l.length 0 [] (by omega) List.Pairwise.nil (fun x => rfl) (by simp)
end Go.Proofs.YthkeonbmgcphkaaGreatDoorPlain
