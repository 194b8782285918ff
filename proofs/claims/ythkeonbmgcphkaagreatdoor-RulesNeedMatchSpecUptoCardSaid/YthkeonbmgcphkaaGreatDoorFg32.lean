import Derived.Test.YthkeonbmgcphkaaGreatDoorFg6
import Derived.Test.YthkeonbmgcphkaaGreatDoorFg16
import Derived.Test.YthkeonbmgcphkaaGreatDoorFg19
import Derived.Test.YthkeonbmgcphkaaGreatDoorFg29
import Derived.Test.YthkeonbmgcphkaaGreatDoorFg30
import Derived.Test.YthkeonbmgcphkaaGreatDoorFg31
namespace Go.Proofs.YthkeonbmgcphkaaGreatDoor.PN
open Go.RowKit Go.Proofs.YthkeonbmgcphkaaGreatDoorW.PrintWords Go.Proofs.YthkeonbmgcphkaaGreatDoorW.PrintLast Go.Proofs.YthkeonbmgcphkaaGreatDoorW.PrintMore
attribute [local go_sem] max2_int min2_int max_two min_two max_three min_three max_four min_four
set_option linter.unusedVariables false
set_option maxHeartbeats 8000000
set_option maxRecDepth 100000
set_option linter.unusedSimpArgs false
def fA.f (k : Nat) (a0_0 : Int) (a0_1 : Int) (a0_2 : Int) (a0_3 : Int) (a0_4 : Int) (l0_5 : List (S66)) (l0_6 : List (S68)) (a1 : ByteArray) : Option (Int) := (cZ.f k a0_0 a0_1 a0_2 a0_3 a0_4 l0_5 l0_6 a1).bind fun bt428 => (if bt428.2.2.2 > 0 then (some bt428.2.2.2) else (some a0_1))
theorem fA.calls (k : Nat) (a0_0 : Int) (a0_1 : Int) (a0_2 : Int) (a0_3 : Int) (a0_4 : Int) (A0_5 : Option Addr) (c0_5 : Nat) (l0_5 : List (S66)) (A0_6 : Option Addr) (c0_6 : Nat) (l0_6 : List (S68)) (a1 : ByteArray) (r : Int) (w : World) (hG : Tryz.GW w) (hr0_5 : Kd.C k66 w A0_5 l0_5.length l0_5) (hc0_5 : l0_5.length ≤ c0_5) (hr0_6 : Kd.C k68 w A0_6 l0_6.length l0_6) (hc0_6 : l0_6.length ≤ c0_6) (h : fA.f k a0_0 a0_1 a0_2 a0_3 a0_4 l0_5 l0_6 a1 = some r) :
 Calls Tryz.prog 49 #[.agg #[.int .i64 a0_0, .int .i64 a0_1, .int .i64 a0_2, .int .i64 a0_3, .int .i64 a0_4, .slice A0_5 l0_5.length c0_5, .slice A0_6 l0_6.length c0_6], .string a1] w fun e w' => e = .returned (.int .i64 r) ∧ Below w.heap.size w w' := by
 have hu25 := Tryz.underlying25
 have hu66 := Tryz.underlying66
 have hfd66_3 : ∀ (s0 : ByteArray) (A1 : Option Addr) (n1 c1 : Nat) (x2 : Int) (x3 : Int) (w : World), (Instr.field 66 (.agg #[.string s0, .slice A1 n1 c1, .int .i64 x2, .int .i64 x3]) 3).run Tryz.prog w = .ok (.int .i64 x3) w := by intros; kernel_rfl
 have HR0_5 := am_ hr0_5
 have HC0_5 := am_ hc0_5
 clear hr0_5 hc0_5
 have HR0_6 := am_ hr0_6
 have HC0_6 := am_ hc0_6
 clear hr0_6 hc0_6
 have HG := am_ hG
 clear hG
 have HB := am_ (Below.refl w.heap.size w)
 have H : ((cZ.f k a0_0 a0_1 a0_2 a0_3 a0_4 l0_5 l0_6 a1).bind fun bt428 => (if bt428.2.2.2 > 0 then (some bt428.2.2.2) else (some a0_1))) = some r := h
 clear h
 obtain ⟨⟨t428, t429, t432, t433⟩, A3, H⟩ := bs_ H
 by_cases c4 : t433 > 0
 · rw [if_pos c4] at H
   have c4b0 : decide (0 < t433) = true := decide_eq_true c4
   clear c4
   obtain rfl := sj_ H
   go_enter Tryz.func49, Tryz.ntmps49
   go_wp2_with (first | ((with_reducible refine gn_ 2 rfl ?_); refine bq_ (N := 2) (cs := #[.int .i64 a0_0, .int .i64 a0_1, .int .i64 a0_2, .int .i64 a0_3, .int .i64 a0_4, .slice A0_5 l0_5.length c0_5, .slice A0_6 l0_6.length c0_6]) (t := 25) ?_; intro gb427 hg w5 BK427 hb; have GW427 := ga_ w hg; have GE427 := GW427; replace HB := bp_ hb; clear hb hg; have bz6 := bc7_ BK427) | ((with_reducible refine gf_ 83 rfl ?_); refine gl_ (some 8) Tryz.func83 #[.agg #[.int .i64 a0_0, .int .i64 a0_1, .int .i64 a0_2, .int .i64 a0_3, .int .i64 a0_4, .slice A0_5 l0_5.length c0_5, .slice A0_6 l0_6.length c0_6], .string a1] ?_; refine (cZ.calls k a0_0 a0_1 a0_2 a0_3 a0_4 (fun k_ => k_ < w.heap.size) _ _ l0_5 _ _ l0_6 a1 t428 t429 t432 t433 _ (gw_ HG.out) (Kd.V_mk HC0_5.out (Kd.F_below (Kd.C_F iV HR0_5.out) bl_)) (cb_ (Kd.C_below HR0_6.out HB.out)) HC0_6.out A3.out).mono ?_; rintro e w7 ⟨v430, rfl, ho0, hb⟩; refine ⟨_, rfl, ?_⟩; have HO431 := am_ (Kd.V_lower (Kd.V_mono (ok' := fun k_ => k_ ≠ gb427) ho0 (fun k_ hk_ => Or.elim hk_ (fun hs_ => fun e_ => Nat.not_le.2 hs_ (by rw [e_]; exact GW427.out)) (fun hn_ => (Kd.freshB (g := gb427) (o := .cells #[.int .i64 a0_0, .int .i64 a0_1, .int .i64 a0_2, .int .i64 a0_3, .int .i64 a0_4, .slice A0_5 l0_5.length c0_5, .slice A0_6 l0_6.length c0_6] 25 (0, 0)) (bk_ BK427) k_ hn_)))) (below_size bl_)); replace BK427 := bb_ BK427 hb; replace HB := bp_ hb; (try clear hb); (try clear ho0); obtain ⟨Ax430, cx430, ex430⟩ := Kd.V_slice HO431.out; subst ex430))
   go_ret
   exact ⟨er_, bl_⟩
 rw [if_neg c4] at H
 have c4b0 : decide (0 < t433) = false := decide_eq_false c4
 clear c4
 obtain rfl := sj_ H
 go_enter Tryz.func49, Tryz.ntmps49
 go_wp2_with (first | ((with_reducible refine gn_ 2 rfl ?_); refine bq_ (N := 2) (cs := #[.int .i64 a0_0, .int .i64 a0_1, .int .i64 a0_2, .int .i64 a0_3, .int .i64 a0_4, .slice A0_5 l0_5.length c0_5, .slice A0_6 l0_6.length c0_6]) (t := 25) ?_; intro gb427 hg w8 BK427 hb; have GW427 := ga_ w hg; have GE427 := GW427; replace HB := bp_ hb; clear hb hg; have bz9 := bc7_ BK427) | ((with_reducible refine gf_ 83 rfl ?_); refine gl_ (some 8) Tryz.func83 #[.agg #[.int .i64 a0_0, .int .i64 a0_1, .int .i64 a0_2, .int .i64 a0_3, .int .i64 a0_4, .slice A0_5 l0_5.length c0_5, .slice A0_6 l0_6.length c0_6], .string a1] ?_; refine (cZ.calls k a0_0 a0_1 a0_2 a0_3 a0_4 (fun k_ => k_ < w.heap.size) _ _ l0_5 _ _ l0_6 a1 t428 t429 t432 t433 _ (gw_ HG.out) (Kd.V_mk HC0_5.out (Kd.F_below (Kd.C_F iV HR0_5.out) bl_)) (cb_ (Kd.C_below HR0_6.out HB.out)) HC0_6.out A3.out).mono ?_; rintro e w10 ⟨v430, rfl, ho0, hb⟩; refine ⟨_, rfl, ?_⟩; have HO431 := am_ (Kd.V_lower (Kd.V_mono (ok' := fun k_ => k_ ≠ gb427) ho0 (fun k_ hk_ => Or.elim hk_ (fun hs_ => fun e_ => Nat.not_le.2 hs_ (by rw [e_]; exact GW427.out)) (fun hn_ => (Kd.freshB (g := gb427) (o := .cells #[.int .i64 a0_0, .int .i64 a0_1, .int .i64 a0_2, .int .i64 a0_3, .int .i64 a0_4, .slice A0_5 l0_5.length c0_5, .slice A0_6 l0_6.length c0_6] 25 (0, 0)) (bk_ BK427) k_ hn_)))) (below_size bl_)); replace BK427 := bb_ BK427 hb; replace HB := bp_ hb; (try clear hb); (try clear ho0); obtain ⟨Ax430, cx430, ex430⟩ := Kd.V_slice HO431.out; subst ex430; have bz11 := bc7_ BK427))
 go_ret
 exact ⟨er_, bl_⟩
def dU.f (k : Nat) (a0_0 : Int) (a0_1 : Int) (a0_2 : Int) (a0_3 : Int) (a0_4 : Int) (l0_5 : List (S66)) (l0_6 : List (S68)) (a1 : ByteArray) : Option (Int × Int) := (aN.f k a0_0 a0_1 a0_2 a0_3 a0_4 l0_5 l0_6).bind fun t435 => (if t435 = 0 then ((dK.f k a1).bind fun t436 => (if t436 = true then ((fA.f k a0_0 a0_1 a0_2 a0_3 a0_4 l0_5 l0_6 a1).bind fun t437 => (some (t437, 0))) else (some (0, 5)))) else (some (0, t435)))
theorem dU.calls (k : Nat) (a0_0 : Int) (a0_1 : Int) (a0_2 : Int) (a0_3 : Int) (a0_4 : Int) (A0_5 : Option Addr) (c0_5 : Nat) (l0_5 : List (S66)) (A0_6 : Option Addr) (c0_6 : Nat) (l0_6 : List (S68)) (a1 : ByteArray) (r1 : Int) (r2 : Int) (w : World) (hG : Tryz.GW w) (hr0_5 : Kd.C k66 w A0_5 l0_5.length l0_5) (hc0_5 : l0_5.length ≤ c0_5) (hr0_6 : Kd.C k68 w A0_6 l0_6.length l0_6) (hc0_6 : l0_6.length ≤ c0_6) (h : dU.f k a0_0 a0_1 a0_2 a0_3 a0_4 l0_5 l0_6 a1 = some (r1, r2)) :
 Calls Tryz.prog 18 #[.agg #[.int .i64 a0_0, .int .i64 a0_1, .int .i64 a0_2, .int .i64 a0_3, .int .i64 a0_4, .slice A0_5 l0_5.length c0_5, .slice A0_6 l0_6.length c0_6], .string a1] w fun e w' => e = .returned (.tuple #[.int .i64 r1, .int .i64 r2]) ∧ Below w.heap.size w w' := by
 have hu25 := Tryz.underlying25
 have HR0_5 := am_ hr0_5
 have HC0_5 := am_ hc0_5
 clear hr0_5 hc0_5
 have HR0_6 := am_ hr0_6
 have HC0_6 := am_ hc0_6
 clear hr0_6 hc0_6
 have HG := am_ hG
 clear hG
 have HB := am_ (Below.refl w.heap.size w)
 have H : ((aN.f k a0_0 a0_1 a0_2 a0_3 a0_4 l0_5 l0_6).bind fun t435 => (if t435 = 0 then ((dK.f k a1).bind fun t436 => (if t436 = true then ((fA.f k a0_0 a0_1 a0_2 a0_3 a0_4 l0_5 l0_6 a1).bind fun t437 => (some (t437, 0))) else (some (0, 5)))) else (some (0, t435)))) = some (r1, r2) := h
 clear h
 obtain ⟨t435, A3, H⟩ := bs_ H
 by_cases c4 : t435 = 0
 rotate_left
 · rw [if_neg c4] at H
   have c4b0 : (t435 == 0) = false := beq_eq_false_iff_ne.mpr c4
   have c4b1 : (t435 != 0) = true := bne_iff_ne.mpr c4
   simp only [Option.some.injEq, Prod.mk.injEq] at H
   obtain ⟨rfl, rfl⟩ := H
   go_enter Tryz.func18, Tryz.ntmps18
   go_wp2_with (first | ((with_reducible refine gn_ 2 rfl ?_); refine bq_ (N := 2) (cs := #[.int .i64 a0_0, .int .i64 a0_1, .int .i64 a0_2, .int .i64 a0_3, .int .i64 a0_4, .slice A0_5 l0_5.length c0_5, .slice A0_6 l0_6.length c0_6]) (t := 25) ?_; intro gb434 hg w18 BK434 hb; have GW434 := ga_ w hg; have GE434 := GW434; replace HB := bp_ hb; clear hb hg; have bz19 := bc7_ BK434) | ((with_reducible refine gf_ 13 rfl ?_); refine gl_ (some 8) Tryz.func13 #[.agg #[.int .i64 a0_0, .int .i64 a0_1, .int .i64 a0_2, .int .i64 a0_3, .int .i64 a0_4, .slice A0_5 l0_5.length c0_5, .slice A0_6 l0_6.length c0_6]] ?_; refine (aN.calls k a0_0 a0_1 a0_2 a0_3 a0_4 _ _ l0_5 _ _ l0_6 t435 _ (gw_ HG.out) (cb_ (Kd.C_below HR0_5.out HB.out)) HC0_5.out (cb_ (Kd.C_below HR0_6.out HB.out)) HC0_6.out A3.out).mono ?_; rintro e w20 ⟨rfl, hb⟩; refine ⟨_, rfl, ?_⟩; replace BK434 := bb_ BK434 hb; replace HB := bp_ hb; (try clear hb)))
   go_ret2
   exact ⟨er_, bl_⟩
 rw [if_pos c4] at H
 have c4b0 : (t435 == 0) = true := beq_iff_eq.mpr c4
 have c4b1 : (t435 != 0) = false := bne_eq_false_iff_eq.mpr c4
 clear c4
 obtain ⟨t436, A5, H⟩ := bs_ H
 by_cases c6 : t436 = true
 · subst c6
   rw [if_pos rfl] at H
   obtain ⟨t437, A7, H⟩ := bs_ H
   simp only [Option.some.injEq, Prod.mk.injEq] at H
   obtain ⟨rfl, rfl⟩ := H
   go_enter Tryz.func18, Tryz.ntmps18
   go_wp2_with (first | ((with_reducible refine gn_ 2 rfl ?_); refine bq_ (N := 2) (cs := #[.int .i64 a0_0, .int .i64 a0_1, .int .i64 a0_2, .int .i64 a0_3, .int .i64 a0_4, .slice A0_5 l0_5.length c0_5, .slice A0_6 l0_6.length c0_6]) (t := 25) ?_; intro gb434 hg w8 BK434 hb; have GW434 := ga_ w hg; have GE434 := GW434; replace HB := bp_ hb; clear hb hg; have bz9 := bc7_ BK434) | ((with_reducible refine gf_ 13 rfl ?_); refine gl_ (some 8) Tryz.func13 #[.agg #[.int .i64 a0_0, .int .i64 a0_1, .int .i64 a0_2, .int .i64 a0_3, .int .i64 a0_4, .slice A0_5 l0_5.length c0_5, .slice A0_6 l0_6.length c0_6]] ?_; refine (aN.calls k a0_0 a0_1 a0_2 a0_3 a0_4 _ _ l0_5 _ _ l0_6 t435 _ (gw_ HG.out) (cb_ (Kd.C_below HR0_5.out HB.out)) HC0_5.out (cb_ (Kd.C_below HR0_6.out HB.out)) HC0_6.out A3.out).mono ?_; rintro e w10 ⟨rfl, hb⟩; refine ⟨_, rfl, ?_⟩; replace BK434 := bb_ BK434 hb; replace HB := bp_ hb; (try clear hb)) | ((with_reducible refine gf_ 45 rfl ?_); refine gl_ (some 13) Tryz.func45 #[.string a1] ?_; refine (dK.calls k a1 true _ (gw_ HG.out) A5.out).mono ?_; rintro e w11 ⟨rfl, hb⟩; refine ⟨_, rfl, ?_⟩; replace BK434 := bb_ BK434 hb; replace HB := bp_ hb; (try clear hb); have bz12 := bc7_ BK434) | ((with_reducible refine gf_ 49 rfl ?_); refine gl_ (some 17) Tryz.func49 #[.agg #[.int .i64 a0_0, .int .i64 a0_1, .int .i64 a0_2, .int .i64 a0_3, .int .i64 a0_4, .slice A0_5 l0_5.length c0_5, .slice A0_6 l0_6.length c0_6], .string a1] ?_; refine (fA.calls k a0_0 a0_1 a0_2 a0_3 a0_4 _ _ l0_5 _ _ l0_6 a1 t437 _ (gw_ HG.out) (cb_ (Kd.C_below HR0_5.out HB.out)) HC0_5.out (cb_ (Kd.C_below HR0_6.out HB.out)) HC0_6.out A7.out).mono ?_; rintro e w13 ⟨rfl, hb⟩; refine ⟨_, rfl, ?_⟩; replace BK434 := bb_ BK434 hb; replace HB := bp_ hb; (try clear hb)))
   go_ret2
   exact ⟨er_, bl_⟩
 obtain rfl := bf_ c6
 clear c6
 rw [if_neg ft_] at H
 simp only [Option.some.injEq, Prod.mk.injEq] at H
 obtain ⟨rfl, rfl⟩ := H
 go_enter Tryz.func18, Tryz.ntmps18
 go_wp2_with (first | ((with_reducible refine gn_ 2 rfl ?_); refine bq_ (N := 2) (cs := #[.int .i64 a0_0, .int .i64 a0_1, .int .i64 a0_2, .int .i64 a0_3, .int .i64 a0_4, .slice A0_5 l0_5.length c0_5, .slice A0_6 l0_6.length c0_6]) (t := 25) ?_; intro gb434 hg w14 BK434 hb; have GW434 := ga_ w hg; have GE434 := GW434; replace HB := bp_ hb; clear hb hg; have bz15 := bc7_ BK434) | ((with_reducible refine gf_ 13 rfl ?_); refine gl_ (some 8) Tryz.func13 #[.agg #[.int .i64 a0_0, .int .i64 a0_1, .int .i64 a0_2, .int .i64 a0_3, .int .i64 a0_4, .slice A0_5 l0_5.length c0_5, .slice A0_6 l0_6.length c0_6]] ?_; refine (aN.calls k a0_0 a0_1 a0_2 a0_3 a0_4 _ _ l0_5 _ _ l0_6 t435 _ (gw_ HG.out) (cb_ (Kd.C_below HR0_5.out HB.out)) HC0_5.out (cb_ (Kd.C_below HR0_6.out HB.out)) HC0_6.out A3.out).mono ?_; rintro e w16 ⟨rfl, hb⟩; refine ⟨_, rfl, ?_⟩; replace BK434 := bb_ BK434 hb; replace HB := bp_ hb; (try clear hb)) | ((with_reducible refine gf_ 45 rfl ?_); refine gl_ (some 13) Tryz.func45 #[.string a1] ?_; refine (dK.calls k a1 false _ (gw_ HG.out) A5.out).mono ?_; rintro e w17 ⟨rfl, hb⟩; refine ⟨_, rfl, ?_⟩; replace BK434 := bb_ BK434 hb; replace HB := bp_ hb; (try clear hb)))
 go_ret2
 exact ⟨er_, bl_⟩
def dV.f (k : Nat) (a0_0 : Int) (a0_1 : Int) (a0_2 : Int) (a0_3 : Int) (a0_4 : Int) (l0_5 : List (S66)) (l0_6 : List (S68)) (a1 : ByteArray) (a2 : ByteArray) (a3 : Int) (a4_0 : Int) (a4_1 : Int) : Option (Bool) := (dW.f k a0_0 a0_1 a0_2 a0_3 a0_4 l0_5 l0_6 a1 a2 a3 a4_0 a4_1).bind fun bt440 => ((dA.f k a0_0 a0_1 a0_2 a0_3 a0_4 l0_5 l0_6 a1 a2 a3 a4_0 a4_1).bind fun bt442 => ((fH.f k a0_0 a0_1 a0_2 a0_3 a0_4 l0_5 l0_6 a1).bind fun bt444 => ((dU.f k a0_0 a0_1 a0_2 a0_3 a0_4 l0_5 l0_6 a1).bind fun bt446 => (if bt440.1 = bt442.1 then (if bt440.2 = bt442.2 then (if bt444.1 = bt446.1 then (if bt444.2 = bt446.2 then ((eU.f k).bind fun t448 => (some t448)) else (some false)) else (some false)) else (some false)) else (some false)))))
theorem dV.calls (k : Nat) (a0_0 : Int) (a0_1 : Int) (a0_2 : Int) (a0_3 : Int) (a0_4 : Int) (A0_5 : Option Addr) (c0_5 : Nat) (l0_5 : List (S66)) (A0_6 : Option Addr) (c0_6 : Nat) (l0_6 : List (S68)) (a1 : ByteArray) (a2 : ByteArray) (a3 : Int) (a4_0 : Int) (a4_1 : Int) (r : Bool) (w : World) (hG : Tryz.GW w) (hr0_5 : Kd.C k66 w A0_5 l0_5.length l0_5) (hc0_5 : l0_5.length ≤ c0_5) (hr0_6 : Kd.C k68 w A0_6 l0_6.length l0_6) (hc0_6 : l0_6.length ≤ c0_6) (h : dV.f k a0_0 a0_1 a0_2 a0_3 a0_4 l0_5 l0_6 a1 a2 a3 a4_0 a4_1 = some r) :
 Calls Tryz.prog 5 #[.agg #[.int .i64 a0_0, .int .i64 a0_1, .int .i64 a0_2, .int .i64 a0_3, .int .i64 a0_4, .slice A0_5 l0_5.length c0_5, .slice A0_6 l0_6.length c0_6], .string a1, .string a2, .int .i64 a3, .agg #[.int .i64 a4_0, .int .i64 a4_1]] w fun e w' => e = .returned (.bool r) ∧ Below w.heap.size w w' := by
 have hu25 := Tryz.underlying25
 have hu33 := Tryz.underlying33
 have HR0_5 := am_ hr0_5
 have HC0_5 := am_ hc0_5
 clear hr0_5 hc0_5
 have HR0_6 := am_ hr0_6
 have HC0_6 := am_ hc0_6
 clear hr0_6 hc0_6
 have HG := am_ hG
 clear hG
 have HB := am_ (Below.refl w.heap.size w)
 have H : ((dW.f k a0_0 a0_1 a0_2 a0_3 a0_4 l0_5 l0_6 a1 a2 a3 a4_0 a4_1).bind fun bt440 => ((dA.f k a0_0 a0_1 a0_2 a0_3 a0_4 l0_5 l0_6 a1 a2 a3 a4_0 a4_1).bind fun bt442 => ((fH.f k a0_0 a0_1 a0_2 a0_3 a0_4 l0_5 l0_6 a1).bind fun bt444 => ((dU.f k a0_0 a0_1 a0_2 a0_3 a0_4 l0_5 l0_6 a1).bind fun bt446 => (if bt440.1 = bt442.1 then (if bt440.2 = bt442.2 then (if bt444.1 = bt446.1 then (if bt444.2 = bt446.2 then ((eU.f k).bind fun t448 => (some t448)) else (some false)) else (some false)) else (some false)) else (some false)))))) = some r := h
 clear h
 obtain ⟨⟨t440, t441⟩, A6, H⟩ := bs_ H
 obtain ⟨⟨t442, t443⟩, A7, H⟩ := bs_ H
 obtain ⟨⟨t444, t445⟩, A8, H⟩ := bs_ H
 obtain ⟨⟨t446, t447⟩, A9, H⟩ := bs_ H
 by_cases c10 : t440 = t442
 rotate_left
 · rw [if_neg c10] at H
   have c10b0 : (t440 == t442) = false := beq_eq_false_iff_ne.mpr c10
   have c10b1 : (t440 != t442) = true := bne_iff_ne.mpr c10
   obtain rfl := sj_ H
   go_enter Tryz.func5, Tryz.ntmps5
   go_wp2_with (first | ((with_reducible refine gn_ 5 rfl ?_); refine bq_ (N := 5) (cs := #[.int .i64 a0_0, .int .i64 a0_1, .int .i64 a0_2, .int .i64 a0_3, .int .i64 a0_4, .slice A0_5 l0_5.length c0_5, .slice A0_6 l0_6.length c0_6]) (t := 25) ?_; intro gb438 hg w68 BK438 hb; have GW438 := ga_ w hg; have GE438 := GW438; replace HB := bp_ hb; clear hb hg) | ((with_reducible refine gn_ 9 rfl ?_); refine bq_ (N := 9) (cs := #[.int .i64 a4_0, .int .i64 a4_1]) (t := 33) ?_; intro gb439 hg w69 BK439 hb; have GW439 := ga_ w hg; have GE439 := GW439; have NB438_439 := am_ ((nl_ hg BK438 : gb438 ≠ gb439)); have NB439_438 := am_ ((ng_ hg BK438 : gb439 ≠ gb438)); replace BK438 := bb_ BK438 hb; replace HB := bp_ hb; clear hb hg; have hnb70 := NB438_439.out; have hnc70 := NB439_438.out; have bz71 := bc7_ BK438; have bz72 := bc2_ BK439) | ((with_reducible refine gf_ 15 rfl ?_); refine gl_ (some 25) Tryz.func15 #[.agg #[.int .i64 a0_0, .int .i64 a0_1, .int .i64 a0_2, .int .i64 a0_3, .int .i64 a0_4, .slice A0_5 l0_5.length c0_5, .slice A0_6 l0_6.length c0_6], .string a1, .string a2, .int .i64 a3, .agg #[.int .i64 a4_0, .int .i64 a4_1]] ?_; refine (dW.calls k a0_0 a0_1 a0_2 a0_3 a0_4 _ _ l0_5 _ _ l0_6 a1 a2 a3 a4_0 a4_1 t440 t441 _ (gw_ HG.out) (cb_ (Kd.C_below HR0_5.out HB.out)) HC0_5.out (cb_ (Kd.C_below HR0_6.out HB.out)) HC0_6.out A6.out).mono ?_; rintro e w73 ⟨rfl, hb⟩; refine ⟨_, rfl, ?_⟩; replace BK438 := bb_ BK438 hb; replace BK439 := bb_ BK439 hb; replace HB := bp_ hb; (try clear hb); have bz74 := bc7_ BK438; have bz75 := bc2_ BK439) | ((with_reducible refine gf_ 16 rfl ?_); refine gl_ (some 34) Tryz.func16 #[.agg #[.int .i64 a0_0, .int .i64 a0_1, .int .i64 a0_2, .int .i64 a0_3, .int .i64 a0_4, .slice A0_5 l0_5.length c0_5, .slice A0_6 l0_6.length c0_6], .string a1, .string a2, .int .i64 a3, .agg #[.int .i64 a4_0, .int .i64 a4_1]] ?_; refine (dA.calls k a0_0 a0_1 a0_2 a0_3 a0_4 _ _ l0_5 _ _ l0_6 a1 a2 a3 a4_0 a4_1 t442 t443 _ (gw_ HG.out) (cb_ (Kd.C_below HR0_5.out HB.out)) HC0_5.out (cb_ (Kd.C_below HR0_6.out HB.out)) HC0_6.out A7.out).mono ?_; rintro e w76 ⟨rfl, hb⟩; refine ⟨_, rfl, ?_⟩; replace BK438 := bb_ BK438 hb; replace BK439 := bb_ BK439 hb; replace HB := bp_ hb; (try clear hb); have bz77 := bc7_ BK438) | ((with_reducible refine gf_ 17 rfl ?_); refine gl_ (some 40) Tryz.func17 #[.agg #[.int .i64 a0_0, .int .i64 a0_1, .int .i64 a0_2, .int .i64 a0_3, .int .i64 a0_4, .slice A0_5 l0_5.length c0_5, .slice A0_6 l0_6.length c0_6], .string a1] ?_; refine (fH.calls k a0_0 a0_1 a0_2 a0_3 a0_4 _ _ l0_5 _ _ l0_6 a1 t444 t445 _ (gw_ HG.out) (cb_ (Kd.C_below HR0_5.out HB.out)) HC0_5.out (cb_ (Kd.C_below HR0_6.out HB.out)) HC0_6.out A8.out).mono ?_; rintro e w78 ⟨rfl, hb⟩; refine ⟨_, rfl, ?_⟩; replace BK438 := bb_ BK438 hb; replace BK439 := bb_ BK439 hb; replace HB := bp_ hb; (try clear hb); have bz79 := bc7_ BK438) | ((with_reducible refine gf_ 18 rfl ?_); refine gl_ (some 46) Tryz.func18 #[.agg #[.int .i64 a0_0, .int .i64 a0_1, .int .i64 a0_2, .int .i64 a0_3, .int .i64 a0_4, .slice A0_5 l0_5.length c0_5, .slice A0_6 l0_6.length c0_6], .string a1] ?_; refine (dU.calls k a0_0 a0_1 a0_2 a0_3 a0_4 _ _ l0_5 _ _ l0_6 a1 t446 t447 _ (gw_ HG.out) (cb_ (Kd.C_below HR0_5.out HB.out)) HC0_5.out (cb_ (Kd.C_below HR0_6.out HB.out)) HC0_6.out A9.out).mono ?_; rintro e w80 ⟨rfl, hb⟩; refine ⟨_, rfl, ?_⟩; replace BK438 := bb_ BK438 hb; replace BK439 := bb_ BK439 hb; replace HB := bp_ hb; (try clear hb)))
   go_ret
   exact ⟨er_, bl_⟩
 rw [if_pos c10] at H
 have c10b0 : (t440 == t442) = true := beq_iff_eq.mpr c10
 have c10b1 : (t440 != t442) = false := bne_eq_false_iff_eq.mpr c10
 clear c10
 by_cases c11 : t441 = t443
 rotate_left
 · rw [if_neg c11] at H
   have c11b0 : (t441 == t443) = false := beq_eq_false_iff_ne.mpr c11
   have c11b1 : (t441 != t443) = true := bne_iff_ne.mpr c11
   obtain rfl := sj_ H
   go_enter Tryz.func5, Tryz.ntmps5
   go_wp2_with (first | ((with_reducible refine gn_ 5 rfl ?_); refine bq_ (N := 5) (cs := #[.int .i64 a0_0, .int .i64 a0_1, .int .i64 a0_2, .int .i64 a0_3, .int .i64 a0_4, .slice A0_5 l0_5.length c0_5, .slice A0_6 l0_6.length c0_6]) (t := 25) ?_; intro gb438 hg w55 BK438 hb; have GW438 := ga_ w hg; have GE438 := GW438; replace HB := bp_ hb; clear hb hg) | ((with_reducible refine gn_ 9 rfl ?_); refine bq_ (N := 9) (cs := #[.int .i64 a4_0, .int .i64 a4_1]) (t := 33) ?_; intro gb439 hg w56 BK439 hb; have GW439 := ga_ w hg; have GE439 := GW439; have NB438_439 := am_ ((nl_ hg BK438 : gb438 ≠ gb439)); have NB439_438 := am_ ((ng_ hg BK438 : gb439 ≠ gb438)); replace BK438 := bb_ BK438 hb; replace HB := bp_ hb; clear hb hg; have hnb57 := NB438_439.out; have hnc57 := NB439_438.out; have bz58 := bc7_ BK438; have bz59 := bc2_ BK439) | ((with_reducible refine gf_ 15 rfl ?_); refine gl_ (some 25) Tryz.func15 #[.agg #[.int .i64 a0_0, .int .i64 a0_1, .int .i64 a0_2, .int .i64 a0_3, .int .i64 a0_4, .slice A0_5 l0_5.length c0_5, .slice A0_6 l0_6.length c0_6], .string a1, .string a2, .int .i64 a3, .agg #[.int .i64 a4_0, .int .i64 a4_1]] ?_; refine (dW.calls k a0_0 a0_1 a0_2 a0_3 a0_4 _ _ l0_5 _ _ l0_6 a1 a2 a3 a4_0 a4_1 t440 t441 _ (gw_ HG.out) (cb_ (Kd.C_below HR0_5.out HB.out)) HC0_5.out (cb_ (Kd.C_below HR0_6.out HB.out)) HC0_6.out A6.out).mono ?_; rintro e w60 ⟨rfl, hb⟩; refine ⟨_, rfl, ?_⟩; replace BK438 := bb_ BK438 hb; replace BK439 := bb_ BK439 hb; replace HB := bp_ hb; (try clear hb); have bz61 := bc7_ BK438; have bz62 := bc2_ BK439) | ((with_reducible refine gf_ 16 rfl ?_); refine gl_ (some 34) Tryz.func16 #[.agg #[.int .i64 a0_0, .int .i64 a0_1, .int .i64 a0_2, .int .i64 a0_3, .int .i64 a0_4, .slice A0_5 l0_5.length c0_5, .slice A0_6 l0_6.length c0_6], .string a1, .string a2, .int .i64 a3, .agg #[.int .i64 a4_0, .int .i64 a4_1]] ?_; refine (dA.calls k a0_0 a0_1 a0_2 a0_3 a0_4 _ _ l0_5 _ _ l0_6 a1 a2 a3 a4_0 a4_1 t442 t443 _ (gw_ HG.out) (cb_ (Kd.C_below HR0_5.out HB.out)) HC0_5.out (cb_ (Kd.C_below HR0_6.out HB.out)) HC0_6.out A7.out).mono ?_; rintro e w63 ⟨rfl, hb⟩; refine ⟨_, rfl, ?_⟩; replace BK438 := bb_ BK438 hb; replace BK439 := bb_ BK439 hb; replace HB := bp_ hb; (try clear hb); have bz64 := bc7_ BK438) | ((with_reducible refine gf_ 17 rfl ?_); refine gl_ (some 40) Tryz.func17 #[.agg #[.int .i64 a0_0, .int .i64 a0_1, .int .i64 a0_2, .int .i64 a0_3, .int .i64 a0_4, .slice A0_5 l0_5.length c0_5, .slice A0_6 l0_6.length c0_6], .string a1] ?_; refine (fH.calls k a0_0 a0_1 a0_2 a0_3 a0_4 _ _ l0_5 _ _ l0_6 a1 t444 t445 _ (gw_ HG.out) (cb_ (Kd.C_below HR0_5.out HB.out)) HC0_5.out (cb_ (Kd.C_below HR0_6.out HB.out)) HC0_6.out A8.out).mono ?_; rintro e w65 ⟨rfl, hb⟩; refine ⟨_, rfl, ?_⟩; replace BK438 := bb_ BK438 hb; replace BK439 := bb_ BK439 hb; replace HB := bp_ hb; (try clear hb); have bz66 := bc7_ BK438) | ((with_reducible refine gf_ 18 rfl ?_); refine gl_ (some 46) Tryz.func18 #[.agg #[.int .i64 a0_0, .int .i64 a0_1, .int .i64 a0_2, .int .i64 a0_3, .int .i64 a0_4, .slice A0_5 l0_5.length c0_5, .slice A0_6 l0_6.length c0_6], .string a1] ?_; refine (dU.calls k a0_0 a0_1 a0_2 a0_3 a0_4 _ _ l0_5 _ _ l0_6 a1 t446 t447 _ (gw_ HG.out) (cb_ (Kd.C_below HR0_5.out HB.out)) HC0_5.out (cb_ (Kd.C_below HR0_6.out HB.out)) HC0_6.out A9.out).mono ?_; rintro e w67 ⟨rfl, hb⟩; refine ⟨_, rfl, ?_⟩; replace BK438 := bb_ BK438 hb; replace BK439 := bb_ BK439 hb; replace HB := bp_ hb; (try clear hb)))
   go_ret
   exact ⟨er_, bl_⟩
 rw [if_pos c11] at H
 have c11b0 : (t441 == t443) = true := beq_iff_eq.mpr c11
 have c11b1 : (t441 != t443) = false := bne_eq_false_iff_eq.mpr c11
 clear c11
 by_cases c12 : t444 = t446
 rotate_left
 · rw [if_neg c12] at H
   have c12b0 : (t444 == t446) = false := beq_eq_false_iff_ne.mpr c12
   have c12b1 : (t444 != t446) = true := bne_iff_ne.mpr c12
   obtain rfl := sj_ H
   go_enter Tryz.func5, Tryz.ntmps5
   go_wp2_with (first | ((with_reducible refine gn_ 5 rfl ?_); refine bq_ (N := 5) (cs := #[.int .i64 a0_0, .int .i64 a0_1, .int .i64 a0_2, .int .i64 a0_3, .int .i64 a0_4, .slice A0_5 l0_5.length c0_5, .slice A0_6 l0_6.length c0_6]) (t := 25) ?_; intro gb438 hg w42 BK438 hb; have GW438 := ga_ w hg; have GE438 := GW438; replace HB := bp_ hb; clear hb hg) | ((with_reducible refine gn_ 9 rfl ?_); refine bq_ (N := 9) (cs := #[.int .i64 a4_0, .int .i64 a4_1]) (t := 33) ?_; intro gb439 hg w43 BK439 hb; have GW439 := ga_ w hg; have GE439 := GW439; have NB438_439 := am_ ((nl_ hg BK438 : gb438 ≠ gb439)); have NB439_438 := am_ ((ng_ hg BK438 : gb439 ≠ gb438)); replace BK438 := bb_ BK438 hb; replace HB := bp_ hb; clear hb hg; have hnb44 := NB438_439.out; have hnc44 := NB439_438.out; have bz45 := bc7_ BK438; have bz46 := bc2_ BK439) | ((with_reducible refine gf_ 15 rfl ?_); refine gl_ (some 25) Tryz.func15 #[.agg #[.int .i64 a0_0, .int .i64 a0_1, .int .i64 a0_2, .int .i64 a0_3, .int .i64 a0_4, .slice A0_5 l0_5.length c0_5, .slice A0_6 l0_6.length c0_6], .string a1, .string a2, .int .i64 a3, .agg #[.int .i64 a4_0, .int .i64 a4_1]] ?_; refine (dW.calls k a0_0 a0_1 a0_2 a0_3 a0_4 _ _ l0_5 _ _ l0_6 a1 a2 a3 a4_0 a4_1 t440 t441 _ (gw_ HG.out) (cb_ (Kd.C_below HR0_5.out HB.out)) HC0_5.out (cb_ (Kd.C_below HR0_6.out HB.out)) HC0_6.out A6.out).mono ?_; rintro e w47 ⟨rfl, hb⟩; refine ⟨_, rfl, ?_⟩; replace BK438 := bb_ BK438 hb; replace BK439 := bb_ BK439 hb; replace HB := bp_ hb; (try clear hb); have bz48 := bc7_ BK438; have bz49 := bc2_ BK439) | ((with_reducible refine gf_ 16 rfl ?_); refine gl_ (some 34) Tryz.func16 #[.agg #[.int .i64 a0_0, .int .i64 a0_1, .int .i64 a0_2, .int .i64 a0_3, .int .i64 a0_4, .slice A0_5 l0_5.length c0_5, .slice A0_6 l0_6.length c0_6], .string a1, .string a2, .int .i64 a3, .agg #[.int .i64 a4_0, .int .i64 a4_1]] ?_; refine (dA.calls k a0_0 a0_1 a0_2 a0_3 a0_4 _ _ l0_5 _ _ l0_6 a1 a2 a3 a4_0 a4_1 t442 t443 _ (gw_ HG.out) (cb_ (Kd.C_below HR0_5.out HB.out)) HC0_5.out (cb_ (Kd.C_below HR0_6.out HB.out)) HC0_6.out A7.out).mono ?_; rintro e w50 ⟨rfl, hb⟩; refine ⟨_, rfl, ?_⟩; replace BK438 := bb_ BK438 hb; replace BK439 := bb_ BK439 hb; replace HB := bp_ hb; (try clear hb); have bz51 := bc7_ BK438) | ((with_reducible refine gf_ 17 rfl ?_); refine gl_ (some 40) Tryz.func17 #[.agg #[.int .i64 a0_0, .int .i64 a0_1, .int .i64 a0_2, .int .i64 a0_3, .int .i64 a0_4, .slice A0_5 l0_5.length c0_5, .slice A0_6 l0_6.length c0_6], .string a1] ?_; refine (fH.calls k a0_0 a0_1 a0_2 a0_3 a0_4 _ _ l0_5 _ _ l0_6 a1 t444 t445 _ (gw_ HG.out) (cb_ (Kd.C_below HR0_5.out HB.out)) HC0_5.out (cb_ (Kd.C_below HR0_6.out HB.out)) HC0_6.out A8.out).mono ?_; rintro e w52 ⟨rfl, hb⟩; refine ⟨_, rfl, ?_⟩; replace BK438 := bb_ BK438 hb; replace BK439 := bb_ BK439 hb; replace HB := bp_ hb; (try clear hb); have bz53 := bc7_ BK438) | ((with_reducible refine gf_ 18 rfl ?_); refine gl_ (some 46) Tryz.func18 #[.agg #[.int .i64 a0_0, .int .i64 a0_1, .int .i64 a0_2, .int .i64 a0_3, .int .i64 a0_4, .slice A0_5 l0_5.length c0_5, .slice A0_6 l0_6.length c0_6], .string a1] ?_; refine (dU.calls k a0_0 a0_1 a0_2 a0_3 a0_4 _ _ l0_5 _ _ l0_6 a1 t446 t447 _ (gw_ HG.out) (cb_ (Kd.C_below HR0_5.out HB.out)) HC0_5.out (cb_ (Kd.C_below HR0_6.out HB.out)) HC0_6.out A9.out).mono ?_; rintro e w54 ⟨rfl, hb⟩; refine ⟨_, rfl, ?_⟩; replace BK438 := bb_ BK438 hb; replace BK439 := bb_ BK439 hb; replace HB := bp_ hb; (try clear hb)))
   go_ret
   exact ⟨er_, bl_⟩
 rw [if_pos c12] at H
 have c12b0 : (t444 == t446) = true := beq_iff_eq.mpr c12
 have c12b1 : (t444 != t446) = false := bne_eq_false_iff_eq.mpr c12
 clear c12
 by_cases c13 : t445 = t447
 · rw [if_pos c13] at H
   have c13b0 : (t445 == t447) = true := beq_iff_eq.mpr c13
   have c13b1 : (t445 != t447) = false := bne_eq_false_iff_eq.mpr c13
   clear c13
   obtain ⟨t448, A14, H⟩ := bs_ H
   obtain rfl := sj_ H
   go_enter Tryz.func5, Tryz.ntmps5
   go_wp2_with (first | ((with_reducible refine gn_ 5 rfl ?_); refine bq_ (N := 5) (cs := #[.int .i64 a0_0, .int .i64 a0_1, .int .i64 a0_2, .int .i64 a0_3, .int .i64 a0_4, .slice A0_5 l0_5.length c0_5, .slice A0_6 l0_6.length c0_6]) (t := 25) ?_; intro gb438 hg w15 BK438 hb; have GW438 := ga_ w hg; have GE438 := GW438; replace HB := bp_ hb; clear hb hg) | ((with_reducible refine gn_ 9 rfl ?_); refine bq_ (N := 9) (cs := #[.int .i64 a4_0, .int .i64 a4_1]) (t := 33) ?_; intro gb439 hg w16 BK439 hb; have GW439 := ga_ w hg; have GE439 := GW439; have NB438_439 := am_ ((nl_ hg BK438 : gb438 ≠ gb439)); have NB439_438 := am_ ((ng_ hg BK438 : gb439 ≠ gb438)); replace BK438 := bb_ BK438 hb; replace HB := bp_ hb; clear hb hg; have hnb17 := NB438_439.out; have hnc17 := NB439_438.out; have bz18 := bc7_ BK438; have bz19 := bc2_ BK439) | ((with_reducible refine gf_ 15 rfl ?_); refine gl_ (some 25) Tryz.func15 #[.agg #[.int .i64 a0_0, .int .i64 a0_1, .int .i64 a0_2, .int .i64 a0_3, .int .i64 a0_4, .slice A0_5 l0_5.length c0_5, .slice A0_6 l0_6.length c0_6], .string a1, .string a2, .int .i64 a3, .agg #[.int .i64 a4_0, .int .i64 a4_1]] ?_; refine (dW.calls k a0_0 a0_1 a0_2 a0_3 a0_4 _ _ l0_5 _ _ l0_6 a1 a2 a3 a4_0 a4_1 t440 t441 _ (gw_ HG.out) (cb_ (Kd.C_below HR0_5.out HB.out)) HC0_5.out (cb_ (Kd.C_below HR0_6.out HB.out)) HC0_6.out A6.out).mono ?_; rintro e w20 ⟨rfl, hb⟩; refine ⟨_, rfl, ?_⟩; replace BK438 := bb_ BK438 hb; replace BK439 := bb_ BK439 hb; replace HB := bp_ hb; (try clear hb); have bz21 := bc7_ BK438; have bz22 := bc2_ BK439) | ((with_reducible refine gf_ 16 rfl ?_); refine gl_ (some 34) Tryz.func16 #[.agg #[.int .i64 a0_0, .int .i64 a0_1, .int .i64 a0_2, .int .i64 a0_3, .int .i64 a0_4, .slice A0_5 l0_5.length c0_5, .slice A0_6 l0_6.length c0_6], .string a1, .string a2, .int .i64 a3, .agg #[.int .i64 a4_0, .int .i64 a4_1]] ?_; refine (dA.calls k a0_0 a0_1 a0_2 a0_3 a0_4 _ _ l0_5 _ _ l0_6 a1 a2 a3 a4_0 a4_1 t442 t443 _ (gw_ HG.out) (cb_ (Kd.C_below HR0_5.out HB.out)) HC0_5.out (cb_ (Kd.C_below HR0_6.out HB.out)) HC0_6.out A7.out).mono ?_; rintro e w23 ⟨rfl, hb⟩; refine ⟨_, rfl, ?_⟩; replace BK438 := bb_ BK438 hb; replace BK439 := bb_ BK439 hb; replace HB := bp_ hb; (try clear hb); have bz24 := bc7_ BK438) | ((with_reducible refine gf_ 17 rfl ?_); refine gl_ (some 40) Tryz.func17 #[.agg #[.int .i64 a0_0, .int .i64 a0_1, .int .i64 a0_2, .int .i64 a0_3, .int .i64 a0_4, .slice A0_5 l0_5.length c0_5, .slice A0_6 l0_6.length c0_6], .string a1] ?_; refine (fH.calls k a0_0 a0_1 a0_2 a0_3 a0_4 _ _ l0_5 _ _ l0_6 a1 t444 t445 _ (gw_ HG.out) (cb_ (Kd.C_below HR0_5.out HB.out)) HC0_5.out (cb_ (Kd.C_below HR0_6.out HB.out)) HC0_6.out A8.out).mono ?_; rintro e w25 ⟨rfl, hb⟩; refine ⟨_, rfl, ?_⟩; replace BK438 := bb_ BK438 hb; replace BK439 := bb_ BK439 hb; replace HB := bp_ hb; (try clear hb); have bz26 := bc7_ BK438) | ((with_reducible refine gf_ 18 rfl ?_); refine gl_ (some 46) Tryz.func18 #[.agg #[.int .i64 a0_0, .int .i64 a0_1, .int .i64 a0_2, .int .i64 a0_3, .int .i64 a0_4, .slice A0_5 l0_5.length c0_5, .slice A0_6 l0_6.length c0_6], .string a1] ?_; refine (dU.calls k a0_0 a0_1 a0_2 a0_3 a0_4 _ _ l0_5 _ _ l0_6 a1 t446 t447 _ (gw_ HG.out) (cb_ (Kd.C_below HR0_5.out HB.out)) HC0_5.out (cb_ (Kd.C_below HR0_6.out HB.out)) HC0_6.out A9.out).mono ?_; rintro e w27 ⟨rfl, hb⟩; refine ⟨_, rfl, ?_⟩; replace BK438 := bb_ BK438 hb; replace BK439 := bb_ BK439 hb; replace HB := bp_ hb; (try clear hb)) | (go_at_call 14; refine (eU.calls k  t448 _ (gw_ HG.out) A14.out).mono ?_; rintro e w28 ⟨rfl, hb⟩; replace BK438 := bb_ BK438 hb; replace BK439 := bb_ BK439 hb; replace HB := bp_ hb; (try clear hb)))
   go_ret
   exact ⟨er_, bl_⟩
 rw [if_neg c13] at H
 have c13b0 : (t445 == t447) = false := beq_eq_false_iff_ne.mpr c13
 have c13b1 : (t445 != t447) = true := bne_iff_ne.mpr c13
 obtain rfl := sj_ H
 go_enter Tryz.func5, Tryz.ntmps5
 go_wp2_with (first | ((with_reducible refine gn_ 5 rfl ?_); refine bq_ (N := 5) (cs := #[.int .i64 a0_0, .int .i64 a0_1, .int .i64 a0_2, .int .i64 a0_3, .int .i64 a0_4, .slice A0_5 l0_5.length c0_5, .slice A0_6 l0_6.length c0_6]) (t := 25) ?_; intro gb438 hg w29 BK438 hb; have GW438 := ga_ w hg; have GE438 := GW438; replace HB := bp_ hb; clear hb hg) | ((with_reducible refine gn_ 9 rfl ?_); refine bq_ (N := 9) (cs := #[.int .i64 a4_0, .int .i64 a4_1]) (t := 33) ?_; intro gb439 hg w30 BK439 hb; have GW439 := ga_ w hg; have GE439 := GW439; have NB438_439 := am_ ((nl_ hg BK438 : gb438 ≠ gb439)); have NB439_438 := am_ ((ng_ hg BK438 : gb439 ≠ gb438)); replace BK438 := bb_ BK438 hb; replace HB := bp_ hb; clear hb hg; have hnb31 := NB438_439.out; have hnc31 := NB439_438.out; have bz32 := bc7_ BK438; have bz33 := bc2_ BK439) | ((with_reducible refine gf_ 15 rfl ?_); refine gl_ (some 25) Tryz.func15 #[.agg #[.int .i64 a0_0, .int .i64 a0_1, .int .i64 a0_2, .int .i64 a0_3, .int .i64 a0_4, .slice A0_5 l0_5.length c0_5, .slice A0_6 l0_6.length c0_6], .string a1, .string a2, .int .i64 a3, .agg #[.int .i64 a4_0, .int .i64 a4_1]] ?_; refine (dW.calls k a0_0 a0_1 a0_2 a0_3 a0_4 _ _ l0_5 _ _ l0_6 a1 a2 a3 a4_0 a4_1 t440 t441 _ (gw_ HG.out) (cb_ (Kd.C_below HR0_5.out HB.out)) HC0_5.out (cb_ (Kd.C_below HR0_6.out HB.out)) HC0_6.out A6.out).mono ?_; rintro e w34 ⟨rfl, hb⟩; refine ⟨_, rfl, ?_⟩; replace BK438 := bb_ BK438 hb; replace BK439 := bb_ BK439 hb; replace HB := bp_ hb; (try clear hb); have bz35 := bc7_ BK438; have bz36 := bc2_ BK439) | ((with_reducible refine gf_ 16 rfl ?_); refine gl_ (some 34) Tryz.func16 #[.agg #[.int .i64 a0_0, .int .i64 a0_1, .int .i64 a0_2, .int .i64 a0_3, .int .i64 a0_4, .slice A0_5 l0_5.length c0_5, .slice A0_6 l0_6.length c0_6], .string a1, .string a2, .int .i64 a3, .agg #[.int .i64 a4_0, .int .i64 a4_1]] ?_; refine (dA.calls k a0_0 a0_1 a0_2 a0_3 a0_4 _ _ l0_5 _ _ l0_6 a1 a2 a3 a4_0 a4_1 t442 t443 _ (gw_ HG.out) (cb_ (Kd.C_below HR0_5.out HB.out)) HC0_5.out (cb_ (Kd.C_below HR0_6.out HB.out)) HC0_6.out A7.out).mono ?_; rintro e w37 ⟨rfl, hb⟩; refine ⟨_, rfl, ?_⟩; replace BK438 := bb_ BK438 hb; replace BK439 := bb_ BK439 hb; replace HB := bp_ hb; (try clear hb); have bz38 := bc7_ BK438) | ((with_reducible refine gf_ 17 rfl ?_); refine gl_ (some 40) Tryz.func17 #[.agg #[.int .i64 a0_0, .int .i64 a0_1, .int .i64 a0_2, .int .i64 a0_3, .int .i64 a0_4, .slice A0_5 l0_5.length c0_5, .slice A0_6 l0_6.length c0_6], .string a1] ?_; refine (fH.calls k a0_0 a0_1 a0_2 a0_3 a0_4 _ _ l0_5 _ _ l0_6 a1 t444 t445 _ (gw_ HG.out) (cb_ (Kd.C_below HR0_5.out HB.out)) HC0_5.out (cb_ (Kd.C_below HR0_6.out HB.out)) HC0_6.out A8.out).mono ?_; rintro e w39 ⟨rfl, hb⟩; refine ⟨_, rfl, ?_⟩; replace BK438 := bb_ BK438 hb; replace BK439 := bb_ BK439 hb; replace HB := bp_ hb; (try clear hb); have bz40 := bc7_ BK438) | ((with_reducible refine gf_ 18 rfl ?_); refine gl_ (some 46) Tryz.func18 #[.agg #[.int .i64 a0_0, .int .i64 a0_1, .int .i64 a0_2, .int .i64 a0_3, .int .i64 a0_4, .slice A0_5 l0_5.length c0_5, .slice A0_6 l0_6.length c0_6], .string a1] ?_; refine (dU.calls k a0_0 a0_1 a0_2 a0_3 a0_4 _ _ l0_5 _ _ l0_6 a1 t446 t447 _ (gw_ HG.out) (cb_ (Kd.C_below HR0_5.out HB.out)) HC0_5.out (cb_ (Kd.C_below HR0_6.out HB.out)) HC0_6.out A9.out).mono ?_; rintro e w41 ⟨rfl, hb⟩; refine ⟨_, rfl, ?_⟩; replace BK438 := bb_ BK438 hb; replace BK439 := bb_ BK439 hb; replace HB := bp_ hb; (try clear hb)))
 go_ret
 exact ⟨er_, bl_⟩
end Go.Proofs.YthkeonbmgcphkaaGreatDoor.PN
