import Derived.Test.YthkeonbmgcphkaaGreatDoorFg6
import Derived.Test.YthkeonbmgcphkaaGreatDoorFg8
import Derived.Test.YthkeonbmgcphkaaGreatDoorFg15
import Derived.Test.YthkeonbmgcphkaaGreatDoorFg16
import Derived.Test.YthkeonbmgcphkaaGreatDoorFg18
import Derived.Test.YthkeonbmgcphkaaGreatDoorFg3
namespace Go.Proofs.YthkeonbmgcphkaaGreatDoor.PN
open Go.RowKit Go.Proofs.YthkeonbmgcphkaaGreatDoorW.PrintWords Go.Proofs.YthkeonbmgcphkaaGreatDoorW.PrintLast Go.Proofs.YthkeonbmgcphkaaGreatDoorW.PrintMore
attribute [local go_sem] max2_int min2_int max_two min_two max_three min_three max_four min_four
set_option linter.unusedVariables false
set_option maxHeartbeats 8000000
set_option maxRecDepth 100000
set_option linter.unusedSimpArgs false
def dW.j0 : Nat → ByteArray → ByteArray → Int → Bool → Int → Int → Int → Int → Int → List (S66) → List (S68) → Int → Int → Option (Int × Int)
 | 0, _, _, _, _, _, _, _, _, _, _, _, _, _ => none
 | k + 1, x1, x2, x3, x25, x233000, x233001, x233002, x233003, x233004, x233005, x233006, x234000, x234001 => if x25 = true then (some (0, 5)) else ((dX.f x3 0 15).bind fun t237 => (if t237 = true then ((gB.f x234000 x234001).bind fun t238 => (if t238 = true then ((dN.f k x233000 x233001 x233002 x233003 x233004 x233005 x233006 x1 x2 x3 x234000 x234001).bind fun t239 => (some (t239, 0))) else (some (0, 1)))) else (some (0, 1))))
def dW.f (k : Nat) (a0_0 : Int) (a0_1 : Int) (a0_2 : Int) (a0_3 : Int) (a0_4 : Int) (l0_5 : List (S66)) (l0_6 : List (S68)) (a1 : ByteArray) (a2 : ByteArray) (a3 : Int) (a4_0 : Int) (a4_1 : Int) : Option (Int × Int) := (bQ.f k a0_0 a0_1 a0_2 a0_3 a0_4 l0_5 l0_6).bind fun t234 => (if t234 = 0 then ((eP.f k a1).bind fun t235 => (if t235 = true then ((eP.f k a2).bind fun t236 => (dW.j0 k a1 a2 a3 (!t236) a0_0 a0_1 a0_2 a0_3 a0_4 l0_5 l0_6 a4_0 a4_1)) else (dW.j0 k a1 a2 a3 true a0_0 a0_1 a0_2 a0_3 a0_4 l0_5 l0_6 a4_0 a4_1))) else (some (0, t234)))
theorem dW.calls (k : Nat) (a0_0 : Int) (a0_1 : Int) (a0_2 : Int) (a0_3 : Int) (a0_4 : Int) (A0_5 : Option Addr) (c0_5 : Nat) (l0_5 : List (S66)) (A0_6 : Option Addr) (c0_6 : Nat) (l0_6 : List (S68)) (a1 : ByteArray) (a2 : ByteArray) (a3 : Int) (a4_0 : Int) (a4_1 : Int) (r1 : Int) (r2 : Int) (w : World) (hG : Tryz.GW w) (hr0_5 : Kd.C k66 w A0_5 l0_5.length l0_5) (hc0_5 : l0_5.length ≤ c0_5) (hr0_6 : Kd.C k68 w A0_6 l0_6.length l0_6) (hc0_6 : l0_6.length ≤ c0_6) (h : dW.f k a0_0 a0_1 a0_2 a0_3 a0_4 l0_5 l0_6 a1 a2 a3 a4_0 a4_1 = some (r1, r2)) :
 Calls Tryz.prog 15 #[.agg #[.int .i64 a0_0, .int .i64 a0_1, .int .i64 a0_2, .int .i64 a0_3, .int .i64 a0_4, .slice A0_5 l0_5.length c0_5, .slice A0_6 l0_6.length c0_6], .string a1, .string a2, .int .i64 a3, .agg #[.int .i64 a4_0, .int .i64 a4_1]] w fun e w' => e = .returned (.tuple #[.int .i64 r1, .int .i64 r2]) ∧ Below w.heap.size w w' := by
 have hu25 := Tryz.underlying25
 have hu33 := Tryz.underlying33
 have HR0_5 := am_ hr0_5
 have HC0_5 := am_ hc0_5
 clear hr0_5 hc0_5
 have HR0_6 := am_ hr0_6
 have HC0_6 := am_ hc0_6
 clear hr0_6 hc0_6
 have HG := am_ hG
 clear hG
 have HB := am_ (Below.refl w.heap.size w)
 have H : ((bQ.f k a0_0 a0_1 a0_2 a0_3 a0_4 l0_5 l0_6).bind fun t234 => (if t234 = 0 then ((eP.f k a1).bind fun t235 => (if t235 = true then ((eP.f k a2).bind fun t236 => (dW.j0 k a1 a2 a3 (!t236) a0_0 a0_1 a0_2 a0_3 a0_4 l0_5 l0_6 a4_0 a4_1)) else (dW.j0 k a1 a2 a3 true a0_0 a0_1 a0_2 a0_3 a0_4 l0_5 l0_6 a4_0 a4_1))) else (some (0, t234)))) = some (r1, r2) := h
 clear h
 obtain ⟨t234, A6, H⟩ := bs_ H
 by_cases c7 : t234 = 0
 rotate_left
 · rw [if_neg c7] at H
   have c7b0 : (t234 == 0) = false := beq_eq_false_iff_ne.mpr c7
   have c7b1 : (t234 != 0) = true := bne_iff_ne.mpr c7
   simp only [Option.some.injEq, Prod.mk.injEq] at H
   obtain ⟨rfl, rfl⟩ := H
   go_enter Tryz.func15, Tryz.ntmps15
   go_wp2_with (first | ((with_reducible refine gn_ 5 rfl ?_); refine bq_ (N := 5) (cs := #[.int .i64 a0_0, .int .i64 a0_1, .int .i64 a0_2, .int .i64 a0_3, .int .i64 a0_4, .slice A0_5 l0_5.length c0_5, .slice A0_6 l0_6.length c0_6]) (t := 25) ?_; intro gb232 hg w35 BK232 hb; have GW232 := ga_ w hg; have GE232 := GW232; replace HB := bp_ hb; clear hb hg) | ((with_reducible refine gn_ 9 rfl ?_); refine bq_ (N := 9) (cs := #[.int .i64 a4_0, .int .i64 a4_1]) (t := 33) ?_; intro gb233 hg w36 BK233 hb; have GW233 := ga_ w hg; have GE233 := GW233; have NB232_233 := am_ ((nl_ hg BK232 : gb232 ≠ gb233)); have NB233_232 := am_ ((ng_ hg BK232 : gb233 ≠ gb232)); replace BK232 := bb_ BK232 hb; replace HB := bp_ hb; clear hb hg; have hnb37 := NB232_233.out; have hnc37 := NB233_232.out; have bz38 := bc7_ BK232) | ((with_reducible refine gf_ 12 rfl ?_); refine gl_ (some 14) Tryz.func12 #[.agg #[.int .i64 a0_0, .int .i64 a0_1, .int .i64 a0_2, .int .i64 a0_3, .int .i64 a0_4, .slice A0_5 l0_5.length c0_5, .slice A0_6 l0_6.length c0_6]] ?_; refine (bQ.calls k a0_0 a0_1 a0_2 a0_3 a0_4 _ _ l0_5 _ _ l0_6 t234 _ (gw_ HG.out) (cb_ (Kd.C_below HR0_5.out HB.out)) HC0_5.out (cb_ (Kd.C_below HR0_6.out HB.out)) HC0_6.out A6.out).mono ?_; rintro e w39 ⟨rfl, hb⟩; refine ⟨_, rfl, ?_⟩; replace BK232 := bb_ BK232 hb; replace BK233 := bb_ BK233 hb; replace HB := bp_ hb; (try clear hb)))
   go_ret2
   exact ⟨er_, bl_⟩
 rw [if_pos c7] at H
 have c7b0 : (t234 == 0) = true := beq_iff_eq.mpr c7
 have c7b1 : (t234 != 0) = false := bne_eq_false_iff_eq.mpr c7
 clear c7
 have HC8 := am_ H
 clear H
 go_enter Tryz.func15, Tryz.ntmps15
 go_upto_region 4 with (first | ((with_reducible refine gn_ 5 rfl ?_); refine bq_ (N := 5) (cs := #[.int .i64 a0_0, .int .i64 a0_1, .int .i64 a0_2, .int .i64 a0_3, .int .i64 a0_4, .slice A0_5 l0_5.length c0_5, .slice A0_6 l0_6.length c0_6]) (t := 25) ?_; intro gb232 hg w9 BK232 hb; have GW232 := ga_ w hg; have GE232 := GW232; replace HB := bp_ hb; clear hb hg) | ((with_reducible refine gn_ 9 rfl ?_); refine bq_ (N := 9) (cs := #[.int .i64 a4_0, .int .i64 a4_1]) (t := 33) ?_; intro gb233 hg w10 BK233 hb; have GW233 := ga_ w hg; have GE233 := GW233; have NB232_233 := am_ ((nl_ hg BK232 : gb232 ≠ gb233)); have NB233_232 := am_ ((ng_ hg BK232 : gb233 ≠ gb232)); replace BK232 := bb_ BK232 hb; replace HB := bp_ hb; clear hb hg; have hnb11 := NB232_233.out; have hnc11 := NB233_232.out; have bz12 := bc7_ BK232) | ((with_reducible refine gf_ 12 rfl ?_); refine gl_ (some 14) Tryz.func12 #[.agg #[.int .i64 a0_0, .int .i64 a0_1, .int .i64 a0_2, .int .i64 a0_3, .int .i64 a0_4, .slice A0_5 l0_5.length c0_5, .slice A0_6 l0_6.length c0_6]] ?_; refine (bQ.calls k a0_0 a0_1 a0_2 a0_3 a0_4 _ _ l0_5 _ _ l0_6 t234 _ (gw_ HG.out) (cb_ (Kd.C_below HR0_5.out HB.out)) HC0_5.out (cb_ (Kd.C_below HR0_6.out HB.out)) HC0_6.out A6.out).mono ?_; rintro e w13 ⟨rfl, hb⟩; refine ⟨_, rfl, ?_⟩; replace BK232 := bb_ BK232 hb; replace BK233 := bb_ BK233 hb; replace HB := bp_ hb; (try clear hb)))
 (try simp only [Act.put, List.setIfInBounds_toArray, List.set_cons_zero, List.set_cons_succ])
 go_cut [25] (fun v25 wc => ∃ (kq : Nat) (x25_7 : Bool), v25 = .bool x25_7 ∧ Aside0 (dW.j0 kq a1 a2 a3 x25_7 a0_0 a0_1 a0_2 a0_3 a0_4 l0_5 l0_6 a4_0 a4_1 = some (r1, r2)) ∧ Aside0 (kq ≤ k) ∧ Aside0 (wc.heap[gb232]? = some (.cells #[.int .i64 a0_0, .int .i64 a0_1, .int .i64 a0_2, .int .i64 a0_3, .int .i64 a0_4, (.slice A0_5 l0_5.length c0_5), (.slice A0_6 l0_6.length c0_6)] 25 (0, 0))) ∧ Aside0 (wc.heap[gb233]? = some (.cells #[.int .i64 a4_0, .int .i64 a4_1] 33 (0, 0))) ∧ Aside0 (Below w.heap.size w wc))
 case first =>
  have H := HC8.out
  clear HC8
  obtain ⟨t235, A14, H⟩ := bs_ H
  by_cases c15 : t235 = true
  · subst c15
    rw [if_pos rfl] at H
    obtain ⟨t236, A16, H⟩ := bs_ H
    replace H := am_ H
    go_wp2_with (first | ((with_reducible refine gf_ 42 rfl ?_); refine gl_ (some 19) Tryz.func42 #[.string a1] ?_; refine (eP.calls k a1 true _ (gw_ HG.out) A14.out).mono ?_; rintro e w17 ⟨rfl, hb⟩; refine ⟨_, rfl, ?_⟩; replace BK232 := bb_ BK232 hb; replace BK233 := bb_ BK233 hb; replace HB := bp_ hb; (try clear hb)) | (go_at_call 42; refine (eP.calls k a2 t236 _ (gw_ HG.out) A16.out).mono ?_; rintro e w18 ⟨rfl, hb⟩; replace BK232 := bb_ BK232 hb; replace BK233 := bb_ BK233 hb; replace HB := bp_ hb; (try clear hb)))
    go_meet
    case rel => exact ⟨_, (!t236), ra_, H, ⟨by first | omega | exact Nat.le_refl _⟩, ⟨bk_ BK232⟩, ⟨bk_ BK233⟩, ⟨bl_⟩⟩
  obtain rfl := bf_ c15
  clear c15
  rw [if_neg ft_] at H
  replace H := am_ H
  go_wp2_with (first | ((with_reducible refine gf_ 42 rfl ?_); refine gl_ (some 19) Tryz.func42 #[.string a1] ?_; refine (eP.calls k a1 false _ (gw_ HG.out) A14.out).mono ?_; rintro e w19 ⟨rfl, hb⟩; refine ⟨_, rfl, ?_⟩; replace BK232 := bb_ BK232 hb; replace BK233 := bb_ BK233 hb; replace HB := bp_ hb; (try clear hb)))
  go_meet
  case rel => exact ⟨_, (true), ra_, H, ⟨by first | omega | exact Nat.le_refl _⟩, ⟨bk_ BK232⟩, ⟨bk_ BK233⟩, ⟨bl_⟩⟩
 case rest =>
  clear HC8
  try clear c1
  try clear p2
  try clear c4
  try clear c7
  try clear c7b0
  try clear c7b1
  try clear c11
  try clear c12
  try clear c15
  try clear hcz12_0 hcz12_1 hcz12_2 hcz12_3 hcz12_4 hcz12_5 hcz12_6 hfz12_0 hfz12_1 hfz12_2 hfz12_3 hfz12_4 hfz12_5 hfz12_6
  obtain ⟨kq, x25_7, rfl, HA, HJ7, BK232, BK233, HB⟩ := hcut
  cases kq with
  | zero => exact absurd HA.out (by simp [dW.j0])
  | succ kj7 =>
   have H := HA.out
   clear HA
   simp only [dW.j0] at H
   by_cases c20 : x25_7 = true
   · subst c20
     rw [if_pos rfl] at H
     simp only [Option.some.injEq, Prod.mk.injEq] at H
     obtain ⟨rfl, rfl⟩ := H
     go_wp2
     go_ret2
     exact ⟨er_, bl_⟩
   obtain rfl := bf_ c20
   clear c20
   rw [if_neg ft_] at H
   obtain ⟨t237, A21, H⟩ := bs_ H
   by_cases c22 : t237 = true
   rotate_left
   · obtain rfl := bf_ c22
     clear c22
     rw [if_neg ft_] at H
     simp only [Option.some.injEq, Prod.mk.injEq] at H
     obtain ⟨rfl, rfl⟩ := H
     go_wp2_with (first | ((with_reducible refine gf_ 36 rfl ?_); refine gl_ (some 27) Tryz.func36 #[.int .i64 a3, .int .i64 0, .int .i64 15] ?_; refine (dX.calls a3 0 15 false _ (gw_ HG.out) A21.out).mono ?_; rintro e w' ⟨rfl, ⟨nd, rfl⟩⟩; refine ⟨_, rfl, ?_⟩))
     go_ret2
     exact ⟨er_, bl_⟩
   subst c22
   rw [if_pos rfl] at H
   obtain ⟨t238, A23, H⟩ := bs_ H
   by_cases c24 : t238 = true
   · subst c24
     rw [if_pos rfl] at H
     obtain ⟨t239, A25, H⟩ := bs_ H
     simp only [Option.some.injEq, Prod.mk.injEq] at H
     obtain ⟨rfl, rfl⟩ := H
     go_wp2_with (first | ((with_reducible refine gf_ 36 rfl ?_); refine gl_ (some 27) Tryz.func36 #[.int .i64 a3, .int .i64 0, .int .i64 15] ?_; refine (dX.calls a3 0 15 true _ (gw_ HG.out) A21.out).mono ?_; rintro e w' ⟨rfl, ⟨nd, rfl⟩⟩; refine ⟨_, rfl, ?_⟩; have hnb26 := NB233_232.out; have hnc26 := NB232_233.out; have bz27 := bc2_ BK233) | (go_at_call 43; refine (gB.calls a4_0 a4_1 true _ (gw_ HG.out) A23.out).mono ?_; rintro e w28 ⟨rfl, hb⟩; replace BK232 := bb_ BK232 hb; replace BK233 := bb_ BK233 hb; replace HB := bp_ hb; (try clear hb); have bz29 := bc7_ BK232; have bz30 := bc2_ BK233) | ((with_reducible refine gf_ 44 rfl ?_); refine gl_ (some 39) Tryz.func44 #[.agg #[.int .i64 a0_0, .int .i64 a0_1, .int .i64 a0_2, .int .i64 a0_3, .int .i64 a0_4, .slice A0_5 l0_5.length c0_5, .slice A0_6 l0_6.length c0_6], .string a1, .string a2, .int .i64 a3, .agg #[.int .i64 a4_0, .int .i64 a4_1]] ?_; refine (dN.calls kj7 a0_0 a0_1 a0_2 a0_3 a0_4 _ _ l0_5 _ _ l0_6 a1 a2 a3 a4_0 a4_1 t239 _ (gw_ HG.out) (cb_ (Kd.C_below HR0_5.out HB.out)) HC0_5.out (cb_ (Kd.C_below HR0_6.out HB.out)) HC0_6.out A25.out).mono ?_; rintro e w31 ⟨rfl, hb⟩; refine ⟨_, rfl, ?_⟩; replace BK232 := bb_ BK232 hb; replace BK233 := bb_ BK233 hb; replace HB := bp_ hb; (try clear hb)))
     go_ret2
     exact ⟨er_, bl_⟩
   obtain rfl := bf_ c24
   clear c24
   rw [if_neg ft_] at H
   simp only [Option.some.injEq, Prod.mk.injEq] at H
   obtain ⟨rfl, rfl⟩ := H
   go_wp2_with (first | ((with_reducible refine gf_ 36 rfl ?_); refine gl_ (some 27) Tryz.func36 #[.int .i64 a3, .int .i64 0, .int .i64 15] ?_; refine (dX.calls a3 0 15 true _ (gw_ HG.out) A21.out).mono ?_; rintro e w' ⟨rfl, ⟨nd, rfl⟩⟩; refine ⟨_, rfl, ?_⟩; have hnb32 := NB233_232.out; have hnc32 := NB232_233.out; have bz33 := bc2_ BK233) | (go_at_call 43; refine (gB.calls a4_0 a4_1 false _ (gw_ HG.out) A23.out).mono ?_; rintro e w34 ⟨rfl, hb⟩; replace BK232 := bb_ BK232 hb; replace BK233 := bb_ BK233 hb; replace HB := bp_ hb; (try clear hb)))
   go_ret2
   exact ⟨er_, bl_⟩
def dG.f (a0 : Int) (a1 : Int) (a2 : Int) : Option (Bool) := if a0 ≥ a1 then (some (decide (a0 ≤ a2))) else (some false)
theorem dG.calls (a0 : Int) (a1 : Int) (a2 : Int) (r : Bool) (w : World) (hG : Tryz.GW w) (h : dG.f a0 a1 a2 = some r) :
 Calls Tryz.prog 40 #[.int .i64 a0, .int .i64 a1, .int .i64 a2] w fun e w' => e = .returned (.bool r) ∧ Drawn0 w w' := by
 have HG := am_ hG
 clear hG
 have H : (if a0 ≥ a1 then (some (decide (a0 ≤ a2))) else (some false)) = some r := h
 clear h
 by_cases c4 : a0 ≥ a1
 · rw [if_pos c4] at H
   have c4b0 : decide (a1 ≤ a0) = true := decide_eq_true c4
   clear c4
   obtain rfl := sj_ H
   go_enter Tryz.func40, Tryz.ntmps40
   go_wp2
   go_ret
   exact ⟨ra_, dr_⟩
 rw [if_neg c4] at H
 have c4b0 : decide (a1 ≤ a0) = false := decide_eq_false c4
 clear c4
 obtain rfl := sj_ H
 go_enter Tryz.func40, Tryz.ntmps40
 go_wp2
 go_ret
 exact ⟨ra_, dr_⟩
def bD.f (a0 : Int) : Option (Bool) := (dG.f a0 0 100000).bind fun t240 => (some t240)
theorem bD.calls (a0 : Int) (r : Bool) (w : World) (hG : Tryz.GW w) (h : bD.f a0 = some r) :
 Calls Tryz.prog 38 #[.int .i64 a0] w fun e w' => e = .returned (.bool r) ∧ Drawn0 w w' := by
 have HG := am_ hG
 clear hG
 have H : ((dG.f a0 0 100000).bind fun t240 => (some t240)) = some r := h
 clear h
 obtain ⟨t240, A2, H⟩ := bs_ H
 obtain rfl := sj_ H
 go_enter Tryz.func38, Tryz.ntmps38
 go_wp2_with (first | ((with_reducible refine gf_ 40 rfl ?_); refine gl_ (some 4) Tryz.func40 #[.int .i64 a0, .int .i64 0, .int .i64 100000] ?_; refine (dG.calls a0 0 100000 t240 _ gd_ A2.out).mono ?_; rintro e w' ⟨rfl, ⟨nd, rfl⟩⟩; refine ⟨_, rfl, ?_⟩))
 go_ret
 exact ⟨ra_, dr_⟩
def fO.f (a0 : Int) (a1 : Int) (a2 : Int) : Option (Bool) := if a0 ≥ a1 then (some (decide (a0 ≤ a2))) else (some false)
theorem fO.calls (a0 : Int) (a1 : Int) (a2 : Int) (r : Bool) (w : World) (hG : Tryz.GW w) (h : fO.f a0 a1 a2 = some r) :
 Calls Tryz.prog 115 #[.int .i64 a0, .int .i64 a1, .int .i64 a2] w fun e w' => e = .returned (.bool r) ∧ Drawn0 w w' := by
 have HG := am_ hG
 clear hG
 have H : (if a0 ≥ a1 then (some (decide (a0 ≤ a2))) else (some false)) = some r := h
 clear h
 by_cases c4 : a0 ≥ a1
 · rw [if_pos c4] at H
   have c4b0 : decide (a1 ≤ a0) = true := decide_eq_true c4
   clear c4
   obtain rfl := sj_ H
   go_enter Tryz.func115, Tryz.ntmps115
   go_wp2
   go_ret
   exact ⟨ra_, dr_⟩
 rw [if_neg c4] at H
 have c4b0 : decide (a1 ≤ a0) = false := decide_eq_false c4
 clear c4
 obtain rfl := sj_ H
 go_enter Tryz.func115, Tryz.ntmps115
 go_wp2
 go_ret
 exact ⟨ra_, dr_⟩
def aX.l0 : Nat → ByteArray → Int → Option (Bool)
 | 0, _, _ => none
 | k + 1, x0, x3 => if x3 < (x0.size : Int) then (if 0 ≤ x3 then (if (bt x0 x3) ≥ 97 then (if (bt x0 x3) ≤ 122 then (aX.l0 k x0 (wrap64 (x3 + 1))) else (if (bt x0 x3) ≥ 65 then (if (bt x0 x3) ≤ 90 then (aX.l0 k x0 (wrap64 (x3 + 1))) else (if (bt x0 x3) ≥ 48 then (if ((bt x0 x3) ≤ 57) then (aX.l0 k x0 (wrap64 (x3 + 1))) else ((strings_IndexByte.f (⟨#[95, 43, 45, 35]⟩ : ByteArray) (bt x0 x3)).bind fun t241 => (if t241 < 0 then (some false) else (aX.l0 k x0 (wrap64 (x3 + 1)))))) else ((strings_IndexByte.f (⟨#[95, 43, 45, 35]⟩ : ByteArray) (bt x0 x3)).bind fun t242 => (if t242 < 0 then (some false) else (aX.l0 k x0 (wrap64 (x3 + 1))))))) else (if (bt x0 x3) ≥ 48 then (if ((bt x0 x3) ≤ 57) then (aX.l0 k x0 (wrap64 (x3 + 1))) else ((strings_IndexByte.f (⟨#[95, 43, 45, 35]⟩ : ByteArray) (bt x0 x3)).bind fun t243 => (if t243 < 0 then (some false) else (aX.l0 k x0 (wrap64 (x3 + 1)))))) else ((strings_IndexByte.f (⟨#[95, 43, 45, 35]⟩ : ByteArray) (bt x0 x3)).bind fun t244 => (if t244 < 0 then (some false) else (aX.l0 k x0 (wrap64 (x3 + 1)))))))) else (if (bt x0 x3) ≥ 65 then (if (bt x0 x3) ≤ 90 then (aX.l0 k x0 (wrap64 (x3 + 1))) else (if (bt x0 x3) ≥ 48 then (if ((bt x0 x3) ≤ 57) then (aX.l0 k x0 (wrap64 (x3 + 1))) else ((strings_IndexByte.f (⟨#[95, 43, 45, 35]⟩ : ByteArray) (bt x0 x3)).bind fun t245 => (if t245 < 0 then (some false) else (aX.l0 k x0 (wrap64 (x3 + 1)))))) else ((strings_IndexByte.f (⟨#[95, 43, 45, 35]⟩ : ByteArray) (bt x0 x3)).bind fun t246 => (if t246 < 0 then (some false) else (aX.l0 k x0 (wrap64 (x3 + 1))))))) else (if (bt x0 x3) ≥ 48 then (if ((bt x0 x3) ≤ 57) then (aX.l0 k x0 (wrap64 (x3 + 1))) else ((strings_IndexByte.f (⟨#[95, 43, 45, 35]⟩ : ByteArray) (bt x0 x3)).bind fun t247 => (if t247 < 0 then (some false) else (aX.l0 k x0 (wrap64 (x3 + 1)))))) else ((strings_IndexByte.f (⟨#[95, 43, 45, 35]⟩ : ByteArray) (bt x0 x3)).bind fun t248 => (if t248 < 0 then (some false) else (aX.l0 k x0 (wrap64 (x3 + 1)))))))) else (none)) else ((fO.f (x0.size : Int) 1 40).bind fun t249 => (some t249))
def aX.f (k : Nat) (a0 : ByteArray) : Option (Bool) := aX.l0 k a0 0
theorem aX.calls (k : Nat) (a0 : ByteArray) (r : Bool) (w : World) (hG : Tryz.GW w) (h : aX.f k a0 = some r) :
 Calls Tryz.prog 70 #[.string a0] w fun e w' => e = .returned (.bool r) ∧ Drawn0 w w' := by
 have HG := am_ hG
 clear hG
 have H : (aX.l0 k a0 0) = some r := h
 clear h
 replace H := am_ H
 go_enter Tryz.func70, Tryz.ntmps70
 go_wp2
 go_loopg [3] k (fun kq v3 w' => ∃ (x3_1 : Int), v3 = .int .i64 x3_1 ∧ Aside0 (aX.l0 kq a0 x3_1 = some r) ∧ Aside0 (kq ≤ k) ∧ Drawn0 w w')
 case atStart => exact ⟨(0), ra_, H, ⟨Nat.le_refl _⟩, dr_⟩
 case round =>
  clear H
  obtain ⟨x3_1, rfl, HA, HK1, ⟨m1, rfl⟩⟩ := hrel
  cases gk with
  | zero => exact absurd HA.out (by simp [aX.l0])
  | succ k1 =>
   have H := HA.out
   clear HA
   simp only [aX.l0] at H
   by_cases c2 : x3_1 < (a0.size : Int)
   rotate_left
   · rw [if_neg c2] at H
     have c2b0 := decide_eq_false c2
     clear c2
     obtain ⟨t249, A35, H⟩ := bs_ H
     obtain rfl := sj_ H
     go_wp2_with (first | ((with_reducible refine gf_ 115 rfl ?_); refine gl_ (some 44) Tryz.func115 #[.int .i64 (a0.size : Int), .int .i64 1, .int .i64 40] ?_; refine (fO.calls (a0.size : Int) 1 40 t249 _ gd_ A35.out).mono ?_; rintro e w' ⟨rfl, ⟨nd, rfl⟩⟩; refine ⟨_, rfl, ?_⟩))
     go_ret
     exact ⟨ra_, dr_⟩
   rw [if_pos c2] at H
   have c2b0 := decide_eq_true c2
   clear c2
   obtain ⟨c3b0, H⟩ := ifd_ H
   by_cases c5 : (bt a0 x3_1) ≥ 97
   rotate_left
   · rw [if_neg c5] at H
     have c5b0 : decide (97 ≤ (bt a0 x3_1)) = false := decide_eq_false c5
     clear c5
     by_cases c21 : (bt a0 x3_1) ≥ 65
     rotate_left
     · rw [if_neg c21] at H
       have c21b0 : decide (65 ≤ (bt a0 x3_1)) = false := decide_eq_false c21
       clear c21
       by_cases c29 : (bt a0 x3_1) ≥ 48
       rotate_left
       · rw [if_neg c29] at H
         have c29b0 : decide (48 ≤ (bt a0 x3_1)) = false := decide_eq_false c29
         clear c29
         obtain ⟨t248, A33, H⟩ := bs_ H
         by_cases c34 : t248 < 0
         · rw [if_pos c34] at H
           have c34b0 := decide_eq_true c34
           clear c34
           obtain rfl := sj_ H
           have p4 := pt_ x3_1
           have q4 := qt_ x3_1 a0.size
           have hx4 := bt_at a0 x3_1
           go_wp2_with (first | (go_at_call 112; refine (strings_IndexByte.calls (⟨#[95, 43, 45, 35]⟩ : ByteArray) (bt a0 x3_1) t248 _ gd_ A33.out).mono ?_; rintro e w' ⟨rfl, ⟨nd, rfl⟩⟩))
           go_ret
           exact ⟨ra_, dr_⟩
         rw [if_neg c34] at H
         have c34b0 := decide_eq_false c34
         clear c34
         replace H := am_ H
         have p4 := pt_ x3_1
         have q4 := qt_ x3_1 a0.size
         have hx4 := bt_at a0 x3_1
         go_wp2_with (first | (go_at_call 112; refine (strings_IndexByte.calls (⟨#[95, 43, 45, 35]⟩ : ByteArray) (bt a0 x3_1) t248 _ gd_ A33.out).mono ?_; rintro e w' ⟨rfl, ⟨nd, rfl⟩⟩))
         go_roundg k1
         case measure => have := HK1.out; omega
         case rel => exact ⟨(wrap64 (x3_1 + 1)), ra_, H, ⟨by have := HK1.out; omega⟩, dr_⟩
       rw [if_pos c29] at H
       have c29b0 : decide (48 ≤ (bt a0 x3_1)) = true := decide_eq_true c29
       clear c29
       by_cases c30 : ((bt a0 x3_1) ≤ 57)
       · rw [if_pos c30] at H
         have c30b0 : decide ((bt a0 x3_1) ≤ 57) = true := decide_eq_true c30
         clear c30
         replace H := am_ H
         have p4 := pt_ x3_1
         have q4 := qt_ x3_1 a0.size
         have hx4 := bt_at a0 x3_1
         go_wp2
         go_roundg k1
         case measure => have := HK1.out; omega
         case rel => exact ⟨(wrap64 (x3_1 + 1)), ra_, H, ⟨by have := HK1.out; omega⟩, dr_⟩
       rw [if_neg c30] at H
       have c30b0 : decide ((bt a0 x3_1) ≤ 57) = false := decide_eq_false c30
       clear c30
       obtain ⟨t247, A31, H⟩ := bs_ H
       by_cases c32 : t247 < 0
       · rw [if_pos c32] at H
         have c32b0 := decide_eq_true c32
         clear c32
         obtain rfl := sj_ H
         have p4 := pt_ x3_1
         have q4 := qt_ x3_1 a0.size
         have hx4 := bt_at a0 x3_1
         go_wp2_with (first | (go_at_call 112; refine (strings_IndexByte.calls (⟨#[95, 43, 45, 35]⟩ : ByteArray) (bt a0 x3_1) t247 _ gd_ A31.out).mono ?_; rintro e w' ⟨rfl, ⟨nd, rfl⟩⟩))
         go_ret
         exact ⟨ra_, dr_⟩
       rw [if_neg c32] at H
       have c32b0 := decide_eq_false c32
       clear c32
       replace H := am_ H
       have p4 := pt_ x3_1
       have q4 := qt_ x3_1 a0.size
       have hx4 := bt_at a0 x3_1
       go_wp2_with (first | (go_at_call 112; refine (strings_IndexByte.calls (⟨#[95, 43, 45, 35]⟩ : ByteArray) (bt a0 x3_1) t247 _ gd_ A31.out).mono ?_; rintro e w' ⟨rfl, ⟨nd, rfl⟩⟩))
       go_roundg k1
       case measure => have := HK1.out; omega
       case rel => exact ⟨(wrap64 (x3_1 + 1)), ra_, H, ⟨by have := HK1.out; omega⟩, dr_⟩
     rw [if_pos c21] at H
     have c21b0 : decide (65 ≤ (bt a0 x3_1)) = true := decide_eq_true c21
     clear c21
     by_cases c22 : (bt a0 x3_1) ≤ 90
     · rw [if_pos c22] at H
       have c22b0 := decide_eq_true c22
       clear c22
       replace H := am_ H
       have p4 := pt_ x3_1
       have q4 := qt_ x3_1 a0.size
       have hx4 := bt_at a0 x3_1
       go_wp2
       go_roundg k1
       case measure => have := HK1.out; omega
       case rel => exact ⟨(wrap64 (x3_1 + 1)), ra_, H, ⟨by have := HK1.out; omega⟩, dr_⟩
     rw [if_neg c22] at H
     have c22b0 := decide_eq_false c22
     clear c22
     by_cases c23 : (bt a0 x3_1) ≥ 48
     rotate_left
     · rw [if_neg c23] at H
       have c23b0 : decide (48 ≤ (bt a0 x3_1)) = false := decide_eq_false c23
       clear c23
       obtain ⟨t246, A27, H⟩ := bs_ H
       by_cases c28 : t246 < 0
       · rw [if_pos c28] at H
         have c28b0 := decide_eq_true c28
         clear c28
         obtain rfl := sj_ H
         have p4 := pt_ x3_1
         have q4 := qt_ x3_1 a0.size
         have hx4 := bt_at a0 x3_1
         go_wp2_with (first | (go_at_call 112; refine (strings_IndexByte.calls (⟨#[95, 43, 45, 35]⟩ : ByteArray) (bt a0 x3_1) t246 _ gd_ A27.out).mono ?_; rintro e w' ⟨rfl, ⟨nd, rfl⟩⟩))
         go_ret
         exact ⟨ra_, dr_⟩
       rw [if_neg c28] at H
       have c28b0 := decide_eq_false c28
       clear c28
       replace H := am_ H
       have p4 := pt_ x3_1
       have q4 := qt_ x3_1 a0.size
       have hx4 := bt_at a0 x3_1
       go_wp2_with (first | (go_at_call 112; refine (strings_IndexByte.calls (⟨#[95, 43, 45, 35]⟩ : ByteArray) (bt a0 x3_1) t246 _ gd_ A27.out).mono ?_; rintro e w' ⟨rfl, ⟨nd, rfl⟩⟩))
       go_roundg k1
       case measure => have := HK1.out; omega
       case rel => exact ⟨(wrap64 (x3_1 + 1)), ra_, H, ⟨by have := HK1.out; omega⟩, dr_⟩
     rw [if_pos c23] at H
     have c23b0 : decide (48 ≤ (bt a0 x3_1)) = true := decide_eq_true c23
     clear c23
     by_cases c24 : ((bt a0 x3_1) ≤ 57)
     · rw [if_pos c24] at H
       have c24b0 : decide ((bt a0 x3_1) ≤ 57) = true := decide_eq_true c24
       clear c24
       replace H := am_ H
       have p4 := pt_ x3_1
       have q4 := qt_ x3_1 a0.size
       have hx4 := bt_at a0 x3_1
       go_wp2
       go_roundg k1
       case measure => have := HK1.out; omega
       case rel => exact ⟨(wrap64 (x3_1 + 1)), ra_, H, ⟨by have := HK1.out; omega⟩, dr_⟩
     rw [if_neg c24] at H
     have c24b0 : decide ((bt a0 x3_1) ≤ 57) = false := decide_eq_false c24
     clear c24
     obtain ⟨t245, A25, H⟩ := bs_ H
     by_cases c26 : t245 < 0
     · rw [if_pos c26] at H
       have c26b0 := decide_eq_true c26
       clear c26
       obtain rfl := sj_ H
       have p4 := pt_ x3_1
       have q4 := qt_ x3_1 a0.size
       have hx4 := bt_at a0 x3_1
       go_wp2_with (first | (go_at_call 112; refine (strings_IndexByte.calls (⟨#[95, 43, 45, 35]⟩ : ByteArray) (bt a0 x3_1) t245 _ gd_ A25.out).mono ?_; rintro e w' ⟨rfl, ⟨nd, rfl⟩⟩))
       go_ret
       exact ⟨ra_, dr_⟩
     rw [if_neg c26] at H
     have c26b0 := decide_eq_false c26
     clear c26
     replace H := am_ H
     have p4 := pt_ x3_1
     have q4 := qt_ x3_1 a0.size
     have hx4 := bt_at a0 x3_1
     go_wp2_with (first | (go_at_call 112; refine (strings_IndexByte.calls (⟨#[95, 43, 45, 35]⟩ : ByteArray) (bt a0 x3_1) t245 _ gd_ A25.out).mono ?_; rintro e w' ⟨rfl, ⟨nd, rfl⟩⟩))
     go_roundg k1
     case measure => have := HK1.out; omega
     case rel => exact ⟨(wrap64 (x3_1 + 1)), ra_, H, ⟨by have := HK1.out; omega⟩, dr_⟩
   rw [if_pos c5] at H
   have c5b0 : decide (97 ≤ (bt a0 x3_1)) = true := decide_eq_true c5
   clear c5
   by_cases c6 : (bt a0 x3_1) ≤ 122
   · rw [if_pos c6] at H
     have c6b0 := decide_eq_true c6
     clear c6
     replace H := am_ H
     have p4 := pt_ x3_1
     have q4 := qt_ x3_1 a0.size
     have hx4 := bt_at a0 x3_1
     go_wp2
     go_roundg k1
     case measure => have := HK1.out; omega
     case rel => exact ⟨(wrap64 (x3_1 + 1)), ra_, H, ⟨by have := HK1.out; omega⟩, dr_⟩
   rw [if_neg c6] at H
   have c6b0 := decide_eq_false c6
   clear c6
   by_cases c7 : (bt a0 x3_1) ≥ 65
   rotate_left
   · rw [if_neg c7] at H
     have c7b0 : decide (65 ≤ (bt a0 x3_1)) = false := decide_eq_false c7
     clear c7
     by_cases c15 : (bt a0 x3_1) ≥ 48
     rotate_left
     · rw [if_neg c15] at H
       have c15b0 : decide (48 ≤ (bt a0 x3_1)) = false := decide_eq_false c15
       clear c15
       obtain ⟨t244, A19, H⟩ := bs_ H
       by_cases c20 : t244 < 0
       · rw [if_pos c20] at H
         have c20b0 := decide_eq_true c20
         clear c20
         obtain rfl := sj_ H
         have p4 := pt_ x3_1
         have q4 := qt_ x3_1 a0.size
         have hx4 := bt_at a0 x3_1
         go_wp2_with (first | (go_at_call 112; refine (strings_IndexByte.calls (⟨#[95, 43, 45, 35]⟩ : ByteArray) (bt a0 x3_1) t244 _ gd_ A19.out).mono ?_; rintro e w' ⟨rfl, ⟨nd, rfl⟩⟩))
         go_ret
         exact ⟨ra_, dr_⟩
       rw [if_neg c20] at H
       have c20b0 := decide_eq_false c20
       clear c20
       replace H := am_ H
       have p4 := pt_ x3_1
       have q4 := qt_ x3_1 a0.size
       have hx4 := bt_at a0 x3_1
       go_wp2_with (first | (go_at_call 112; refine (strings_IndexByte.calls (⟨#[95, 43, 45, 35]⟩ : ByteArray) (bt a0 x3_1) t244 _ gd_ A19.out).mono ?_; rintro e w' ⟨rfl, ⟨nd, rfl⟩⟩))
       go_roundg k1
       case measure => have := HK1.out; omega
       case rel => exact ⟨(wrap64 (x3_1 + 1)), ra_, H, ⟨by have := HK1.out; omega⟩, dr_⟩
     rw [if_pos c15] at H
     have c15b0 : decide (48 ≤ (bt a0 x3_1)) = true := decide_eq_true c15
     clear c15
     by_cases c16 : ((bt a0 x3_1) ≤ 57)
     · rw [if_pos c16] at H
       have c16b0 : decide ((bt a0 x3_1) ≤ 57) = true := decide_eq_true c16
       clear c16
       replace H := am_ H
       have p4 := pt_ x3_1
       have q4 := qt_ x3_1 a0.size
       have hx4 := bt_at a0 x3_1
       go_wp2
       go_roundg k1
       case measure => have := HK1.out; omega
       case rel => exact ⟨(wrap64 (x3_1 + 1)), ra_, H, ⟨by have := HK1.out; omega⟩, dr_⟩
     rw [if_neg c16] at H
     have c16b0 : decide ((bt a0 x3_1) ≤ 57) = false := decide_eq_false c16
     clear c16
     obtain ⟨t243, A17, H⟩ := bs_ H
     by_cases c18 : t243 < 0
     · rw [if_pos c18] at H
       have c18b0 := decide_eq_true c18
       clear c18
       obtain rfl := sj_ H
       have p4 := pt_ x3_1
       have q4 := qt_ x3_1 a0.size
       have hx4 := bt_at a0 x3_1
       go_wp2_with (first | (go_at_call 112; refine (strings_IndexByte.calls (⟨#[95, 43, 45, 35]⟩ : ByteArray) (bt a0 x3_1) t243 _ gd_ A17.out).mono ?_; rintro e w' ⟨rfl, ⟨nd, rfl⟩⟩))
       go_ret
       exact ⟨ra_, dr_⟩
     rw [if_neg c18] at H
     have c18b0 := decide_eq_false c18
     clear c18
     replace H := am_ H
     have p4 := pt_ x3_1
     have q4 := qt_ x3_1 a0.size
     have hx4 := bt_at a0 x3_1
     go_wp2_with (first | (go_at_call 112; refine (strings_IndexByte.calls (⟨#[95, 43, 45, 35]⟩ : ByteArray) (bt a0 x3_1) t243 _ gd_ A17.out).mono ?_; rintro e w' ⟨rfl, ⟨nd, rfl⟩⟩))
     go_roundg k1
     case measure => have := HK1.out; omega
     case rel => exact ⟨(wrap64 (x3_1 + 1)), ra_, H, ⟨by have := HK1.out; omega⟩, dr_⟩
   rw [if_pos c7] at H
   have c7b0 : decide (65 ≤ (bt a0 x3_1)) = true := decide_eq_true c7
   clear c7
   by_cases c8 : (bt a0 x3_1) ≤ 90
   · rw [if_pos c8] at H
     have c8b0 := decide_eq_true c8
     clear c8
     replace H := am_ H
     have p4 := pt_ x3_1
     have q4 := qt_ x3_1 a0.size
     have hx4 := bt_at a0 x3_1
     go_wp2
     go_roundg k1
     case measure => have := HK1.out; omega
     case rel => exact ⟨(wrap64 (x3_1 + 1)), ra_, H, ⟨by have := HK1.out; omega⟩, dr_⟩
   rw [if_neg c8] at H
   have c8b0 := decide_eq_false c8
   clear c8
   by_cases c9 : (bt a0 x3_1) ≥ 48
   rotate_left
   · rw [if_neg c9] at H
     have c9b0 : decide (48 ≤ (bt a0 x3_1)) = false := decide_eq_false c9
     clear c9
     obtain ⟨t242, A13, H⟩ := bs_ H
     by_cases c14 : t242 < 0
     · rw [if_pos c14] at H
       have c14b0 := decide_eq_true c14
       clear c14
       obtain rfl := sj_ H
       have p4 := pt_ x3_1
       have q4 := qt_ x3_1 a0.size
       have hx4 := bt_at a0 x3_1
       go_wp2_with (first | (go_at_call 112; refine (strings_IndexByte.calls (⟨#[95, 43, 45, 35]⟩ : ByteArray) (bt a0 x3_1) t242 _ gd_ A13.out).mono ?_; rintro e w' ⟨rfl, ⟨nd, rfl⟩⟩))
       go_ret
       exact ⟨ra_, dr_⟩
     rw [if_neg c14] at H
     have c14b0 := decide_eq_false c14
     clear c14
     replace H := am_ H
     have p4 := pt_ x3_1
     have q4 := qt_ x3_1 a0.size
     have hx4 := bt_at a0 x3_1
     go_wp2_with (first | (go_at_call 112; refine (strings_IndexByte.calls (⟨#[95, 43, 45, 35]⟩ : ByteArray) (bt a0 x3_1) t242 _ gd_ A13.out).mono ?_; rintro e w' ⟨rfl, ⟨nd, rfl⟩⟩))
     go_roundg k1
     case measure => have := HK1.out; omega
     case rel => exact ⟨(wrap64 (x3_1 + 1)), ra_, H, ⟨by have := HK1.out; omega⟩, dr_⟩
   rw [if_pos c9] at H
   have c9b0 : decide (48 ≤ (bt a0 x3_1)) = true := decide_eq_true c9
   clear c9
   by_cases c10 : ((bt a0 x3_1) ≤ 57)
   · rw [if_pos c10] at H
     have c10b0 : decide ((bt a0 x3_1) ≤ 57) = true := decide_eq_true c10
     clear c10
     replace H := am_ H
     have p4 := pt_ x3_1
     have q4 := qt_ x3_1 a0.size
     have hx4 := bt_at a0 x3_1
     go_wp2
     go_roundg k1
     case measure => have := HK1.out; omega
     case rel => exact ⟨(wrap64 (x3_1 + 1)), ra_, H, ⟨by have := HK1.out; omega⟩, dr_⟩
   rw [if_neg c10] at H
   have c10b0 : decide ((bt a0 x3_1) ≤ 57) = false := decide_eq_false c10
   clear c10
   obtain ⟨t241, A11, H⟩ := bs_ H
   by_cases c12 : t241 < 0
   · rw [if_pos c12] at H
     have c12b0 := decide_eq_true c12
     clear c12
     obtain rfl := sj_ H
     have p4 := pt_ x3_1
     have q4 := qt_ x3_1 a0.size
     have hx4 := bt_at a0 x3_1
     go_wp2_with (first | (go_at_call 112; refine (strings_IndexByte.calls (⟨#[95, 43, 45, 35]⟩ : ByteArray) (bt a0 x3_1) t241 _ gd_ A11.out).mono ?_; rintro e w' ⟨rfl, ⟨nd, rfl⟩⟩))
     go_ret
     exact ⟨ra_, dr_⟩
   rw [if_neg c12] at H
   have c12b0 := decide_eq_false c12
   clear c12
   replace H := am_ H
   have p4 := pt_ x3_1
   have q4 := qt_ x3_1 a0.size
   have hx4 := bt_at a0 x3_1
   go_wp2_with (first | (go_at_call 112; refine (strings_IndexByte.calls (⟨#[95, 43, 45, 35]⟩ : ByteArray) (bt a0 x3_1) t241 _ gd_ A11.out).mono ?_; rintro e w' ⟨rfl, ⟨nd, rfl⟩⟩))
   go_roundg k1
   case measure => have := HK1.out; omega
   case rel => exact ⟨(wrap64 (x3_1 + 1)), ra_, H, ⟨by have := HK1.out; omega⟩, dr_⟩
end Go.Proofs.YthkeonbmgcphkaaGreatDoor.PN
namespace Go.Proofs.YthkeonbmgcphkaaGreatDoor.Plain
open Go.RowKit Go.Proofs.YthkeonbmgcphkaaGreatDoor.PN Go.Proofs.YthkeonbmgcphkaaGreatDoorW.PrintWords Go.Proofs.YthkeonbmgcphkaaGreatDoorW.PrintLast Go.Proofs.YthkeonbmgcphkaaGreatDoor.Bytes
set_option linter.unusedVariables false
set_option linter.unusedSimpArgs false
theorem idx_some (c : Int) : strings_IndexByte.f (⟨#[95, 43, 45, 35]⟩ : ByteArray) c = some (Lib.indexByte [95, 43, 45, 35] c.toNat.toUInt8) := rfl
theorem isWord_l0 (s : ByteArray) (hs : s.size < 9223372036854775807) : ∀ (d i k : Nat), i + d = s.size → d < k →
    bU.l0 k s (s.size : Int) (i : Int) = some (allW (s.data.toList.drop i) && (decide (1 ≤ s.size) && decide (s.size ≤ 40))) := by
  intro d
  induction d with
  | zero =>
    intro i k hi hk
    obtain ⟨k, rfl⟩ : ∃ m, k = m + 1 := ⟨k - 1, by omega⟩
    simp only [bU.l0]
    rw [if_neg (show ¬ ((i : Int) < (s.size : Int)) by omega), allW_end s i (by omega)]
    by_cases h1 : (s.size : Int) ≥ 1
    · rw [if_pos h1]; have h2 : 1 ≤ s.size := by omega
      simp only [h2, decide_true, Bool.true_and]; congr 1; simp; omega
    · rw [if_neg h1]; simp only [Bool.true_and, Option.some.injEq, Bool.false_eq, Bool.and_eq_false_imp, decide_eq_true_eq]; omega
  | succ d ih =>
    intro i k hi hk
    obtain ⟨k, rfl⟩ : ∃ m, k = m + 1 := ⟨k - 1, by omega⟩
    have hlt : i < s.size := by omega
    have ih' := ih (i + 1) k (by omega) (by omega)
    rw [allW_step s i hlt]
    simp only [bU.l0, idx_some, Option.bind_some, wrapN (show i < 9223372036854775807 by omega), ih']
    rw [if_pos (show (i : Int) < (s.size : Int) by omega), if_pos (show (0 : Int) ≤ (i : Int) by omega)]
    generalize bt s (i : Int) = c
    unfold wordB
    generalize Lib.indexByte [95, 43, 45, 35] c.toNat.toUInt8 = j
    generalize allW (s.data.toList.drop (i + 1)) = t
    repeat' split
    all_goals simp_all
    all_goals omega
theorem isWord_f (s : ByteArray) (hs : s.size < 9223372036854775807) (k : Nat) (hk : s.size < k) : bU.f k s = some (kQ s.data.toList) := by
  have h := isWord_l0 s hs s.size 0 k (by omega) hk
  rw [List.drop_zero, kJ s] at h
  unfold bU.f kQ
  rw [kJ s]
  exact h
theorem isWord5_l0 (s : ByteArray) (hs : s.size < 9223372036854775807) : ∀ (d i k : Nat), i + d = s.size → d + 1 < k →
    aX.l0 k s (i : Int) = some (allW (s.data.toList.drop i) && (decide (1 ≤ s.size) && decide (s.size ≤ 40))) := by
  intro d
  induction d with
  | zero =>
    intro i k hi hk
    obtain ⟨k, rfl⟩ : ∃ m, k = m + 2 := ⟨k - 2, by omega⟩
    simp only [aX.l0, fO.f]
    rw [if_neg (show ¬ ((i : Int) < (s.size : Int)) by omega), allW_end s i (by omega)]
    by_cases h1 : (s.size : Int) ≥ 1
    · rw [if_pos h1]; have h2 : 1 ≤ s.size := by omega
      simp only [h2, decide_true, Bool.true_and, Option.bind_some]; congr 1; simp; omega
    · rw [if_neg h1]; simp only [Bool.true_and, Option.bind_some, Option.some.injEq, Bool.false_eq, Bool.and_eq_false_imp, decide_eq_true_eq]; omega
  | succ d ih =>
    intro i k hi hk
    obtain ⟨k, rfl⟩ : ∃ m, k = m + 1 := ⟨k - 1, by omega⟩
    have hlt : i < s.size := by omega
    have ih' := ih (i + 1) k (by omega) (by omega)
    rw [allW_step s i hlt]
    simp only [aX.l0, idx_some, Option.bind_some, wrapN (show i < 9223372036854775807 by omega), ih']
    rw [if_pos (show (i : Int) < (s.size : Int) by omega), if_pos (show (0 : Int) ≤ (i : Int) by omega)]
    generalize bt s (i : Int) = c
    unfold wordB
    generalize Lib.indexByte [95, 43, 45, 35] c.toNat.toUInt8 = j
    generalize allW (s.data.toList.drop (i + 1)) = t
    repeat' split
    all_goals simp_all
    all_goals omega
theorem isWord5_f (s : ByteArray) (hs : s.size < 9223372036854775807) (k : Nat) (hk : s.size + 1 < k) : aX.f k s = some (kQ s.data.toList) := by
  have h := isWord5_l0 s hs s.size 0 k (by omega) hk
  rw [List.drop_zero, kJ s] at h
  unfold aX.f kQ
  exact h
end Go.Proofs.YthkeonbmgcphkaaGreatDoor.Plain
