import Derived.Test.YthkeonbmgcphkaaGreatDoorFg6
import Derived.Test.YthkeonbmgcphkaaGreatDoorFg16
namespace Go.Proofs.YthkeonbmgcphkaaGreatDoor.PN
open Go.RowKit Go.Proofs.YthkeonbmgcphkaaGreatDoorW.PrintWords Go.Proofs.YthkeonbmgcphkaaGreatDoorW.PrintLast Go.Proofs.YthkeonbmgcphkaaGreatDoorW.PrintMore
attribute [local go_sem] max2_int min2_int max_two min_two max_three min_three max_four min_four
set_option linter.unusedVariables false
set_option maxHeartbeats 8000000
set_option maxRecDepth 100000
set_option linter.unusedSimpArgs false
def bI.l0 : Nat → List ByteArray → ByteArray → Int → Int → Int → Option (Int × Bool)
 | 0, _, _, _, _, _ => none
 | k + 1, x0, x1, x6, x7, x8 => if x7 < x8 then (if 0 ≤ (wrap64 ((IntKind.u64.wrap (wrap64 (x7 + x8))) / 2)) then (if (wrap64 ((IntKind.u64.wrap (wrap64 (x7 + x8))) / 2)) < (x0.length : Int) then ((cmp_Less_string.f (rdOf ByteArray.empty x0 (wrap64 ((IntKind.u64.wrap (wrap64 (x7 + x8))) / 2))) x1).bind fun t206 => (if t206 = true then (bI.l0 k x0 x1 x6 (wrap64 ((wrap64 ((IntKind.u64.wrap (wrap64 (x7 + x8))) / 2)) + 1)) x8) else (bI.l0 k x0 x1 x6 x7 (wrap64 ((IntKind.u64.wrap (wrap64 (x7 + x8))) / 2))))) else (none)) else (none)) else (if x7 < x6 then (if 0 ≤ x7 then (if x7 < (x0.length : Int) then (if (rdOf ByteArray.empty x0 x7).toList = x1.toList then (some (x7, true)) else ((slices_isNaN_string.f (rdOf ByteArray.empty x0 x7)).bind fun t209 => (if t209 = true then ((slices_isNaN_string.f x1).bind fun t210 => (some (x7, t210))) else (some (x7, false))))) else (none)) else (none)) else (some (x7, false)))
def bI.f (k : Nat) (l0 : List ByteArray) (a1 : ByteArray) : Option (Int × Bool) := bI.l0 k l0 a1 (l0.length : Int) 0 (l0.length : Int)
theorem bI.calls (k : Nat) (A0 : Option Addr) (c0 : Nat) (l0 : List ByteArray) (a1 : ByteArray) (r1 : Int) (r2 : Bool) (w : World) (hG : Tryz.GW w) (hr0 : Kd.C Kd.string w A0 l0.length l0) (hc0 : l0.length ≤ c0) (h : bI.f k l0 a1 = some (r1, r2)) :
 Calls Tryz.prog 123 #[.slice A0 l0.length c0, .string a1] w fun e w' => e = .returned (.tuple #[.int .i64 r1, .bool r2]) ∧ Drawn0 w w' := by
 have HR0 := am_ hr0
 have HC0 := am_ hc0
 clear hr0 hc0
 have HG := am_ hG
 clear hG
 have H : (bI.l0 k l0 a1 (l0.length : Int) 0 (l0.length : Int)) = some (r1, r2) := h
 clear h
 replace H := am_ H
 go_enter Tryz.func123, Tryz.ntmps123
 go_wp2
 go_loopg [7, 8] k (fun kq v7 v8 w' => ∃ (x7_1 : Int) (x8_1 : Int), v7 = .int .i64 x7_1 ∧ v8 = .int .i64 x8_1 ∧ Aside0 (bI.l0 kq l0 a1 (l0.length : Int) x7_1 x8_1 = some (r1, r2)) ∧ Aside0 (kq ≤ k) ∧ Drawn0 w w')
 case atStart => exact ⟨(0), ((l0.length : Int)), ra_, ra_, H, ⟨Nat.le_refl _⟩, dr_⟩
 case round =>
  clear H
  try clear c1
  try clear p2
  obtain ⟨x7_1, x8_1, rfl, rfl, HA, HK1, ⟨m1, rfl⟩⟩ := hrel
  cases gk with
  | zero => exact absurd HA.out (by simp [bI.l0])
  | succ k1 =>
   have H := HA.out
   clear HA
   simp only [bI.l0] at H
   by_cases c3 : x7_1 < x8_1
   · rw [if_pos c3] at H
     have c3b0 := decide_eq_true c3
     clear c3
     obtain ⟨ji4, hji4⟩ : ∃ j_ : Int, (wrap64 ((IntKind.u64.wrap (wrap64 (x7_1 + x8_1))) / 2)) = j_ := ⟨_, rfl⟩
     first | rw [hji4] at H | simp only [hji4] at H
     have hji4w : (IntKind.i64.wrap ((IntKind.u64.wrap (wrap64 (x7_1 + x8_1))) / 2)) = ji4 := (i64_w _).trans hji4
     obtain ⟨c5b0, H⟩ := ifd_ H
     obtain ⟨c6b0, H⟩ := ifd_ H
     obtain ⟨t206, A7, H⟩ := bs_ H
     by_cases c8 : t206 = true
     · subst c8
       rw [if_pos rfl] at H
       replace H := am_ H
       have p205 := pt_ (ji4)
       have q205 := qt_ (ji4) l0.length
       obtain ⟨ad205, e205, hx205_0⟩ := Kd.at_string HR0.out (ji4) (oe_ p205) (oe_ q205)
       cases e205
       go_wp2_with (first | ((with_reducible refine gf_ 149 rfl ?_); refine goesL_ (some 27) rfl rfl Tryz.func149 (by kernel_rfl) rfl #[.string (rdOf ByteArray.empty l0 (ji4)), .string a1] rfl (by (try simp only [List.map_toArray, List.map_cons, List.map_nil]); first | done | (simp only [hji4]; rfl) | rfl | (simp only [List.length_drop, List.length_take]; rfl)) ?_; refine (cmp_Less_string.calls (rdOf ByteArray.empty l0 (ji4)) a1 true _ gd_ A7.out).mono ?_; rintro e w' ⟨rfl, ⟨nd, rfl⟩⟩; refine ⟨_, rfl, ?_⟩))
       go_roundg k1
       case measure => have := HK1.out; omega
       case rel => exact ⟨(wrap64 ((ji4) + 1)), (x8_1), (by first | rfl | (simp; done) | (simp only [← hji4] <;> (first | rfl | simp)) | (simp [*]; done)), ra_, H, ⟨by have := HK1.out; omega⟩, dr_⟩
     obtain rfl := bf_ c8
     clear c8
     rw [if_neg ft_] at H
     replace H := am_ H
     have p205 := pt_ (ji4)
     have q205 := qt_ (ji4) l0.length
     obtain ⟨ad205, e205, hx205_0⟩ := Kd.at_string HR0.out (ji4) (oe_ p205) (oe_ q205)
     cases e205
     go_wp2_with (first | ((with_reducible refine gf_ 149 rfl ?_); refine goesL_ (some 27) rfl rfl Tryz.func149 (by kernel_rfl) rfl #[.string (rdOf ByteArray.empty l0 (ji4)), .string a1] rfl (by (try simp only [List.map_toArray, List.map_cons, List.map_nil]); first | done | (simp only [hji4]; rfl) | rfl | (simp only [List.length_drop, List.length_take]; rfl)) ?_; refine (cmp_Less_string.calls (rdOf ByteArray.empty l0 (ji4)) a1 false _ gd_ A7.out).mono ?_; rintro e w' ⟨rfl, ⟨nd, rfl⟩⟩; refine ⟨_, rfl, ?_⟩))
     go_roundg k1
     case measure => have := HK1.out; omega
     case rel => exact ⟨(x7_1), (ji4), ra_, (by first | rfl | (simp; done) | (simp only [← hji4] <;> (first | rfl | simp)) | (simp [*]; done)), H, ⟨by have := HK1.out; omega⟩, dr_⟩
   rw [if_neg c3] at H
   have c3b0 := decide_eq_false c3
   clear c3
   by_cases c9 : x7_1 < (l0.length : Int)
   rotate_left
   · rw [if_neg c9] at H
     have c9b0 := decide_eq_false c9
     clear c9
     simp only [Option.some.injEq, Prod.mk.injEq] at H
     obtain ⟨rfl, rfl⟩ := H
     go_wp2
     go_ret2
     exact ⟨ra_, dr_⟩
   rw [if_pos c9] at H
   have c9b0 := decide_eq_true c9
   clear c9
   obtain ⟨c10b0, H⟩ := ifd_ H
   obtain ⟨c11b0, H⟩ := ifd_ H
   by_cases c12 : (rdOf ByteArray.empty l0 x7_1).toList = a1.toList
   · rw [if_pos c12] at H
     have c12b0 : ((rdOf ByteArray.empty l0 x7_1).toList == a1.toList) = true := beq_iff_eq.mpr c12
     have c12b1 : ((rdOf ByteArray.empty l0 x7_1).toList != a1.toList) = false := bne_eq_false_iff_eq.mpr c12
     clear c12
     simp only [Option.some.injEq, Prod.mk.injEq] at H
     obtain ⟨rfl, rfl⟩ := H
     have p207 := pt_ x7_1
     have q207 := qt_ x7_1 l0.length
     obtain ⟨ad207, e207, hx207_0⟩ := Kd.at_string HR0.out x7_1 (oe_ p207) (oe_ q207)
     cases e207
     go_wp2
     go_ret2
     exact ⟨ra_, dr_⟩
   rw [if_neg c12] at H
   have c12b0 : ((rdOf ByteArray.empty l0 x7_1).toList == a1.toList) = false := beq_eq_false_iff_ne.mpr c12
   have c12b1 : ((rdOf ByteArray.empty l0 x7_1).toList != a1.toList) = true := bne_iff_ne.mpr c12
   obtain ⟨t209, A13, H⟩ := bs_ H
   by_cases c14 : t209 = true
   · subst c14
     rw [if_pos rfl] at H
     obtain ⟨t210, A15, H⟩ := bs_ H
     simp only [Option.some.injEq, Prod.mk.injEq] at H
     obtain ⟨rfl, rfl⟩ := H
     have p207 := pt_ x7_1
     have q207 := qt_ x7_1 l0.length
     obtain ⟨ad207, e207, hx207_0⟩ := Kd.at_string HR0.out x7_1 (oe_ p207) (oe_ q207)
     cases e207
     have p208 := pt_ x7_1
     have q208 := qt_ x7_1 l0.length
     obtain ⟨ad208, e208, hx208_0⟩ := Kd.at_string HR0.out x7_1 (oe_ p208) (oe_ q208)
     obtain rfl : ad207 = ad208 := (by injection e208)
     go_wp2_with (first | (go_at_call 150; refine (slices_isNaN_string.calls (rdOf ByteArray.empty l0 x7_1) true _ gd_ A13.out).mono ?_; rintro e w' ⟨rfl, ⟨nd, rfl⟩⟩) | (go_at_call 150; refine (slices_isNaN_string.calls a1 t210 _ gd_ A15.out).mono ?_; rintro e w' ⟨rfl, ⟨nd, rfl⟩⟩))
     go_ret2
     exact ⟨ra_, dr_⟩
   obtain rfl := bf_ c14
   clear c14
   rw [if_neg ft_] at H
   simp only [Option.some.injEq, Prod.mk.injEq] at H
   obtain ⟨rfl, rfl⟩ := H
   have p207 := pt_ x7_1
   have q207 := qt_ x7_1 l0.length
   obtain ⟨ad207, e207, hx207_0⟩ := Kd.at_string HR0.out x7_1 (oe_ p207) (oe_ q207)
   cases e207
   have p208 := pt_ x7_1
   have q208 := qt_ x7_1 l0.length
   obtain ⟨ad208, e208, hx208_0⟩ := Kd.at_string HR0.out x7_1 (oe_ p208) (oe_ q208)
   obtain rfl : ad207 = ad208 := (by injection e208)
   go_wp2_with (first | (go_at_call 150; refine (slices_isNaN_string.calls (rdOf ByteArray.empty l0 x7_1) false _ gd_ A13.out).mono ?_; rintro e w' ⟨rfl, ⟨nd, rfl⟩⟩))
   go_ret2
   exact ⟨ra_, dr_⟩
def dM.l0 : Nat → ByteArray → List (S66) → Int → Int → Option (ByteArray × List ByteArray × Int × Int)
 | 0, _, _, _, _ => none
 | k + 1, x1, x10, x11, x12 => if x12 < x11 then (if 0 ≤ x12 then (if x12 < (x10.length : Int) then ((bI.f k ((aV x10 x12).f1) x1).bind fun bt215 => (if bt215.2 = true then (if x1.toList = ([] : List UInt8) then (dM.l0 k x1 x10 x11 (wrap64 (x12 + 1))) else (some ((aV x10 x12).f0, (aV x10 x12).f1, (aV x10 x12).f2, (aV x10 x12).f3))) else (dM.l0 k x1 x10 x11 (wrap64 (x12 + 1))))) else (none)) else (none)) else (some ((⟨#[]⟩ : ByteArray), ([] : List ByteArray), 0, 0))
def dM.f (k : Nat) (a0_0 : Int) (a0_1 : Int) (a0_2 : Int) (a0_3 : Int) (a0_4 : Int) (l0_5 : List (S66)) (l0_6 : List (S68)) (a1 : ByteArray) : Option (ByteArray × List ByteArray × Int × Int) := dM.l0 k a1 l0_5 (l0_5.length : Int) 0
theorem dM.calls (k : Nat) (a0_0 : Int) (a0_1 : Int) (a0_2 : Int) (a0_3 : Int) (a0_4 : Int) (P0_5_ : Nat → Prop) (A0_5 : Option Addr) (c0_5 : Nat) (l0_5 : List (S66)) (A0_6 : Option Addr) (c0_6 : Nat) (l0_6 : List (S68)) (a1 : ByteArray) (r1 : ByteArray) (r2 : List ByteArray) (r3 : Int) (r4 : Int) (w : World) (hG : Tryz.GW w) (hs0_5 : Kd.V k66 66 w w.heap.size (fun k_ => P0_5_ k_) (.slice A0_5 l0_5.length c0_5) l0_5) (hr0_6 : Kd.C k68 w A0_6 l0_6.length l0_6) (hc0_6 : l0_6.length ≤ c0_6) (h : dM.f k a0_0 a0_1 a0_2 a0_3 a0_4 l0_5 l0_6 a1 = some (r1, r2, r3, r4)) :
 Calls Tryz.prog 82 #[.agg #[.int .i64 a0_0, .int .i64 a0_1, .int .i64 a0_2, .int .i64 a0_3, .int .i64 a0_4, .slice A0_5 l0_5.length c0_5, .slice A0_6 l0_6.length c0_6], .string a1] w fun e w' => ∃ v1_ : Value, e = .returned (.agg #[.string r1, v1_, .int .i64 r3, .int .i64 r4]) ∧ Kd.V Kd.string 9 w' w.heap.size (fun k_ => (P0_5_ k_ ∨ w.heap.size ≤ k_)) v1_ r2 ∧ Below w.heap.size w w' := by
 have hu25 := Tryz.underlying25
 have hu66 := Tryz.underlying66
 have HO0_5 := am_ (show Kd.V k66 66 w w.heap.size (fun k_ => (P0_5_ k_ ∨ w.heap.size ≤ k_)) (.slice A0_5 l0_5.length c0_5) l0_5 from Kd.V_mono hs0_5 (fun k_ hk => .inl hk))
 have HR0_6 := am_ hr0_6
 have HC0_6 := am_ hc0_6
 clear hr0_6 hc0_6
 have HG := am_ hG
 clear hG
 have HB := am_ (Below.refl w.heap.size w)
 have H : (dM.l0 k a1 l0_5 (l0_5.length : Int) 0) = some (r1, r2, r3, r4) := h
 clear h
 replace H := am_ H
 go_enter Tryz.func82, Tryz.ntmps82
 go_wp2_with (first | ((with_reducible refine gn_ 2 rfl ?_); refine bq_ (N := 2) (cs := #[.int .i64 a0_0, .int .i64 a0_1, .int .i64 a0_2, .int .i64 a0_3, .int .i64 a0_4, .slice A0_5 l0_5.length c0_5, .slice A0_6 l0_6.length c0_6]) (t := 25) ?_; intro gb211 hg w3 BK211 hb; have GW211 := ga_ w hg; have GE211 := GW211; replace HO0_5 := am_ (Kd.V_below (Kd.V_elderB (vv_ HO0_5) gb211 (Nat.le_of_eq hg.symm)) hb); replace HB := bp_ hb; clear hb hg) | ((with_reducible refine gn_ 4 rfl ?_); refine bq_ (N := 4) (cs := #[.string (⟨#[]⟩ : ByteArray), .slice none 0 0, .int .i64 0, .int .i64 0]) (t := 66) ?_; intro gb212 hg w4 BK212 hb; have GW212 := ga_ w hg; have GE212 := GW212; have NB211_212 := am_ ((nl_ hg BK211 : gb211 ≠ gb212)); have NB212_211 := am_ ((ng_ hg BK211 : gb212 ≠ gb211)); replace HO0_5 := am_ (Kd.V_below (Kd.V_elderB (vv_ HO0_5) gb212 (Nat.le_of_eq hg.symm)) hb); replace BK211 := bb_ BK211 hb; replace HB := bp_ hb; clear hb hg; have hnb5 := NB211_212.out; have hnc5 := NB212_211.out; have bz6 := bc7_ BK211))
 go_loopg [12] k (fun kq v12 w' => ∃ (x12_1 : Int) (x213000_1 : ByteArray) (x213002_1 : Int) (x213003_1 : Int), v12 = .int .i64 x12_1 ∧ Aside0 (dM.l0 kq a1 l0_5 (l0_5.length : Int) x12_1 = some (r1, r2, r3, r4)) ∧ Aside0 (kq ≤ k) ∧ Aside0 (Kd.V k66 66 w' w.heap.size (fun k_ => (P0_5_ k_ ∨ w.heap.size ≤ k_) ∧ k_ ≠ gb211 ∧ k_ ≠ gb212) (.slice A0_5 l0_5.length c0_5) l0_5) ∧ Aside0 (Kd.V k66 66 w' w.heap.size (fun k_ => (P0_5_ k_ ∨ w.heap.size ≤ k_) ∧ k_ ≠ gb211 ∧ k_ ≠ gb212) (.slice A0_5 l0_5.length c0_5) l0_5) ∧ Aside0 (w'.heap[gb211]? = some (.cells #[.int .i64 a0_0, .int .i64 a0_1, .int .i64 a0_2, .int .i64 a0_3, .int .i64 a0_4, (.slice A0_5 l0_5.length c0_5), (.slice A0_6 l0_6.length c0_6)] 25 (0, 0))) ∧ Aside0 (w'.heap[gb212]? = some (.cells #[.string x213000_1, (.slice none 0 0), .int .i64 x213002_1, .int .i64 x213003_1] 66 (0, 0))) ∧ Aside0 (Below w.heap.size w w'))
 case atStart => exact ⟨(0), ((⟨#[]⟩ : ByteArray)), (0), (0), ra_, H, ⟨Nat.le_refl _⟩, ⟨by (with_reducible repeat (first | apply Kd.V_alloc | apply Kd.V_drewN | apply Kd.V_drew)); exact Kd.V_mono HO0_5.out (fun _ hk => ⟨hk.1.1, ⟨hk.1.2, hk.2⟩⟩)⟩, ⟨by (with_reducible repeat (first | apply Kd.V_alloc | apply Kd.V_drewN | apply Kd.V_drew)); exact Kd.V_mono HO0_5.out (fun _ hk => ⟨hk.1.1, ⟨hk.1.2, hk.2⟩⟩)⟩, ⟨bk_ BK211⟩, ⟨bk_ BK212⟩, ⟨bl_⟩⟩
 case round =>
  clear H
  try clear p2
  try clear c5
  try clear hcz6_0 hcz6_1 hcz6_2 hcz6_3 hcz6_4 hcz6_5 hcz6_6 hfz6_0 hfz6_1 hfz6_2 hfz6_3 hfz6_4 hfz6_5 hfz6_6
  obtain ⟨x12_1, x213000_1, x213002_1, x213003_1, rfl, HA, HK1, HO_10, HO_212005, BK211, BK212, HB⟩ := hrel
  cases gk with
  | zero => exact absurd HA.out (by simp [dM.l0])
  | succ k1 =>
   have H := HA.out
   clear HA
   simp only [dM.l0] at H
   by_cases c7 : x12_1 < (l0_5.length : Int)
   rotate_left
   · rw [if_neg c7] at H
     have c7b0 := decide_eq_false c7
     clear c7
     simp only [Option.some.injEq, Prod.mk.injEq] at H
     obtain ⟨rfl, rfl, rfl, rfl⟩ := H
     have hnb27 := NB212_211.out
     have hnc27 := NB211_212.out
     have bz28 := bc4_ BK212
     go_wp2
     refine bodyPost_ret (results_cell_row rfl _ _ gb212 66 #[.string (⟨#[]⟩ : ByteArray), .slice none 0 0, .int .i64 0, .int .i64 0] (0, 0) _ rfl (bw_ BK212) Tryz.underlying66 rfl (by kernel_rfl)) rfl ?_
     exact ⟨_, er_, Kd.V_nil _ _ _ _ _, bl_⟩
   rw [if_pos c7] at H
   have c7b0 := decide_eq_true c7
   clear c7
   obtain ⟨c8b0, H⟩ := ifd_ H
   obtain ⟨c9b0, H⟩ := ifd_ H
   obtain ⟨⟨t215, t216⟩, A10, H⟩ := bs_ H
   by_cases c11 : t216 = true
   rotate_left
   · obtain rfl := bf_ c11
     clear c11
     rw [if_neg ft_] at H
     replace H := am_ H
     have p213 : 0 ≤ (x12_1 : Int) := dt_
     have q213 : x12_1 < (l0_5.length : Int) := dt_
     obtain ⟨ad213, A213_1, c213_1, e213, hx213_0, hx213_1, hx213_2, hx213_3, hl213_1, hi213_1⟩ := iF (Kd.V_reads' HO_10.out).2.2 x12_1 p213 q213
     cases e213
     obtain ⟨ce213, hce213, hMe213, hcc213⟩ := Kd.V_get HO_10.out z66 x12_1 p213 (by first | exact q213 | exact dt_ | (have e_ := (Kd.V_reads' HO_10.out).1; omega))
     obtain ⟨ua213_1, uc213_1, rfl, ul213_1, ge213_1⟩ := jC hMe213
     have hv213_1 := hcc213 1 _ rfl
     rw [add_field _ _ 1 (by omega)] at hv213_1
     replace hv213_1 := Option.some.inj (hv213_1.symm.trans hx213_1)
     injection hv213_1 with hva_ hvn_ hvc_
     rw [hva_] at ge213_1
     rw [hvc_] at ul213_1
     have HL213_1 := am_ (show Kd.V Kd.string 9 _ w.heap.size _ _ ((aV l0_5 x12_1).f1) from Kd.V_mk ul213_1 ge213_1)
     clear hva_ hvn_ hvc_ ge213_1 ul213_1
     clear hcc213 hce213
     have HR213_1 := am_ hi213_1
     have HC213_1 := am_ hl213_1
     clear hi213_1 hl213_1
     replace p213 := eq_true p213
     replace q213 := eq_true q213
     go_wp2_with (first | ((with_reducible refine gn_ 6 rfl ?_); refine bq_ (N := 6) (cs := #[.string (⟨#[]⟩ : ByteArray), .slice none 0 0, .int .i64 0, .int .i64 0]) (t := 66) ?_; intro gb214 hg w23 BK214 hb; have GW214 := ga_ w hg; have GE214 := GW214; have NB211_214 := am_ ((nl_ hg BK211 : gb211 ≠ gb214)); have NB214_211 := am_ ((ng_ hg BK211 : gb214 ≠ gb211)); have NB212_214 := am_ ((nl_ hg BK212 : gb212 ≠ gb214)); have NB214_212 := am_ ((ng_ hg BK212 : gb214 ≠ gb212)); replace HO_10 := am_ (Kd.V_below (Kd.V_elderB (vv_ HO_10) gb214 (Nat.le_of_eq hg.symm)) hb); replace HO_212005 := am_ (Kd.V_below (Kd.V_elderB (vv_ HO_212005) gb214 (Nat.le_of_eq hg.symm)) hb); replace HL213_1 := am_ (Kd.V_below (Kd.V_elderB (vv_ HL213_1) gb214 (Nat.le_of_eq hg.symm)) hb); replace BK211 := bb_ BK211 hb; replace BK212 := bb_ BK212 hb; replace HR213_1 := am_ (Kd.C_below (by repeat (first | (with_reducible exact HR213_1.out) | (with_reducible refine Kd.C_alloc ?_ _) | (with_reducible refine Kd.C_drewN ?_ _) | (with_reducible refine Kd.C_drew ?_) | exact HR213_1.out)) hb); replace HB := bp_ hb; clear hb hg; have hnb24 := NB214_211.out; have hnc24 := NB211_214.out; have hnb25 := NB214_212.out; have hnc25 := NB212_214.out; have bz26 := bc4_ BK214) | ((with_reducible refine gf_ 123 rfl ?_); refine gl_ (some 20) Tryz.func123 #[.slice A213_1 ((aV l0_5 x12_1).f1).length c213_1, .string a1] ?_; refine (bI.calls k1 _ _ ((aV l0_5 x12_1).f1) a1 t215 false _ (gw_ HG.out) (by repeat (first | exact ((Kd.V_reads' (by (with_reducible repeat (first | apply Kd.V_alloc | apply Kd.V_drewN | apply Kd.V_drew)); exact (Kd.V_mono (Kd.V_far (p := ⟨gb214, 3, none⟩) (Kd.V_far (p := ⟨gb214, 2, none⟩) (Kd.V_far (p := ⟨gb214, 1, none⟩) (Kd.V_far (p := ⟨gb214, 0, none⟩) (Kd.V_mono HL213_1.out (fun k_ hk => (⟨hk, hk.2⟩ : _ ∧ k_ ≠ gb214))) (fun _ hk => hk.2) (.string ((aV l0_5 x12_1).f0))) (fun _ hk => hk.2) (.slice A213_1 ((aV l0_5 x12_1).f1).length c213_1)) (fun _ hk => hk.2) (.int .i64 ((aV l0_5 x12_1).f2))) (fun _ hk => hk.2) (.int .i64 ((aV l0_5 x12_1).f3))) (fun _ h_ => h_.1)))).2.2) | (with_reducible refine Kd.C_alloc ?_ _) | (with_reducible refine Kd.C_drewN ?_ _) | (with_reducible refine Kd.C_drew ?_))) HC213_1.out A10.out).mono ?_; rintro e w' ⟨rfl, ⟨nd, rfl⟩⟩; refine ⟨_, rfl, ?_⟩))
     go_roundg k1
     case measure => have := HK1.out; omega
     case rel => exact ⟨(wrap64 (x12_1 + 1)), (x213000_1), (x213002_1), (x213003_1), ra_, H, ⟨by have := HK1.out; omega⟩, ⟨by (with_reducible repeat (first | apply Kd.V_alloc | apply Kd.V_drewN | apply Kd.V_drew)); exact Kd.V_mono (Kd.V_far (p := ⟨gb214, 3, none⟩) (Kd.V_far (p := ⟨gb214, 2, none⟩) (Kd.V_far (p := ⟨gb214, 1, none⟩) (Kd.V_far (p := ⟨gb214, 0, none⟩) (Kd.V_mono HO_10.out (fun k_ hk => (⟨hk, hk.2⟩ : _ ∧ k_ ≠ gb214))) (fun _ hk => hk.2) (.string ((aV l0_5 x12_1).f0))) (fun _ hk => hk.2) (.slice A213_1 ((aV l0_5 x12_1).f1).length c213_1)) (fun _ hk => hk.2) (.int .i64 ((aV l0_5 x12_1).f2))) (fun _ hk => hk.2) (.int .i64 ((aV l0_5 x12_1).f3))) (fun _ hk => ⟨hk.1.1.1, ⟨hk.1.1.2.1, hk.1.1.2.2⟩⟩)⟩, ⟨by (with_reducible repeat (first | apply Kd.V_alloc | apply Kd.V_drewN | apply Kd.V_drew)); exact Kd.V_mono (Kd.V_far (p := ⟨gb214, 3, none⟩) (Kd.V_far (p := ⟨gb214, 2, none⟩) (Kd.V_far (p := ⟨gb214, 1, none⟩) (Kd.V_far (p := ⟨gb214, 0, none⟩) (Kd.V_mono HO_212005.out (fun k_ hk => (⟨hk, hk.2⟩ : _ ∧ k_ ≠ gb214))) (fun _ hk => hk.2) (.string ((aV l0_5 x12_1).f0))) (fun _ hk => hk.2) (.slice A213_1 ((aV l0_5 x12_1).f1).length c213_1)) (fun _ hk => hk.2) (.int .i64 ((aV l0_5 x12_1).f2))) (fun _ hk => hk.2) (.int .i64 ((aV l0_5 x12_1).f3))) (fun _ hk => ⟨hk.1.1.1, ⟨hk.1.1.2.1, hk.1.1.2.2⟩⟩)⟩, ⟨by (with_reducible repeat (first | refine blk_drewN ?_ _ | refine blk_drew ?_ | refine blk_alloc ?_ _)); refine blk_far ?_ NB211_214.out _; (with_reducible repeat (first | refine blk_drewN ?_ _ | refine blk_drew ?_ | refine blk_alloc ?_ _)); refine blk_far ?_ NB211_214.out _; (with_reducible repeat (first | refine blk_drewN ?_ _ | refine blk_drew ?_ | refine blk_alloc ?_ _)); refine blk_far ?_ NB211_214.out _; (with_reducible repeat (first | refine blk_drewN ?_ _ | refine blk_drew ?_ | refine blk_alloc ?_ _)); refine blk_far ?_ NB211_214.out _; (with_reducible repeat (first | refine blk_drewN ?_ _ | refine blk_drew ?_ | refine blk_alloc ?_ _)); exact BK211.out⟩, ⟨by (with_reducible repeat (first | refine blk_drewN ?_ _ | refine blk_drew ?_ | refine blk_alloc ?_ _)); refine blk_far ?_ NB212_214.out _; (with_reducible repeat (first | refine blk_drewN ?_ _ | refine blk_drew ?_ | refine blk_alloc ?_ _)); refine blk_far ?_ NB212_214.out _; (with_reducible repeat (first | refine blk_drewN ?_ _ | refine blk_drew ?_ | refine blk_alloc ?_ _)); refine blk_far ?_ NB212_214.out _; (with_reducible repeat (first | refine blk_drewN ?_ _ | refine blk_drew ?_ | refine blk_alloc ?_ _)); refine blk_far ?_ NB212_214.out _; (with_reducible repeat (first | refine blk_drewN ?_ _ | refine blk_drew ?_ | refine blk_alloc ?_ _)); exact BK212.out⟩, ⟨bl_⟩⟩
   subst c11
   rw [if_pos rfl] at H
   by_cases c12 : a1.toList = ([] : List UInt8)
   · rw [if_pos c12] at H
     have c12b0 : (a1.toList == ([] : List UInt8)) = true := beq_iff_eq.mpr c12
     have c12b1 : (a1.toList != ([] : List UInt8)) = false := bne_eq_false_iff_eq.mpr c12
     clear c12
     replace H := am_ H
     have p213 : 0 ≤ (x12_1 : Int) := dt_
     have q213 : x12_1 < (l0_5.length : Int) := dt_
     obtain ⟨ad213, A213_1, c213_1, e213, hx213_0, hx213_1, hx213_2, hx213_3, hl213_1, hi213_1⟩ := iF (Kd.V_reads' HO_10.out).2.2 x12_1 p213 q213
     cases e213
     obtain ⟨ce213, hce213, hMe213, hcc213⟩ := Kd.V_get HO_10.out z66 x12_1 p213 (by first | exact q213 | exact dt_ | (have e_ := (Kd.V_reads' HO_10.out).1; omega))
     obtain ⟨ua213_1, uc213_1, rfl, ul213_1, ge213_1⟩ := jC hMe213
     have hv213_1 := hcc213 1 _ rfl
     rw [add_field _ _ 1 (by omega)] at hv213_1
     replace hv213_1 := Option.some.inj (hv213_1.symm.trans hx213_1)
     injection hv213_1 with hva_ hvn_ hvc_
     rw [hva_] at ge213_1
     rw [hvc_] at ul213_1
     have HL213_1 := am_ (show Kd.V Kd.string 9 _ w.heap.size _ _ ((aV l0_5 x12_1).f1) from Kd.V_mk ul213_1 ge213_1)
     clear hva_ hvn_ hvc_ ge213_1 ul213_1
     clear hcc213 hce213
     have HR213_1 := am_ hi213_1
     have HC213_1 := am_ hl213_1
     clear hi213_1 hl213_1
     replace p213 := eq_true p213
     replace q213 := eq_true q213
     go_wp2_with (first | ((with_reducible refine gn_ 6 rfl ?_); refine bq_ (N := 6) (cs := #[.string (⟨#[]⟩ : ByteArray), .slice none 0 0, .int .i64 0, .int .i64 0]) (t := 66) ?_; intro gb214 hg w13 BK214 hb; have GW214 := ga_ w hg; have GE214 := GW214; have NB211_214 := am_ ((nl_ hg BK211 : gb211 ≠ gb214)); have NB214_211 := am_ ((ng_ hg BK211 : gb214 ≠ gb211)); have NB212_214 := am_ ((nl_ hg BK212 : gb212 ≠ gb214)); have NB214_212 := am_ ((ng_ hg BK212 : gb214 ≠ gb212)); replace HO_10 := am_ (Kd.V_below (Kd.V_elderB (vv_ HO_10) gb214 (Nat.le_of_eq hg.symm)) hb); replace HO_212005 := am_ (Kd.V_below (Kd.V_elderB (vv_ HO_212005) gb214 (Nat.le_of_eq hg.symm)) hb); replace HL213_1 := am_ (Kd.V_below (Kd.V_elderB (vv_ HL213_1) gb214 (Nat.le_of_eq hg.symm)) hb); replace BK211 := bb_ BK211 hb; replace BK212 := bb_ BK212 hb; replace HR213_1 := am_ (Kd.C_below (by repeat (first | (with_reducible exact HR213_1.out) | (with_reducible refine Kd.C_alloc ?_ _) | (with_reducible refine Kd.C_drewN ?_ _) | (with_reducible refine Kd.C_drew ?_) | exact HR213_1.out)) hb); replace HB := bp_ hb; clear hb hg; have hnb14 := NB214_211.out; have hnc14 := NB211_214.out; have hnb15 := NB214_212.out; have hnc15 := NB212_214.out; have bz16 := bc4_ BK214) | ((with_reducible refine gf_ 123 rfl ?_); refine gl_ (some 20) Tryz.func123 #[.slice A213_1 ((aV l0_5 x12_1).f1).length c213_1, .string a1] ?_; refine (bI.calls k1 _ _ ((aV l0_5 x12_1).f1) a1 t215 true _ (gw_ HG.out) (by repeat (first | exact ((Kd.V_reads' (by (with_reducible repeat (first | apply Kd.V_alloc | apply Kd.V_drewN | apply Kd.V_drew)); exact (Kd.V_mono (Kd.V_far (p := ⟨gb214, 3, none⟩) (Kd.V_far (p := ⟨gb214, 2, none⟩) (Kd.V_far (p := ⟨gb214, 1, none⟩) (Kd.V_far (p := ⟨gb214, 0, none⟩) (Kd.V_mono HL213_1.out (fun k_ hk => (⟨hk, hk.2⟩ : _ ∧ k_ ≠ gb214))) (fun _ hk => hk.2) (.string ((aV l0_5 x12_1).f0))) (fun _ hk => hk.2) (.slice A213_1 ((aV l0_5 x12_1).f1).length c213_1)) (fun _ hk => hk.2) (.int .i64 ((aV l0_5 x12_1).f2))) (fun _ hk => hk.2) (.int .i64 ((aV l0_5 x12_1).f3))) (fun _ h_ => h_.1)))).2.2) | (with_reducible refine Kd.C_alloc ?_ _) | (with_reducible refine Kd.C_drewN ?_ _) | (with_reducible refine Kd.C_drew ?_))) HC213_1.out A10.out).mono ?_; rintro e w' ⟨rfl, ⟨nd, rfl⟩⟩; refine ⟨_, rfl, ?_⟩))
     go_roundg k1
     case measure => have := HK1.out; omega
     case rel => exact ⟨(wrap64 (x12_1 + 1)), (x213000_1), (x213002_1), (x213003_1), ra_, H, ⟨by have := HK1.out; omega⟩, ⟨by (with_reducible repeat (first | apply Kd.V_alloc | apply Kd.V_drewN | apply Kd.V_drew)); exact Kd.V_mono (Kd.V_far (p := ⟨gb214, 3, none⟩) (Kd.V_far (p := ⟨gb214, 2, none⟩) (Kd.V_far (p := ⟨gb214, 1, none⟩) (Kd.V_far (p := ⟨gb214, 0, none⟩) (Kd.V_mono HO_10.out (fun k_ hk => (⟨hk, hk.2⟩ : _ ∧ k_ ≠ gb214))) (fun _ hk => hk.2) (.string ((aV l0_5 x12_1).f0))) (fun _ hk => hk.2) (.slice A213_1 ((aV l0_5 x12_1).f1).length c213_1)) (fun _ hk => hk.2) (.int .i64 ((aV l0_5 x12_1).f2))) (fun _ hk => hk.2) (.int .i64 ((aV l0_5 x12_1).f3))) (fun _ hk => ⟨hk.1.1.1, ⟨hk.1.1.2.1, hk.1.1.2.2⟩⟩)⟩, ⟨by (with_reducible repeat (first | apply Kd.V_alloc | apply Kd.V_drewN | apply Kd.V_drew)); exact Kd.V_mono (Kd.V_far (p := ⟨gb214, 3, none⟩) (Kd.V_far (p := ⟨gb214, 2, none⟩) (Kd.V_far (p := ⟨gb214, 1, none⟩) (Kd.V_far (p := ⟨gb214, 0, none⟩) (Kd.V_mono HO_212005.out (fun k_ hk => (⟨hk, hk.2⟩ : _ ∧ k_ ≠ gb214))) (fun _ hk => hk.2) (.string ((aV l0_5 x12_1).f0))) (fun _ hk => hk.2) (.slice A213_1 ((aV l0_5 x12_1).f1).length c213_1)) (fun _ hk => hk.2) (.int .i64 ((aV l0_5 x12_1).f2))) (fun _ hk => hk.2) (.int .i64 ((aV l0_5 x12_1).f3))) (fun _ hk => ⟨hk.1.1.1, ⟨hk.1.1.2.1, hk.1.1.2.2⟩⟩)⟩, ⟨by (with_reducible repeat (first | refine blk_drewN ?_ _ | refine blk_drew ?_ | refine blk_alloc ?_ _)); refine blk_far ?_ NB211_214.out _; (with_reducible repeat (first | refine blk_drewN ?_ _ | refine blk_drew ?_ | refine blk_alloc ?_ _)); refine blk_far ?_ NB211_214.out _; (with_reducible repeat (first | refine blk_drewN ?_ _ | refine blk_drew ?_ | refine blk_alloc ?_ _)); refine blk_far ?_ NB211_214.out _; (with_reducible repeat (first | refine blk_drewN ?_ _ | refine blk_drew ?_ | refine blk_alloc ?_ _)); refine blk_far ?_ NB211_214.out _; (with_reducible repeat (first | refine blk_drewN ?_ _ | refine blk_drew ?_ | refine blk_alloc ?_ _)); exact BK211.out⟩, ⟨by (with_reducible repeat (first | refine blk_drewN ?_ _ | refine blk_drew ?_ | refine blk_alloc ?_ _)); refine blk_far ?_ NB212_214.out _; (with_reducible repeat (first | refine blk_drewN ?_ _ | refine blk_drew ?_ | refine blk_alloc ?_ _)); refine blk_far ?_ NB212_214.out _; (with_reducible repeat (first | refine blk_drewN ?_ _ | refine blk_drew ?_ | refine blk_alloc ?_ _)); refine blk_far ?_ NB212_214.out _; (with_reducible repeat (first | refine blk_drewN ?_ _ | refine blk_drew ?_ | refine blk_alloc ?_ _)); refine blk_far ?_ NB212_214.out _; (with_reducible repeat (first | refine blk_drewN ?_ _ | refine blk_drew ?_ | refine blk_alloc ?_ _)); exact BK212.out⟩, ⟨bl_⟩⟩
   rw [if_neg c12] at H
   have c12b0 : (a1.toList == ([] : List UInt8)) = false := beq_eq_false_iff_ne.mpr c12
   have c12b1 : (a1.toList != ([] : List UInt8)) = true := bne_iff_ne.mpr c12
   simp only [Option.some.injEq, Prod.mk.injEq] at H
   obtain ⟨rfl, rfl, rfl, rfl⟩ := H
   have p213 : 0 ≤ (x12_1 : Int) := dt_
   have q213 : x12_1 < (l0_5.length : Int) := dt_
   obtain ⟨ad213, A213_1, c213_1, e213, hx213_0, hx213_1, hx213_2, hx213_3, hl213_1, hi213_1⟩ := iF (Kd.V_reads' HO_10.out).2.2 x12_1 p213 q213
   cases e213
   obtain ⟨ce213, hce213, hMe213, hcc213⟩ := Kd.V_get HO_10.out z66 x12_1 p213 (by first | exact q213 | exact dt_ | (have e_ := (Kd.V_reads' HO_10.out).1; omega))
   obtain ⟨ua213_1, uc213_1, rfl, ul213_1, ge213_1⟩ := jC hMe213
   have hv213_1 := hcc213 1 _ rfl
   rw [add_field _ _ 1 (by omega)] at hv213_1
   replace hv213_1 := Option.some.inj (hv213_1.symm.trans hx213_1)
   injection hv213_1 with hva_ hvn_ hvc_
   rw [hva_] at ge213_1
   rw [hvc_] at ul213_1
   have HL213_1 := am_ (show Kd.V Kd.string 9 _ w.heap.size _ _ ((aV l0_5 x12_1).f1) from Kd.V_mk ul213_1 ge213_1)
   clear hva_ hvn_ hvc_ ge213_1 ul213_1
   clear hcc213 hce213
   have HR213_1 := am_ hi213_1
   have HC213_1 := am_ hl213_1
   clear hi213_1 hl213_1
   replace p213 := eq_true p213
   replace q213 := eq_true q213
   go_wp2_with (first | ((with_reducible refine gn_ 6 rfl ?_); refine bq_ (N := 6) (cs := #[.string (⟨#[]⟩ : ByteArray), .slice none 0 0, .int .i64 0, .int .i64 0]) (t := 66) ?_; intro gb214 hg w17 BK214 hb; have GW214 := ga_ w hg; have GE214 := GW214; have NB211_214 := am_ ((nl_ hg BK211 : gb211 ≠ gb214)); have NB214_211 := am_ ((ng_ hg BK211 : gb214 ≠ gb211)); have NB212_214 := am_ ((nl_ hg BK212 : gb212 ≠ gb214)); have NB214_212 := am_ ((ng_ hg BK212 : gb214 ≠ gb212)); replace HO_10 := am_ (Kd.V_below (Kd.V_elderB (vv_ HO_10) gb214 (Nat.le_of_eq hg.symm)) hb); replace HO_212005 := am_ (Kd.V_below (Kd.V_elderB (vv_ HO_212005) gb214 (Nat.le_of_eq hg.symm)) hb); replace HL213_1 := am_ (Kd.V_below (Kd.V_elderB (vv_ HL213_1) gb214 (Nat.le_of_eq hg.symm)) hb); replace BK211 := bb_ BK211 hb; replace BK212 := bb_ BK212 hb; replace HR213_1 := am_ (Kd.C_below (by repeat (first | (with_reducible exact HR213_1.out) | (with_reducible refine Kd.C_alloc ?_ _) | (with_reducible refine Kd.C_drewN ?_ _) | (with_reducible refine Kd.C_drew ?_) | exact HR213_1.out)) hb); replace HB := bp_ hb; clear hb hg; have hnb18 := NB214_211.out; have hnc18 := NB211_214.out; have hnb19 := NB214_212.out; have hnc19 := NB212_214.out; have bz20 := bc4_ BK214) | ((with_reducible refine gf_ 123 rfl ?_); refine gl_ (some 20) Tryz.func123 #[.slice A213_1 ((aV l0_5 x12_1).f1).length c213_1, .string a1] ?_; refine (bI.calls k1 _ _ ((aV l0_5 x12_1).f1) a1 t215 true _ (gw_ HG.out) (by repeat (first | exact ((Kd.V_reads' (by (with_reducible repeat (first | apply Kd.V_alloc | apply Kd.V_drewN | apply Kd.V_drew)); exact (Kd.V_mono (Kd.V_far (p := ⟨gb214, 3, none⟩) (Kd.V_far (p := ⟨gb214, 2, none⟩) (Kd.V_far (p := ⟨gb214, 1, none⟩) (Kd.V_far (p := ⟨gb214, 0, none⟩) (Kd.V_mono HL213_1.out (fun k_ hk => (⟨hk, hk.2⟩ : _ ∧ k_ ≠ gb214))) (fun _ hk => hk.2) (.string ((aV l0_5 x12_1).f0))) (fun _ hk => hk.2) (.slice A213_1 ((aV l0_5 x12_1).f1).length c213_1)) (fun _ hk => hk.2) (.int .i64 ((aV l0_5 x12_1).f2))) (fun _ hk => hk.2) (.int .i64 ((aV l0_5 x12_1).f3))) (fun _ h_ => h_.1)))).2.2) | (with_reducible refine Kd.C_alloc ?_ _) | (with_reducible refine Kd.C_drewN ?_ _) | (with_reducible refine Kd.C_drew ?_))) HC213_1.out A10.out).mono ?_; rintro e w' ⟨rfl, ⟨nd, rfl⟩⟩; refine ⟨_, rfl, ?_⟩; have hnb21 := NB212_211.out; have hnc21 := NB211_212.out; have bz22 := bc4_ BK212))
   refine bodyPost_ret (results_cell_row rfl _ _ gb212 66 #[.string ((aV l0_5 x12_1).f0), .slice A213_1 ((aV l0_5 x12_1).f1).length c213_1, .int .i64 ((aV l0_5 x12_1).f2), .int .i64 ((aV l0_5 x12_1).f3)] (0, 0) _ rfl (bw_ BK212) Tryz.underlying66 rfl (by kernel_rfl)) rfl ?_
   exact ⟨_, er_, by (with_reducible repeat (first | apply Kd.V_alloc | apply Kd.V_drewN | apply Kd.V_drew)); exact Kd.V_mono (Kd.V_far (p := ⟨gb212, 3, none⟩) (Kd.V_far (p := ⟨gb212, 2, none⟩) (Kd.V_far (p := ⟨gb212, 1, none⟩) (Kd.V_far (p := ⟨gb212, 0, none⟩) (Kd.V_far (p := ⟨gb214, 3, none⟩) (Kd.V_far (p := ⟨gb214, 2, none⟩) (Kd.V_far (p := ⟨gb214, 1, none⟩) (Kd.V_far (p := ⟨gb214, 0, none⟩) (Kd.V_mono (Kd.V_mono HL213_1.out (fun k_ hk => (⟨hk, hk.2⟩ : _ ∧ k_ ≠ gb214))) (fun k_ hk => (⟨hk, hk.1.1.2.2⟩ : _ ∧ k_ ≠ gb212))) (fun _ hk => hk.1.2) (.string ((aV l0_5 x12_1).f0))) (fun _ hk => hk.1.2) (.slice A213_1 ((aV l0_5 x12_1).f1).length c213_1)) (fun _ hk => hk.1.2) (.int .i64 ((aV l0_5 x12_1).f2))) (fun _ hk => hk.1.2) (.int .i64 ((aV l0_5 x12_1).f3))) (fun _ hk => hk.2) (.string ((aV l0_5 x12_1).f0))) (fun _ hk => hk.2) (.slice A213_1 ((aV l0_5 x12_1).f1).length c213_1)) (fun _ hk => hk.2) (.int .i64 ((aV l0_5 x12_1).f2))) (fun _ hk => hk.2) (.int .i64 ((aV l0_5 x12_1).f3))) (fun _ hk => hk.1.1.1.1), bl_⟩
def eG.f (k : Nat) (a0_0 : Int) (a0_1 : Int) (a0_2 : Int) (a0_3 : Int) (a0_4 : Int) (l0_5 : List (S66)) (l0_6 : List (S68)) (a1 : ByteArray) : Option (Int) := (dM.f k a0_0 a0_1 a0_2 a0_3 a0_4 l0_5 l0_6 a1).bind fun bt218 => (if bt218.2.2.1 > 0 then (some bt218.2.2.1) else (some a0_0))
theorem eG.calls (k : Nat) (a0_0 : Int) (a0_1 : Int) (a0_2 : Int) (a0_3 : Int) (a0_4 : Int) (A0_5 : Option Addr) (c0_5 : Nat) (l0_5 : List (S66)) (A0_6 : Option Addr) (c0_6 : Nat) (l0_6 : List (S68)) (a1 : ByteArray) (r : Int) (w : World) (hG : Tryz.GW w) (hr0_5 : Kd.C k66 w A0_5 l0_5.length l0_5) (hc0_5 : l0_5.length ≤ c0_5) (hr0_6 : Kd.C k68 w A0_6 l0_6.length l0_6) (hc0_6 : l0_6.length ≤ c0_6) (h : eG.f k a0_0 a0_1 a0_2 a0_3 a0_4 l0_5 l0_6 a1 = some r) :
 Calls Tryz.prog 78 #[.agg #[.int .i64 a0_0, .int .i64 a0_1, .int .i64 a0_2, .int .i64 a0_3, .int .i64 a0_4, .slice A0_5 l0_5.length c0_5, .slice A0_6 l0_6.length c0_6], .string a1] w fun e w' => e = .returned (.int .i64 r) ∧ Below w.heap.size w w' := by
 have hu25 := Tryz.underlying25
 have hu66 := Tryz.underlying66
 have hfd66_2 : ∀ (s0 : ByteArray) (A1 : Option Addr) (n1 c1 : Nat) (x2 : Int) (x3 : Int) (w : World), (Instr.field 66 (.agg #[.string s0, .slice A1 n1 c1, .int .i64 x2, .int .i64 x3]) 2).run Tryz.prog w = .ok (.int .i64 x2) w := by intros; kernel_rfl
 have HR0_5 := am_ hr0_5
 have HC0_5 := am_ hc0_5
 clear hr0_5 hc0_5
 have HR0_6 := am_ hr0_6
 have HC0_6 := am_ hc0_6
 clear hr0_6 hc0_6
 have HG := am_ hG
 clear hG
 have HB := am_ (Below.refl w.heap.size w)
 have H : ((dM.f k a0_0 a0_1 a0_2 a0_3 a0_4 l0_5 l0_6 a1).bind fun bt218 => (if bt218.2.2.1 > 0 then (some bt218.2.2.1) else (some a0_0))) = some r := h
 clear h
 obtain ⟨⟨t218, t219, t222, t223⟩, A3, H⟩ := bs_ H
 by_cases c4 : t222 > 0
 · rw [if_pos c4] at H
   have c4b0 : decide (0 < t222) = true := decide_eq_true c4
   clear c4
   obtain rfl := sj_ H
   go_enter Tryz.func78, Tryz.ntmps78
   go_wp2_with (first | ((with_reducible refine gn_ 2 rfl ?_); refine bq_ (N := 2) (cs := #[.int .i64 a0_0, .int .i64 a0_1, .int .i64 a0_2, .int .i64 a0_3, .int .i64 a0_4, .slice A0_5 l0_5.length c0_5, .slice A0_6 l0_6.length c0_6]) (t := 25) ?_; intro gb217 hg w5 BK217 hb; have GW217 := ga_ w hg; have GE217 := GW217; replace HB := bp_ hb; clear hb hg; have bz6 := bc7_ BK217) | ((with_reducible refine gf_ 82 rfl ?_); refine gl_ (some 8) Tryz.func82 #[.agg #[.int .i64 a0_0, .int .i64 a0_1, .int .i64 a0_2, .int .i64 a0_3, .int .i64 a0_4, .slice A0_5 l0_5.length c0_5, .slice A0_6 l0_6.length c0_6], .string a1] ?_; refine (dM.calls k a0_0 a0_1 a0_2 a0_3 a0_4 (fun k_ => k_ < w.heap.size) _ _ l0_5 _ _ l0_6 a1 t218 t219 t222 t223 _ (gw_ HG.out) (Kd.V_mk HC0_5.out (Kd.F_below (Kd.C_F iV HR0_5.out) bl_)) (cb_ (Kd.C_below HR0_6.out HB.out)) HC0_6.out A3.out).mono ?_; rintro e w7 ⟨v220, rfl, ho0, hb⟩; refine ⟨_, rfl, ?_⟩; have HO221 := am_ (Kd.V_lower (Kd.V_mono (ok' := fun k_ => k_ ≠ gb217) ho0 (fun k_ hk_ => Or.elim hk_ (fun hs_ => fun e_ => Nat.not_le.2 hs_ (by rw [e_]; exact GW217.out)) (fun hn_ => (Kd.freshB (g := gb217) (o := .cells #[.int .i64 a0_0, .int .i64 a0_1, .int .i64 a0_2, .int .i64 a0_3, .int .i64 a0_4, .slice A0_5 l0_5.length c0_5, .slice A0_6 l0_6.length c0_6] 25 (0, 0)) (bk_ BK217) k_ hn_)))) (below_size bl_)); replace BK217 := bb_ BK217 hb; replace HB := bp_ hb; (try clear hb); (try clear ho0); obtain ⟨Ax220, cx220, ex220⟩ := Kd.V_slice HO221.out; subst ex220))
   go_ret
   exact ⟨er_, bl_⟩
 rw [if_neg c4] at H
 have c4b0 : decide (0 < t222) = false := decide_eq_false c4
 clear c4
 obtain rfl := sj_ H
 go_enter Tryz.func78, Tryz.ntmps78
 go_wp2_with (first | ((with_reducible refine gn_ 2 rfl ?_); refine bq_ (N := 2) (cs := #[.int .i64 a0_0, .int .i64 a0_1, .int .i64 a0_2, .int .i64 a0_3, .int .i64 a0_4, .slice A0_5 l0_5.length c0_5, .slice A0_6 l0_6.length c0_6]) (t := 25) ?_; intro gb217 hg w8 BK217 hb; have GW217 := ga_ w hg; have GE217 := GW217; replace HB := bp_ hb; clear hb hg; have bz9 := bc7_ BK217) | ((with_reducible refine gf_ 82 rfl ?_); refine gl_ (some 8) Tryz.func82 #[.agg #[.int .i64 a0_0, .int .i64 a0_1, .int .i64 a0_2, .int .i64 a0_3, .int .i64 a0_4, .slice A0_5 l0_5.length c0_5, .slice A0_6 l0_6.length c0_6], .string a1] ?_; refine (dM.calls k a0_0 a0_1 a0_2 a0_3 a0_4 (fun k_ => k_ < w.heap.size) _ _ l0_5 _ _ l0_6 a1 t218 t219 t222 t223 _ (gw_ HG.out) (Kd.V_mk HC0_5.out (Kd.F_below (Kd.C_F iV HR0_5.out) bl_)) (cb_ (Kd.C_below HR0_6.out HB.out)) HC0_6.out A3.out).mono ?_; rintro e w10 ⟨v220, rfl, ho0, hb⟩; refine ⟨_, rfl, ?_⟩; have HO221 := am_ (Kd.V_lower (Kd.V_mono (ok' := fun k_ => k_ ≠ gb217) ho0 (fun k_ hk_ => Or.elim hk_ (fun hs_ => fun e_ => Nat.not_le.2 hs_ (by rw [e_]; exact GW217.out)) (fun hn_ => (Kd.freshB (g := gb217) (o := .cells #[.int .i64 a0_0, .int .i64 a0_1, .int .i64 a0_2, .int .i64 a0_3, .int .i64 a0_4, .slice A0_5 l0_5.length c0_5, .slice A0_6 l0_6.length c0_6] 25 (0, 0)) (bk_ BK217) k_ hn_)))) (below_size bl_)); replace BK217 := bb_ BK217 hb; replace HB := bp_ hb; (try clear hb); (try clear ho0); obtain ⟨Ax220, cx220, ex220⟩ := Kd.V_slice HO221.out; subst ex220; have bz11 := bc7_ BK217))
 go_ret
 exact ⟨er_, bl_⟩
def dN.l0 : Nat → ByteArray → ByteArray → Int → Int → List (S68) → Int → Int → Int → Int → Int → Int → Int → List (S66) → List (S68) → Int → Int → Option (Int)
 | 0, _, _, _, _, _, _, _, _, _, _, _, _, _, _, _, _ => none
 | k + 1, x1, x2, x3, x11, x15, x16, x17, x225000, x225001, x225002, x225003, x225004, x225005, x225006, x226000, x226001 => if x17 < x16 then (if 0 ≤ x17 then (if x17 < (x15.length : Int) then ((gV.f ((bG x15 x17).f0) ((bG x15 x17).f1) ((bG x15 x17).f2) x3).bind fun t228 => (if t228 = true then ((bY.f ((bG x15 x17).f1) x226000 x226001).bind fun t229 => (if t229 = true then (dN.l0 k x1 x2 x3 (mx x11 ((bG x15 x17).f2)) x15 x16 (wrap64 (x17 + 1)) x225000 x225001 x225002 x225003 x225004 x225005 x225006 x226000 x226001) else (dN.l0 k x1 x2 x3 x11 x15 x16 (wrap64 (x17 + 1)) x225000 x225001 x225002 x225003 x225004 x225005 x225006 x226000 x226001))) else (dN.l0 k x1 x2 x3 x11 x15 x16 (wrap64 (x17 + 1)) x225000 x225001 x225002 x225003 x225004 x225005 x225006 x226000 x226001))) else (none)) else (none)) else (if x11 ≥ 0 then (some x11) else ((eG.f k x225000 x225001 x225002 x225003 x225004 x225005 x225006 x1).bind fun t230 => ((eG.f k x225000 x225001 x225002 x225003 x225004 x225005 x225006 x2).bind fun t231 => (some (mx t230 t231)))))
def dN.f (k : Nat) (a0_0 : Int) (a0_1 : Int) (a0_2 : Int) (a0_3 : Int) (a0_4 : Int) (l0_5 : List (S66)) (l0_6 : List (S68)) (a1 : ByteArray) (a2 : ByteArray) (a3 : Int) (a4_0 : Int) (a4_1 : Int) : Option (Int) := dN.l0 k a1 a2 a3 (-1) l0_6 (l0_6.length : Int) 0 a0_0 a0_1 a0_2 a0_3 a0_4 l0_5 l0_6 a4_0 a4_1
def dN.T10 : Bool × List (List Nat × List Nat) := (true, [([], []), ([], []), ([0, 1], [0, 1]), ([], []), ([], []), ([3, 4, 2], [3, 4]), ([2, 5], [2, 5]), ([6, 5, 0, 1, 2, 3, 4, 5, 6], [6])])
def dN.B10 : List Nat := [0, 0, 3, 0, 0, 31, 63, 127]
theorem dN.tab10 : rtab .any (opsOf Tryz.f44 10) = dN.T10 := by kernel_rfl
theorem dN.bits10 : waitsOk dN.T10.2 dN.B10 = true := by kernel_rfl
theorem dN.calls (k : Nat) (a0_0 : Int) (a0_1 : Int) (a0_2 : Int) (a0_3 : Int) (a0_4 : Int) (A0_5 : Option Addr) (c0_5 : Nat) (l0_5 : List (S66)) (A0_6 : Option Addr) (c0_6 : Nat) (l0_6 : List (S68)) (a1 : ByteArray) (a2 : ByteArray) (a3 : Int) (a4_0 : Int) (a4_1 : Int) (r : Int) (w : World) (hG : Tryz.GW w) (hr0_5 : Kd.C k66 w A0_5 l0_5.length l0_5) (hc0_5 : l0_5.length ≤ c0_5) (hr0_6 : Kd.C k68 w A0_6 l0_6.length l0_6) (hc0_6 : l0_6.length ≤ c0_6) (h : dN.f k a0_0 a0_1 a0_2 a0_3 a0_4 l0_5 l0_6 a1 a2 a3 a4_0 a4_1 = some r) :
 Calls Tryz.prog 44 #[.agg #[.int .i64 a0_0, .int .i64 a0_1, .int .i64 a0_2, .int .i64 a0_3, .int .i64 a0_4, .slice A0_5 l0_5.length c0_5, .slice A0_6 l0_6.length c0_6], .string a1, .string a2, .int .i64 a3, .agg #[.int .i64 a4_0, .int .i64 a4_1]] w fun e w' => e = .returned (.int .i64 r) ∧ Below w.heap.size w w' := by
 have hu25 := Tryz.underlying25
 have hu33 := Tryz.underlying33
 have hu68 := Tryz.underlying68
 have HR0_5 := am_ hr0_5
 have HC0_5 := am_ hc0_5
 clear hr0_5 hc0_5
 have HR0_6 := am_ hr0_6
 have HC0_6 := am_ hc0_6
 clear hr0_6 hc0_6
 have HG := am_ hG
 clear hG
 have HB := am_ (Below.refl w.heap.size w)
 have H : (dN.l0 k a1 a2 a3 (-1) l0_6 (l0_6.length : Int) 0 a0_0 a0_1 a0_2 a0_3 a0_4 l0_5 l0_6 a4_0 a4_1) = some r := h
 clear h
 replace H := am_ H
 go_enter Tryz.func44, Tryz.ntmps44
 go_wp2_with (first | ((with_reducible refine gn_ 5 rfl ?_); refine bq_ (N := 5) (cs := #[.int .i64 a0_0, .int .i64 a0_1, .int .i64 a0_2, .int .i64 a0_3, .int .i64 a0_4, .slice A0_5 l0_5.length c0_5, .slice A0_6 l0_6.length c0_6]) (t := 25) ?_; intro gb224 hg w6 BK224 hb; have GW224 := ga_ w hg; have GE224 := GW224; replace HB := bp_ hb; clear hb hg) | ((with_reducible refine gn_ 9 rfl ?_); refine bq_ (N := 9) (cs := #[.int .i64 a4_0, .int .i64 a4_1]) (t := 33) ?_; intro gb225 hg w7 BK225 hb; have GW225 := ga_ w hg; have GE225 := GW225; have NB224_225 := am_ ((nl_ hg BK224 : gb224 ≠ gb225)); have NB225_224 := am_ ((ng_ hg BK224 : gb225 ≠ gb224)); replace BK224 := bb_ BK224 hb; replace HB := bp_ hb; clear hb hg; have hnb8 := NB224_225.out; have hnc8 := NB225_224.out; have bz9 := bc7_ BK224))
 go_loopg [11, 17] k (fun kq v11 v17 w' => ∃ (x11_1 : Int) (x17_1 : Int), v11 = .int .i64 x11_1 ∧ v17 = .int .i64 x17_1 ∧ Aside0 (dN.l0 kq a1 a2 a3 x11_1 l0_6 (l0_6.length : Int) x17_1 a0_0 a0_1 a0_2 a0_3 a0_4 l0_5 l0_6 a4_0 a4_1 = some r) ∧ Aside0 (kq ≤ k) ∧ Aside0 (w'.heap[gb224]? = some (.cells #[.int .i64 a0_0, .int .i64 a0_1, .int .i64 a0_2, .int .i64 a0_3, .int .i64 a0_4, (.slice A0_5 l0_5.length c0_5), (.slice A0_6 l0_6.length c0_6)] 25 (0, 0))) ∧ Aside0 (w'.heap[gb225]? = some (.cells #[.int .i64 a4_0, .int .i64 a4_1] 33 (0, 0))) ∧ Aside0 (Below w.heap.size w w'))
 case atStart => exact ⟨((-1)), (0), ra_, ra_, H, ⟨Nat.le_refl _⟩, ⟨bk_ BK224⟩, ⟨bk_ BK225⟩, ⟨bl_⟩⟩
 case round =>
  clear H
  try clear p2
  try clear c4
  try clear c8
  try clear hcz9_0 hcz9_1 hcz9_2 hcz9_3 hcz9_4 hcz9_5 hcz9_6 hfz9_0 hfz9_1 hfz9_2 hfz9_3 hfz9_4 hfz9_5 hfz9_6
  obtain ⟨x11_1, x17_1, rfl, rfl, HA, HK1, BK224, BK225, HB⟩ := hrel
  cases gk with
  | zero => exact absurd HA.out (by simp [dN.l0])
  | succ k1 =>
   have H := HA.out
   clear HA
   simp only [dN.l0] at H
   by_cases c10 : x17_1 < (l0_6.length : Int)
   · rw [if_pos c10] at H
     have c10b0 := decide_eq_true c10
     clear c10
     obtain ⟨c11b0, H⟩ := ifd_ H
     obtain ⟨c12b0, H⟩ := ifd_ H
     obtain ⟨t228, A13, H⟩ := bs_ H
     by_cases c14 : t228 = true
     rotate_left
     · obtain rfl := bf_ c14
       clear c14
       rw [if_neg ft_] at H
       replace H := am_ H
       have p226 := pt_ x17_1
       have q226 := qt_ x17_1 l0_6.length
       obtain ⟨ad226, A226_1, c226_1, e226, hx226_0, hx226_1, hx226_2, hl226_1, hi226_1⟩ := iC HR0_6.out x17_1 (oe_ p226) (oe_ q226)
       cases e226
       replace hx226_0 := ce_ HB hx226_0
       replace hx226_1 := ce_ HB hx226_1
       replace hx226_2 := ce_ HB hx226_2
       have HR226_1 := am_ hi226_1
       have HC226_1 := am_ hl226_1
       clear hi226_1 hl226_1
       go_wp2_with (first | ((with_reducible refine gn_ 13 rfl ?_); refine bq_ (N := 13) (cs := #[.int .i64 0, .slice none 0 0, .int .i64 0]) (t := 68) ?_; intro gb227 hg w37 BK227 hb; have GW227 := ga_ w hg; have GE227 := GW227; have NB224_227 := am_ ((nl_ hg BK224 : gb224 ≠ gb227)); have NB227_224 := am_ ((ng_ hg BK224 : gb227 ≠ gb224)); have NB225_227 := am_ ((nl_ hg BK225 : gb225 ≠ gb227)); have NB227_225 := am_ ((ng_ hg BK225 : gb227 ≠ gb225)); replace BK224 := bb_ BK224 hb; replace BK225 := bb_ BK225 hb; replace HB := bp_ hb; clear hb hg; have hnb38 := NB227_224.out; have hnc38 := NB224_227.out; have hnb39 := NB227_225.out; have hnc39 := NB225_227.out; have bz40 := bc3_ BK227) | ((with_reducible refine gf_ 77 rfl ?_); refine gl_ (some 23) Tryz.func77 #[.agg #[.int .i64 ((bG l0_6 x17_1).f0), .slice A226_1 ((bG l0_6 x17_1).f1).length c226_1, .int .i64 ((bG l0_6 x17_1).f2)], .int .i64 a3] ?_; refine (gV.calls ((bG l0_6 x17_1).f0) _ _ ((bG l0_6 x17_1).f1) ((bG l0_6 x17_1).f2) a3 false _ (gw_ HG.out) (Kd.C_below HR226_1.out bl_) HC226_1.out A13.out).mono ?_; rintro e w41 ⟨rfl, hb⟩; refine ⟨_, rfl, ?_⟩; replace BK224 := am_ (blk_below (g := gb224) (o := .cells #[.int .i64 a0_0, .int .i64 a0_1, .int .i64 a0_2, .int .i64 a0_3, .int .i64 a0_4, .slice A0_5 l0_5.length c0_5, .slice (some ad226) l0_6.length c0_6] 25 (0, 0)) (bw_ BK224) hb); replace BK225 := am_ (blk_below (g := gb225) (o := .cells #[.int .i64 a4_0, .int .i64 a4_1] 33 (0, 0)) (bw_ BK225) hb); replace BK227 := am_ (blk_below (g := gb227) (o := .cells #[.int .i64 ((bG l0_6 x17_1).f0), .slice A226_1 ((bG l0_6 x17_1).f1).length c226_1, .int .i64 ((bG l0_6 x17_1).f2)] 68 (0, 0)) (bw_ BK227) hb); replace HB := bp_ hb; (try clear hb)))
       go_roundg k1
       case measure => have := HK1.out; omega
       case rel => exact ⟨(x11_1), (wrap64 (x17_1 + 1)), ra_, ra_, H, ⟨by have := HK1.out; omega⟩, ⟨bk_ BK224⟩, ⟨bk_ BK225⟩, ⟨bl_⟩⟩
     subst c14
     rw [if_pos rfl] at H
     obtain ⟨t229, A15, H⟩ := bs_ H
     by_cases c16 : t229 = true
     · subst c16
       rw [if_pos rfl] at H
       obtain ⟨ji17, hji17⟩ : ∃ j_ : Int, (mx x11_1 ((bG l0_6 x17_1).f2)) = j_ := ⟨_, rfl⟩
       first | rw [hji17] at H | simp only [hji17] at H
       (try rw [hji17] at A13)
       (try rw [hji17] at A15)
       have hji17_ : (if x11_1 < ((bG l0_6 x17_1).f2) then ((bG l0_6 x17_1).f2) else x11_1) = ji17 := hji17
       replace H := am_ H
       have p226 := pt_ x17_1
       have q226 := qt_ x17_1 l0_6.length
       obtain ⟨ad226, A226_1, c226_1, e226, hx226_0, hx226_1, hx226_2, hl226_1, hi226_1⟩ := iC HR0_6.out x17_1 (oe_ p226) (oe_ q226)
       cases e226
       replace hx226_0 := ce_ HB hx226_0
       replace hx226_1 := ce_ HB hx226_1
       replace hx226_2 := ce_ HB hx226_2
       have HR226_1 := am_ hi226_1
       have HC226_1 := am_ hl226_1
       clear hi226_1 hl226_1
       go_wp2_with (first | ((with_reducible refine gn_ 13 rfl ?_); refine bq_ (N := 13) (cs := #[.int .i64 0, .slice none 0 0, .int .i64 0]) (t := 68) ?_; intro gb227 hg w18 BK227 hb; have GW227 := ga_ w hg; have GE227 := GW227; have NB224_227 := am_ ((nl_ hg BK224 : gb224 ≠ gb227)); have NB227_224 := am_ ((ng_ hg BK224 : gb227 ≠ gb224)); have NB225_227 := am_ ((nl_ hg BK225 : gb225 ≠ gb227)); have NB227_225 := am_ ((ng_ hg BK225 : gb227 ≠ gb225)); replace BK224 := bb_ BK224 hb; replace BK225 := bb_ BK225 hb; replace HB := bp_ hb; clear hb hg; have hnb19 := NB227_224.out; have hnc19 := NB224_227.out; have hnb20 := NB227_225.out; have hnc20 := NB225_227.out; have bz21 := bc3_ BK227) | ((with_reducible refine gf_ 77 rfl ?_); refine gl_ (some 23) Tryz.func77 #[.agg #[.int .i64 ((bG l0_6 x17_1).f0), .slice A226_1 ((bG l0_6 x17_1).f1).length c226_1, .int .i64 ((bG l0_6 x17_1).f2)], .int .i64 a3] ?_; refine (gV.calls ((bG l0_6 x17_1).f0) _ _ ((bG l0_6 x17_1).f1) ((bG l0_6 x17_1).f2) a3 true _ (gw_ HG.out) (Kd.C_below HR226_1.out bl_) HC226_1.out A13.out).mono ?_; rintro e w22 ⟨rfl, hb⟩; refine ⟨_, rfl, ?_⟩; replace BK224 := am_ (blk_below (g := gb224) (o := .cells #[.int .i64 a0_0, .int .i64 a0_1, .int .i64 a0_2, .int .i64 a0_3, .int .i64 a0_4, .slice A0_5 l0_5.length c0_5, .slice (some ad226) l0_6.length c0_6] 25 (0, 0)) (bw_ BK224) hb); replace BK225 := am_ (blk_below (g := gb225) (o := .cells #[.int .i64 a4_0, .int .i64 a4_1] 33 (0, 0)) (bw_ BK225) hb); replace BK227 := am_ (blk_below (g := gb227) (o := .cells #[.int .i64 ((bG l0_6 x17_1).f0), .slice A226_1 ((bG l0_6 x17_1).f1).length c226_1, .int .i64 ((bG l0_6 x17_1).f2)] 68 (0, 0)) (bw_ BK227) hb); replace HB := bp_ hb; (try clear hb); have bz23 := bc3_ BK227; have hnb24 := NB225_224.out; have hnc24 := NB224_225.out; have bz25 := bc2_ BK225) | (go_at_call 55; refine (bY.calls _ _ ((bG l0_6 x17_1).f1) a4_0 a4_1 true _ (gw_ HG.out) (cb_ (Kd.C_below HR226_1.out HB.out)) HC226_1.out A15.out).mono ?_; rintro e w26 ⟨rfl, hb⟩; replace BK224 := bb_ BK224 hb; replace BK225 := bb_ BK225 hb; replace BK227 := bb_ BK227 hb; replace HB := bp_ hb; (try clear hb); have bz27 := bc3_ BK227))
       go_roundg k1
       case measure => have := HK1.out; omega
       case rel => exact ⟨(ji17), (wrap64 (x17_1 + 1)), (by first | rfl | (simp; done) | (simp only [← hji17] <;> (first | rfl | simp)) | (simp [*]; done)), ra_, H, ⟨by have := HK1.out; omega⟩, ⟨bk_ BK224⟩, ⟨bk_ BK225⟩, ⟨bl_⟩⟩
     obtain rfl := bf_ c16
     clear c16
     rw [if_neg ft_] at H
     replace H := am_ H
     have p226 := pt_ x17_1
     have q226 := qt_ x17_1 l0_6.length
     obtain ⟨ad226, A226_1, c226_1, e226, hx226_0, hx226_1, hx226_2, hl226_1, hi226_1⟩ := iC HR0_6.out x17_1 (oe_ p226) (oe_ q226)
     cases e226
     replace hx226_0 := ce_ HB hx226_0
     replace hx226_1 := ce_ HB hx226_1
     replace hx226_2 := ce_ HB hx226_2
     have HR226_1 := am_ hi226_1
     have HC226_1 := am_ hl226_1
     clear hi226_1 hl226_1
     go_wp2_with (first | ((with_reducible refine gn_ 13 rfl ?_); refine bq_ (N := 13) (cs := #[.int .i64 0, .slice none 0 0, .int .i64 0]) (t := 68) ?_; intro gb227 hg w28 BK227 hb; have GW227 := ga_ w hg; have GE227 := GW227; have NB224_227 := am_ ((nl_ hg BK224 : gb224 ≠ gb227)); have NB227_224 := am_ ((ng_ hg BK224 : gb227 ≠ gb224)); have NB225_227 := am_ ((nl_ hg BK225 : gb225 ≠ gb227)); have NB227_225 := am_ ((ng_ hg BK225 : gb227 ≠ gb225)); replace BK224 := bb_ BK224 hb; replace BK225 := bb_ BK225 hb; replace HB := bp_ hb; clear hb hg; have hnb29 := NB227_224.out; have hnc29 := NB224_227.out; have hnb30 := NB227_225.out; have hnc30 := NB225_227.out; have bz31 := bc3_ BK227) | ((with_reducible refine gf_ 77 rfl ?_); refine gl_ (some 23) Tryz.func77 #[.agg #[.int .i64 ((bG l0_6 x17_1).f0), .slice A226_1 ((bG l0_6 x17_1).f1).length c226_1, .int .i64 ((bG l0_6 x17_1).f2)], .int .i64 a3] ?_; refine (gV.calls ((bG l0_6 x17_1).f0) _ _ ((bG l0_6 x17_1).f1) ((bG l0_6 x17_1).f2) a3 true _ (gw_ HG.out) (Kd.C_below HR226_1.out bl_) HC226_1.out A13.out).mono ?_; rintro e w32 ⟨rfl, hb⟩; refine ⟨_, rfl, ?_⟩; replace BK224 := am_ (blk_below (g := gb224) (o := .cells #[.int .i64 a0_0, .int .i64 a0_1, .int .i64 a0_2, .int .i64 a0_3, .int .i64 a0_4, .slice A0_5 l0_5.length c0_5, .slice (some ad226) l0_6.length c0_6] 25 (0, 0)) (bw_ BK224) hb); replace BK225 := am_ (blk_below (g := gb225) (o := .cells #[.int .i64 a4_0, .int .i64 a4_1] 33 (0, 0)) (bw_ BK225) hb); replace BK227 := am_ (blk_below (g := gb227) (o := .cells #[.int .i64 ((bG l0_6 x17_1).f0), .slice A226_1 ((bG l0_6 x17_1).f1).length c226_1, .int .i64 ((bG l0_6 x17_1).f2)] 68 (0, 0)) (bw_ BK227) hb); replace HB := bp_ hb; (try clear hb); have bz33 := bc3_ BK227; have hnb34 := NB225_224.out; have hnc34 := NB224_225.out; have bz35 := bc2_ BK225) | (go_at_call 55; refine (bY.calls _ _ ((bG l0_6 x17_1).f1) a4_0 a4_1 false _ (gw_ HG.out) (cb_ (Kd.C_below HR226_1.out HB.out)) HC226_1.out A15.out).mono ?_; rintro e w36 ⟨rfl, hb⟩; replace BK224 := bb_ BK224 hb; replace BK225 := bb_ BK225 hb; replace BK227 := bb_ BK227 hb; replace HB := bp_ hb; (try clear hb)))
     go_roundg k1
     case measure => have := HK1.out; omega
     case rel => exact ⟨(x11_1), (wrap64 (x17_1 + 1)), ra_, ra_, H, ⟨by have := HK1.out; omega⟩, ⟨bk_ BK224⟩, ⟨bk_ BK225⟩, ⟨bl_⟩⟩
   rw [if_neg c10] at H
   have c10b0 := decide_eq_false c10
   clear c10
   by_cases c42 : x11_1 ≥ 0
   · rw [if_pos c42] at H
     have c42b0 : decide (0 ≤ x11_1) = true := decide_eq_true c42
     clear c42
     obtain rfl := sj_ H
     go_wp2
     go_ret
     exact ⟨er_, bl_⟩
   rw [if_neg c42] at H
   have c42b0 : decide (0 ≤ x11_1) = false := decide_eq_false c42
   clear c42
   obtain ⟨t230, A43, H⟩ := bs_ H
   obtain ⟨t231, A44, H⟩ := bs_ H
   obtain ⟨ji45, hji45⟩ : ∃ j_ : Int, (mx t230 t231) = j_ := ⟨_, rfl⟩
   first | rw [hji45] at H | simp only [hji45] at H
   (try rw [hji45] at A43)
   (try rw [hji45] at A44)
   have hji45_ : (if t230 < t231 then t231 else t230) = ji45 := hji45
   obtain rfl := sj_ H
   try go_wp2
   replace BK224 := am_ (blk_drew BK224.out)
   replace BK225 := am_ (blk_drew BK225.out)
   replace HB := am_ (below_drew1 HB.out)
   refine start_ (n := 8) (S := fun w' => w'.cell? ⟨gb224, 0, none⟩ = some (.int .i64 a0_0) ∧ w'.cell? ⟨gb224, 1, none⟩ = some (.int .i64 a0_1) ∧ w'.cell? ⟨gb224, 2, none⟩ = some (.int .i64 a0_2) ∧ w'.cell? ⟨gb224, 3, none⟩ = some (.int .i64 a0_3) ∧ w'.cell? ⟨gb224, 4, none⟩ = some (.int .i64 a0_4) ∧ w'.cell? ⟨gb224, 5, none⟩ = some (.slice A0_5 l0_5.length c0_5) ∧ w'.cell? ⟨gb224, 6, none⟩ = some (.slice A0_6 l0_6.length c0_6)) (ds := []) (bv 8 0) (by kernel_rfl) rfl rfl ⟨(blk_cell BK224.out 0).trans rfl, (blk_cell BK224.out 1).trans rfl, (blk_cell BK224.out 2).trans rfl, (blk_cell BK224.out 3).trans rfl, (blk_cell BK224.out 4).trans rfl, (blk_cell BK224.out 5).trans rfl, (blk_cell BK224.out 6).trans rfl⟩ (fun hHeld => ?_); refine with_tabW dN.tab10 dN.bits10 (fun HT_ HW_ => ?_)
   generalize wr.drew = w46 at BK224 BK225 HB hHeld ⊢
   refine pu_ 1 39 (bv 8 2) ?_
   refine pu_ 4 42 (bv 8 18) ?_
   refine tk_ 0 38 (bv 8 19) hHeld ?_
   refine tk_ 3 41 (bv 8 27) hHeld ?_
   refine one_ (i := 2) (N := some 40) (bv 8 31) rfl rfl (one_of HT_.out (by kernel_rfl)) (by decide) (fun K hK => ?_)
   refine goes_ Tryz.func78 (by kernel_rfl) rfl #[.agg #[.int .i64 a0_0, .int .i64 a0_1, .int .i64 a0_2, .int .i64 a0_3, .int .i64 a0_4, .slice A0_5 l0_5.length c0_5, .slice A0_6 l0_6.length c0_6], .string a1] (by rfl) rfl rfl (by (try simp only [List.map_toArray, List.map_cons, List.map_nil]); first | done | rfl | (simp only [List.length_drop, List.length_take]; rfl)) ?_
   with_reducible refine (eG.calls k1 a0_0 a0_1 a0_2 a0_3 a0_4 _ _ l0_5 _ _ l0_6 a1 t230 _ ?s1 ?s2 ?s3 ?s4 ?s5 A43.out).mono ?_
   (case s1 => exact gw_ HG.out)
   (case s2 => repeat (first | exact (Kd.C_below HR0_5.out HB.out) | (with_reducible refine Kd.C_alloc ?_ _) | (with_reducible refine Kd.C_drewN ?_ _) | (with_reducible refine Kd.C_drew ?_)))
   (case s3 => exact HC0_5.out)
   (case s4 => repeat (first | exact (Kd.C_below HR0_6.out HB.out) | (with_reducible refine Kd.C_alloc ?_ _) | (with_reducible refine Kd.C_drewN ?_ _) | (with_reducible refine Kd.C_drew ?_)))
   (case s5 => exact HC0_6.out)
   rintro e w47 ⟨rfl, hb⟩
   refine ⟨_, rfl, ?_⟩
   replace BK224 := bb_ BK224 hb
   replace BK225 := bb_ BK225 hb
   replace HB := bp_ hb
   (try clear hb)
   (try clear hb2)
   (try clear hk)
   (try clear hi)
   refine hK.out _ _ ⟨(blk_cell BK224.out 0).trans rfl, (blk_cell BK224.out 1).trans rfl, (blk_cell BK224.out 2).trans rfl, (blk_cell BK224.out 3).trans rfl, (blk_cell BK224.out 4).trans rfl, (blk_cell BK224.out 5).trans rfl, (blk_cell BK224.out 6).trans rfl⟩ (fun hHeld => ?_)
   clear hK K
   refine norm_ (a' := ?_) ?_ ?_
   rotate_left
   · show Act.put _ (some 40) _ = _
     simp only [Act.put, List.setIfInBounds_toArray, List.set_cons_zero, List.set_cons_succ, i64_w, i32_w]
     rfl
   refine one_ (i := 5) (N := some 43) (bv 8 63) rfl rfl (one_of HT_.out (by kernel_rfl)) (by decide) (fun K hK => ?_)
   refine goes_ Tryz.func78 (by kernel_rfl) rfl #[.agg #[.int .i64 a0_0, .int .i64 a0_1, .int .i64 a0_2, .int .i64 a0_3, .int .i64 a0_4, .slice A0_5 l0_5.length c0_5, .slice A0_6 l0_6.length c0_6], .string a2] (by rfl) rfl rfl (by (try simp only [List.map_toArray, List.map_cons, List.map_nil]); first | done | rfl | (simp only [List.length_drop, List.length_take]; rfl)) ?_
   with_reducible refine (eG.calls k1 a0_0 a0_1 a0_2 a0_3 a0_4 _ _ l0_5 _ _ l0_6 a2 t231 _ ?s1 ?s2 ?s3 ?s4 ?s5 A44.out).mono ?_
   (case s1 => exact gw_ HG.out)
   (case s2 => repeat (first | exact (Kd.C_below HR0_5.out HB.out) | (with_reducible refine Kd.C_alloc ?_ _) | (with_reducible refine Kd.C_drewN ?_ _) | (with_reducible refine Kd.C_drew ?_)))
   (case s3 => exact HC0_5.out)
   (case s4 => repeat (first | exact (Kd.C_below HR0_6.out HB.out) | (with_reducible refine Kd.C_alloc ?_ _) | (with_reducible refine Kd.C_drewN ?_ _) | (with_reducible refine Kd.C_drew ?_)))
   (case s5 => exact HC0_6.out)
   rintro e w48 ⟨rfl, hb⟩
   refine ⟨_, rfl, ?_⟩
   replace BK224 := bb_ BK224 hb
   replace BK225 := bb_ BK225 hb
   replace HB := bp_ hb
   (try clear hb)
   (try clear hb2)
   (try clear hk)
   (try clear hi)
   refine hK.out _ _ ⟨(blk_cell BK224.out 0).trans rfl, (blk_cell BK224.out 1).trans rfl, (blk_cell BK224.out 2).trans rfl, (blk_cell BK224.out 3).trans rfl, (blk_cell BK224.out 4).trans rfl, (blk_cell BK224.out 5).trans rfl, (blk_cell BK224.out 6).trans rfl⟩ (fun hHeld => ?_)
   clear hK K
   refine norm_ (a' := ?_) ?_ ?_
   rotate_left
   · show Act.put _ (some 43) _ = _
     simp only [Act.put, List.setIfInBounds_toArray, List.set_cons_zero, List.set_cons_succ, i64_w, i32_w]
     rfl
   refine pu_ 6 44 (bv 8 127) ?_
   refine pu_ 7 10 (bv 8 255) ?_
   refine done_ (done_of HT_.out (by kernel_rfl)) ?_
   try go_wp2
   go_ret
   exact ⟨by first | rfl | (simp [dO, dQ] <;> rfl) | (simp only [← hji45]; first | rfl | (simp [dO, dQ] <;> rfl)) | (simp [*, dO, dQ] <;> rfl), bl_⟩
end Go.Proofs.YthkeonbmgcphkaaGreatDoor.PN
