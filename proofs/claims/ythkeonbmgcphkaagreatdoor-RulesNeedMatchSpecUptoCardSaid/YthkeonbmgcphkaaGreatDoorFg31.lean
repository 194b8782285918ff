import Derived.Test.YthkeonbmgcphkaaGreatDoorFg6
import Derived.Test.YthkeonbmgcphkaaGreatDoorFg15
import Derived.Test.YthkeonbmgcphkaaGreatDoorFg16
import Derived.Test.YthkeonbmgcphkaaGreatDoorFg18
import Derived.Test.YthkeonbmgcphkaaGreatDoorFg19
import Derived.Test.YthkeonbmgcphkaaGreatDoorFg29
import Derived.Test.YthkeonbmgcphkaaGreatDoorFg30
namespace Go.Proofs.YthkeonbmgcphkaaGreatDoor.PN
open Go.RowKit Go.Proofs.YthkeonbmgcphkaaGreatDoorW.PrintWords Go.Proofs.YthkeonbmgcphkaaGreatDoorW.PrintLast Go.Proofs.YthkeonbmgcphkaaGreatDoorW.PrintMore
attribute [local go_sem] max2_int min2_int max_two min_two max_three min_three max_four min_four
set_option linter.unusedVariables false
set_option maxHeartbeats 8000000
set_option maxRecDepth 100000
set_option linter.unusedSimpArgs false
def bJ.l0 : Nat → ByteArray → ByteArray → Int → Int → Bool → Int → Int → Int → Int → Int → Int → List (S66) → List (S68) → Int → Int → Option (Int)
 | 0, _, _, _, _, _, _, _, _, _, _, _, _, _, _, _ => none
 | k + 1, x1, x2, x3, x11, x12, x13, x401000, x401001, x401002, x401003, x401004, x401005, x401006, x402000, x402001 => if x13 < (x401006.length : Int) then (if 0 ≤ x13 then (if ((bG x401006 x13).f0) = (-1) then ((bZ.f k ((bG x401006 x13).f1) x402000 x402001).bind fun t404 => (if t404 = true then (bJ.l0 k x1 x2 x3 (mx x11 ((bG x401006 x13).f2)) true (wrap64 (x13 + 1)) x401000 x401001 x401002 x401003 x401004 x401005 x401006 x402000 x402001) else (bJ.l0 k x1 x2 x3 x11 x12 (wrap64 (x13 + 1)) x401000 x401001 x401002 x401003 x401004 x401005 x401006 x402000 x402001))) else (if ((bG x401006 x13).f0) = x3 then ((bZ.f k ((bG x401006 x13).f1) x402000 x402001).bind fun t405 => (if t405 = true then (bJ.l0 k x1 x2 x3 (mx x11 ((bG x401006 x13).f2)) true (wrap64 (x13 + 1)) x401000 x401001 x401002 x401003 x401004 x401005 x401006 x402000 x402001) else (bJ.l0 k x1 x2 x3 x11 x12 (wrap64 (x13 + 1)) x401000 x401001 x401002 x401003 x401004 x401005 x401006 x402000 x402001))) else (bJ.l0 k x1 x2 x3 x11 x12 (wrap64 (x13 + 1)) x401000 x401001 x401002 x401003 x401004 x401005 x401006 x402000 x402001))) else (none)) else (if x12 = true then (some x11) else ((eF.f k x401000 x401001 x401002 x401003 x401004 x401005 x401006 x1).bind fun t406 => ((eF.f k x401000 x401001 x401002 x401003 x401004 x401005 x401006 x2).bind fun t407 => (some (mx t406 t407)))))
def bJ.f (k : Nat) (a0_0 : Int) (a0_1 : Int) (a0_2 : Int) (a0_3 : Int) (a0_4 : Int) (l0_5 : List (S66)) (l0_6 : List (S68)) (a1 : ByteArray) (a2 : ByteArray) (a3 : Int) (a4_0 : Int) (a4_1 : Int) : Option (Int) := bJ.l0 k a1 a2 a3 0 false 0 a0_0 a0_1 a0_2 a0_3 a0_4 l0_5 l0_6 a4_0 a4_1
def bJ.T10 : Bool × List (List Nat × List Nat) := (true, [([], []), ([], []), ([0, 1], [0, 1]), ([], []), ([], []), ([3, 4, 2], [3, 4]), ([2, 5], [2, 5]), ([6, 5, 0, 1, 2, 3, 4, 5, 6], [6])])
def bJ.B10 : List Nat := [0, 0, 3, 0, 0, 31, 63, 127]
theorem bJ.tab10 : rtab .any (opsOf Tryz.f47 10) = bJ.T10 := by kernel_rfl
theorem bJ.bits10 : waitsOk bJ.T10.2 bJ.B10 = true := by kernel_rfl
theorem bJ.calls (k : Nat) (a0_0 : Int) (a0_1 : Int) (a0_2 : Int) (a0_3 : Int) (a0_4 : Int) (A0_5 : Option Addr) (c0_5 : Nat) (l0_5 : List (S66)) (A0_6 : Option Addr) (c0_6 : Nat) (l0_6 : List (S68)) (a1 : ByteArray) (a2 : ByteArray) (a3 : Int) (a4_0 : Int) (a4_1 : Int) (r : Int) (w : World) (hG : Tryz.GW w) (hr0_5 : Kd.C k66 w A0_5 l0_5.length l0_5) (hc0_5 : l0_5.length ≤ c0_5) (hr0_6 : Kd.C k68 w A0_6 l0_6.length l0_6) (hc0_6 : l0_6.length ≤ c0_6) (h : bJ.f k a0_0 a0_1 a0_2 a0_3 a0_4 l0_5 l0_6 a1 a2 a3 a4_0 a4_1 = some r) :
 Calls Tryz.prog 47 #[.agg #[.int .i64 a0_0, .int .i64 a0_1, .int .i64 a0_2, .int .i64 a0_3, .int .i64 a0_4, .slice A0_5 l0_5.length c0_5, .slice A0_6 l0_6.length c0_6], .string a1, .string a2, .int .i64 a3, .agg #[.int .i64 a4_0, .int .i64 a4_1]] w fun e w' => e = .returned (.int .i64 r) ∧ Below w.heap.size w w' := by
 have hu25 := Tryz.underlying25
 have hu33 := Tryz.underlying33
 have hu68 := Tryz.underlying68
 have HR0_5 := am_ hr0_5
 have HC0_5 := am_ hc0_5
 clear hr0_5 hc0_5
 have HR0_6 := am_ hr0_6
 have HC0_6 := am_ hc0_6
 clear hr0_6 hc0_6
 have HG := am_ hG
 clear hG
 have HB := am_ (Below.refl w.heap.size w)
 have H : (bJ.l0 k a1 a2 a3 0 false 0 a0_0 a0_1 a0_2 a0_3 a0_4 l0_5 l0_6 a4_0 a4_1) = some r := h
 clear h
 replace H := am_ H
 go_enter Tryz.func47, Tryz.ntmps47
 go_wp2_with (first | ((with_reducible refine gn_ 5 rfl ?_); refine bq_ (N := 5) (cs := #[.int .i64 a0_0, .int .i64 a0_1, .int .i64 a0_2, .int .i64 a0_3, .int .i64 a0_4, .slice A0_5 l0_5.length c0_5, .slice A0_6 l0_6.length c0_6]) (t := 25) ?_; intro gb400 hg w6 BK400 hb; have GW400 := ga_ w hg; have GE400 := GW400; replace HB := bp_ hb; clear hb hg) | ((with_reducible refine gn_ 9 rfl ?_); refine bq_ (N := 9) (cs := #[.int .i64 a4_0, .int .i64 a4_1]) (t := 33) ?_; intro gb401 hg w7 BK401 hb; have GW401 := ga_ w hg; have GE401 := GW401; have NB400_401 := am_ ((nl_ hg BK400 : gb400 ≠ gb401)); have NB401_400 := am_ ((ng_ hg BK400 : gb401 ≠ gb400)); replace BK400 := bb_ BK400 hb; replace HB := bp_ hb; clear hb hg))
 go_loopg [11, 12, 13] k (fun kq v11 v12 v13 w' => ∃ (x11_1 : Int) (x12_1 : Bool) (x13_1 : Int), v11 = .int .i64 x11_1 ∧ v12 = .bool x12_1 ∧ v13 = .int .i64 x13_1 ∧ Aside0 (bJ.l0 kq a1 a2 a3 x11_1 x12_1 x13_1 a0_0 a0_1 a0_2 a0_3 a0_4 l0_5 l0_6 a4_0 a4_1 = some r) ∧ Aside0 (kq ≤ k) ∧ Aside0 (w'.heap[gb400]? = some (.cells #[.int .i64 a0_0, .int .i64 a0_1, .int .i64 a0_2, .int .i64 a0_3, .int .i64 a0_4, (.slice A0_5 l0_5.length c0_5), (.slice A0_6 l0_6.length c0_6)] 25 (0, 0))) ∧ Aside0 (w'.heap[gb401]? = some (.cells #[.int .i64 a4_0, .int .i64 a4_1] 33 (0, 0))) ∧ Aside0 (Below w.heap.size w w'))
 case atStart => exact ⟨(0), (false), (0), ra_, ra_, ra_, H, ⟨Nat.le_refl _⟩, ⟨bk_ BK400⟩, ⟨bk_ BK401⟩, ⟨bl_⟩⟩
 case round =>
  clear H
  try clear p2
  try clear c4
  obtain ⟨x11_1, x12_1, x13_1, rfl, rfl, rfl, HA, HK1, BK400, BK401, HB⟩ := hrel
  cases gk with
  | zero => exact absurd HA.out (by simp [bJ.l0])
  | succ k1 =>
   have H := HA.out
   clear HA
   simp only [bJ.l0] at H
   by_cases c8 : x13_1 < (l0_6.length : Int)
   rotate_left
   · rw [if_neg c8] at H
     have c8b0 := decide_eq_false c8
     clear c8
     by_cases c58 : x12_1 = true
     · subst c58
       rw [if_pos rfl] at H
       obtain rfl := sj_ H
       have hnb59 := NB400_401.out
       have hnc59 := NB401_400.out
       have bz60 := bc7_ BK400
       go_wp2
       go_ret
       exact ⟨er_, bl_⟩
     obtain rfl := bf_ c58
     clear c58
     rw [if_neg ft_] at H
     obtain ⟨t406, A61, H⟩ := bs_ H
     obtain ⟨t407, A62, H⟩ := bs_ H
     obtain ⟨ji63, hji63⟩ : ∃ j_ : Int, (mx t406 t407) = j_ := ⟨_, rfl⟩
     first | rw [hji63] at H | simp only [hji63] at H
     (try rw [hji63] at A61)
     (try rw [hji63] at A62)
     have hji63_ : (if t406 < t407 then t407 else t406) = ji63 := hji63
     obtain rfl := sj_ H
     have hnb64 := NB400_401.out
     have hnc64 := NB401_400.out
     have bz65 := bc7_ BK400
     try go_wp2
     replace BK400 := am_ (blk_drew BK400.out)
     replace BK401 := am_ (blk_drew BK401.out)
     replace HB := am_ (below_drew1 HB.out)
     refine start_ (n := 8) (S := fun w' => w'.cell? ⟨gb400, 0, none⟩ = some (.int .i64 a0_0) ∧ w'.cell? ⟨gb400, 1, none⟩ = some (.int .i64 a0_1) ∧ w'.cell? ⟨gb400, 2, none⟩ = some (.int .i64 a0_2) ∧ w'.cell? ⟨gb400, 3, none⟩ = some (.int .i64 a0_3) ∧ w'.cell? ⟨gb400, 4, none⟩ = some (.int .i64 a0_4) ∧ w'.cell? ⟨gb400, 5, none⟩ = some (.slice A0_5 l0_5.length c0_5) ∧ w'.cell? ⟨gb400, 6, none⟩ = some (.slice A0_6 l0_6.length c0_6)) (ds := []) (bv 8 0) (by kernel_rfl) rfl rfl ⟨(blk_cell BK400.out 0).trans rfl, (blk_cell BK400.out 1).trans rfl, (blk_cell BK400.out 2).trans rfl, (blk_cell BK400.out 3).trans rfl, (blk_cell BK400.out 4).trans rfl, (blk_cell BK400.out 5).trans rfl, (blk_cell BK400.out 6).trans rfl⟩ (fun hHeld => ?_); refine with_tabW bJ.tab10 bJ.bits10 (fun HT_ HW_ => ?_)
     generalize wr.drew = w66 at BK400 BK401 HB hHeld ⊢
     refine pu_ 1 49 (bv 8 2) ?_
     refine pu_ 4 52 (bv 8 18) ?_
     refine tk_ 0 48 (bv 8 19) hHeld ?_
     refine tk_ 3 51 (bv 8 27) hHeld ?_
     refine one_ (i := 2) (N := some 50) (bv 8 31) rfl rfl (one_of HT_.out (by kernel_rfl)) (by decide) (fun K hK => ?_)
     refine goes_ Tryz.func81 (by kernel_rfl) rfl #[.agg #[.int .i64 a0_0, .int .i64 a0_1, .int .i64 a0_2, .int .i64 a0_3, .int .i64 a0_4, .slice A0_5 l0_5.length c0_5, .slice A0_6 l0_6.length c0_6], .string a1] (by rfl) rfl rfl (by (try simp only [List.map_toArray, List.map_cons, List.map_nil]); first | done | rfl | (simp only [List.length_drop, List.length_take]; rfl)) ?_
     with_reducible refine (eF.calls k1 a0_0 a0_1 a0_2 a0_3 a0_4 _ _ l0_5 _ _ l0_6 a1 t406 _ ?s1 ?s2 ?s3 ?s4 ?s5 A61.out).mono ?_
     (case s1 => exact gw_ HG.out)
     (case s2 => repeat (first | exact (Kd.C_below HR0_5.out HB.out) | (with_reducible refine Kd.C_alloc ?_ _) | (with_reducible refine Kd.C_drewN ?_ _) | (with_reducible refine Kd.C_drew ?_)))
     (case s3 => exact HC0_5.out)
     (case s4 => repeat (first | exact (Kd.C_below HR0_6.out HB.out) | (with_reducible refine Kd.C_alloc ?_ _) | (with_reducible refine Kd.C_drewN ?_ _) | (with_reducible refine Kd.C_drew ?_)))
     (case s5 => exact HC0_6.out)
     rintro e w67 ⟨rfl, hb⟩
     refine ⟨_, rfl, ?_⟩
     replace BK400 := bb_ BK400 hb
     replace BK401 := bb_ BK401 hb
     replace HB := bp_ hb
     (try clear hb)
     (try clear hb2)
     (try clear hk)
     (try clear hi)
     refine hK.out _ _ ⟨(blk_cell BK400.out 0).trans rfl, (blk_cell BK400.out 1).trans rfl, (blk_cell BK400.out 2).trans rfl, (blk_cell BK400.out 3).trans rfl, (blk_cell BK400.out 4).trans rfl, (blk_cell BK400.out 5).trans rfl, (blk_cell BK400.out 6).trans rfl⟩ (fun hHeld => ?_)
     clear hK K
     refine norm_ (a' := ?_) ?_ ?_
     rotate_left
     · show Act.put _ (some 50) _ = _
       simp only [Act.put, List.setIfInBounds_toArray, List.set_cons_zero, List.set_cons_succ, i64_w, i32_w]
       rfl
     refine one_ (i := 5) (N := some 53) (bv 8 63) rfl rfl (one_of HT_.out (by kernel_rfl)) (by decide) (fun K hK => ?_)
     refine goes_ Tryz.func81 (by kernel_rfl) rfl #[.agg #[.int .i64 a0_0, .int .i64 a0_1, .int .i64 a0_2, .int .i64 a0_3, .int .i64 a0_4, .slice A0_5 l0_5.length c0_5, .slice A0_6 l0_6.length c0_6], .string a2] (by rfl) rfl rfl (by (try simp only [List.map_toArray, List.map_cons, List.map_nil]); first | done | rfl | (simp only [List.length_drop, List.length_take]; rfl)) ?_
     with_reducible refine (eF.calls k1 a0_0 a0_1 a0_2 a0_3 a0_4 _ _ l0_5 _ _ l0_6 a2 t407 _ ?s1 ?s2 ?s3 ?s4 ?s5 A62.out).mono ?_
     (case s1 => exact gw_ HG.out)
     (case s2 => repeat (first | exact (Kd.C_below HR0_5.out HB.out) | (with_reducible refine Kd.C_alloc ?_ _) | (with_reducible refine Kd.C_drewN ?_ _) | (with_reducible refine Kd.C_drew ?_)))
     (case s3 => exact HC0_5.out)
     (case s4 => repeat (first | exact (Kd.C_below HR0_6.out HB.out) | (with_reducible refine Kd.C_alloc ?_ _) | (with_reducible refine Kd.C_drewN ?_ _) | (with_reducible refine Kd.C_drew ?_)))
     (case s5 => exact HC0_6.out)
     rintro e w68 ⟨rfl, hb⟩
     refine ⟨_, rfl, ?_⟩
     replace BK400 := bb_ BK400 hb
     replace BK401 := bb_ BK401 hb
     replace HB := bp_ hb
     (try clear hb)
     (try clear hb2)
     (try clear hk)
     (try clear hi)
     refine hK.out _ _ ⟨(blk_cell BK400.out 0).trans rfl, (blk_cell BK400.out 1).trans rfl, (blk_cell BK400.out 2).trans rfl, (blk_cell BK400.out 3).trans rfl, (blk_cell BK400.out 4).trans rfl, (blk_cell BK400.out 5).trans rfl, (blk_cell BK400.out 6).trans rfl⟩ (fun hHeld => ?_)
     clear hK K
     refine norm_ (a' := ?_) ?_ ?_
     rotate_left
     · show Act.put _ (some 53) _ = _
       simp only [Act.put, List.setIfInBounds_toArray, List.set_cons_zero, List.set_cons_succ, i64_w, i32_w]
       rfl
     refine pu_ 6 54 (bv 8 127) ?_
     refine pu_ 7 10 (bv 8 255) ?_
     refine done_ (done_of HT_.out (by kernel_rfl)) ?_
     try go_wp2
     go_ret
     exact ⟨by first | rfl | (simp [dO, dQ] <;> rfl) | (simp only [← hji63]; first | rfl | (simp [dO, dQ] <;> rfl)) | (simp [*, dO, dQ] <;> rfl), bl_⟩
   rw [if_pos c8] at H
   have c8b0 := decide_eq_true c8
   clear c8
   obtain ⟨c9b0, H⟩ := ifd_ H
   by_cases c10 : ((bG l0_6 x13_1).f0) = (-1)
   · rw [if_pos c10] at H
     have c10b0 : (((bG l0_6 x13_1).f0) == (-1)) = true := beq_iff_eq.mpr c10
     have c10b1 : (((bG l0_6 x13_1).f0) != (-1)) = false := bne_eq_false_iff_eq.mpr c10
     clear c10
     obtain ⟨t404, A11, H⟩ := bs_ H
     by_cases c12 : t404 = true
     · subst c12
       rw [if_pos rfl] at H
       obtain ⟨ji13, hji13⟩ : ∃ j_ : Int, (mx x11_1 ((bG l0_6 x13_1).f2)) = j_ := ⟨_, rfl⟩
       first | rw [hji13] at H | simp only [hji13] at H
       (try rw [hji13] at A11)
       have hji13_ : (if x11_1 < ((bG l0_6 x13_1).f2) then ((bG l0_6 x13_1).f2) else x11_1) = ji13 := hji13
       replace H := am_ H
       have hnb14 := NB400_401.out
       have hnc14 := NB401_400.out
       have bz15 := bc7_ BK400
       have p402 := pt_ x13_1
       have q402 := qt_ x13_1 l0_6.length
       obtain ⟨ad402, A402_1, c402_1, e402, hx402_0, hx402_1, hx402_2, hl402_1, hi402_1⟩ := iC HR0_6.out x13_1 (oe_ p402) (oe_ q402)
       cases e402
       replace hx402_0 := ce_ HB hx402_0
       replace hx402_1 := ce_ HB hx402_1
       replace hx402_2 := ce_ HB hx402_2
       have HR402_1 := am_ hi402_1
       have HC402_1 := am_ hl402_1
       clear hi402_1 hl402_1
       go_wp2_with (first | ((with_reducible refine gn_ 14 rfl ?_); refine bq_ (N := 14) (cs := #[.int .i64 0, .slice none 0 0, .int .i64 0]) (t := 68) ?_; intro gb403 hg w16 BK403 hb; have GW403 := ga_ w hg; have GE403 := GW403; have NB400_403 := am_ ((nl_ hg BK400 : gb400 ≠ gb403)); have NB403_400 := am_ ((ng_ hg BK400 : gb403 ≠ gb400)); have NB401_403 := am_ ((nl_ hg BK401 : gb401 ≠ gb403)); have NB403_401 := am_ ((ng_ hg BK401 : gb403 ≠ gb401)); replace BK400 := bb_ BK400 hb; replace BK401 := bb_ BK401 hb; replace HB := bp_ hb; clear hb hg; have hnb17 := NB403_400.out; have hnc17 := NB400_403.out; have hnb18 := NB403_401.out; have hnc18 := NB401_403.out; have bz19 := bc3_ BK403; have bz20 := bc2_ BK401) | (go_at_call 80; refine (bZ.calls k1 _ _ ((bG l0_6 x13_1).f1) a4_0 a4_1 true _ (gw_ HG.out) (Kd.C_below HR402_1.out bl_) HC402_1.out A11.out).mono ?_; rintro e w21 ⟨rfl, hb⟩; replace BK400 := am_ (blk_below (g := gb400) (o := .cells #[.int .i64 a0_0, .int .i64 a0_1, .int .i64 a0_2, .int .i64 a0_3, .int .i64 a0_4, .slice A0_5 l0_5.length c0_5, .slice (some ad402) l0_6.length c0_6] 25 (0, 0)) (bw_ BK400) hb); replace BK401 := am_ (blk_below (g := gb401) (o := .cells #[.int .i64 a4_0, .int .i64 a4_1] 33 (0, 0)) (bw_ BK401) hb); replace BK403 := am_ (blk_below (g := gb403) (o := .cells #[.int .i64 ((bG l0_6 x13_1).f0), .slice A402_1 ((bG l0_6 x13_1).f1).length c402_1, .int .i64 ((bG l0_6 x13_1).f2)] 68 (0, 0)) (bw_ BK403) hb); replace HB := bp_ hb; (try clear hb); have bz22 := bc3_ BK403))
       go_roundg k1
       case measure => have := HK1.out; omega
       case rel => exact ⟨(ji13), (true), (wrap64 (x13_1 + 1)), (by first | rfl | (simp; done) | (simp only [← hji13] <;> (first | rfl | simp)) | (simp [*]; done)), ra_, ra_, H, ⟨by have := HK1.out; omega⟩, ⟨bk_ BK400⟩, ⟨bk_ BK401⟩, ⟨bl_⟩⟩
     obtain rfl := bf_ c12
     clear c12
     rw [if_neg ft_] at H
     replace H := am_ H
     have hnb23 := NB400_401.out
     have hnc23 := NB401_400.out
     have bz24 := bc7_ BK400
     have p402 := pt_ x13_1
     have q402 := qt_ x13_1 l0_6.length
     obtain ⟨ad402, A402_1, c402_1, e402, hx402_0, hx402_1, hx402_2, hl402_1, hi402_1⟩ := iC HR0_6.out x13_1 (oe_ p402) (oe_ q402)
     cases e402
     replace hx402_0 := ce_ HB hx402_0
     replace hx402_1 := ce_ HB hx402_1
     replace hx402_2 := ce_ HB hx402_2
     have HR402_1 := am_ hi402_1
     have HC402_1 := am_ hl402_1
     clear hi402_1 hl402_1
     go_wp2_with (first | ((with_reducible refine gn_ 14 rfl ?_); refine bq_ (N := 14) (cs := #[.int .i64 0, .slice none 0 0, .int .i64 0]) (t := 68) ?_; intro gb403 hg w25 BK403 hb; have GW403 := ga_ w hg; have GE403 := GW403; have NB400_403 := am_ ((nl_ hg BK400 : gb400 ≠ gb403)); have NB403_400 := am_ ((ng_ hg BK400 : gb403 ≠ gb400)); have NB401_403 := am_ ((nl_ hg BK401 : gb401 ≠ gb403)); have NB403_401 := am_ ((ng_ hg BK401 : gb403 ≠ gb401)); replace BK400 := bb_ BK400 hb; replace BK401 := bb_ BK401 hb; replace HB := bp_ hb; clear hb hg; have hnb26 := NB403_400.out; have hnc26 := NB400_403.out; have hnb27 := NB403_401.out; have hnc27 := NB401_403.out; have bz28 := bc3_ BK403; have bz29 := bc2_ BK401) | (go_at_call 80; refine (bZ.calls k1 _ _ ((bG l0_6 x13_1).f1) a4_0 a4_1 false _ (gw_ HG.out) (Kd.C_below HR402_1.out bl_) HC402_1.out A11.out).mono ?_; rintro e w30 ⟨rfl, hb⟩; replace BK400 := am_ (blk_below (g := gb400) (o := .cells #[.int .i64 a0_0, .int .i64 a0_1, .int .i64 a0_2, .int .i64 a0_3, .int .i64 a0_4, .slice A0_5 l0_5.length c0_5, .slice (some ad402) l0_6.length c0_6] 25 (0, 0)) (bw_ BK400) hb); replace BK401 := am_ (blk_below (g := gb401) (o := .cells #[.int .i64 a4_0, .int .i64 a4_1] 33 (0, 0)) (bw_ BK401) hb); replace BK403 := am_ (blk_below (g := gb403) (o := .cells #[.int .i64 ((bG l0_6 x13_1).f0), .slice A402_1 ((bG l0_6 x13_1).f1).length c402_1, .int .i64 ((bG l0_6 x13_1).f2)] 68 (0, 0)) (bw_ BK403) hb); replace HB := bp_ hb; (try clear hb)))
     go_roundg k1
     case measure => have := HK1.out; omega
     case rel => exact ⟨(x11_1), (x12_1), (wrap64 (x13_1 + 1)), ra_, ra_, ra_, H, ⟨by have := HK1.out; omega⟩, ⟨bk_ BK400⟩, ⟨bk_ BK401⟩, ⟨bl_⟩⟩
   rw [if_neg c10] at H
   have c10b0 : (((bG l0_6 x13_1).f0) == (-1)) = false := beq_eq_false_iff_ne.mpr c10
   have c10b1 : (((bG l0_6 x13_1).f0) != (-1)) = true := bne_iff_ne.mpr c10
   by_cases c31 : ((bG l0_6 x13_1).f0) = a3
   rotate_left
   · rw [if_neg c31] at H
     have c31b0 : (((bG l0_6 x13_1).f0) == a3) = false := beq_eq_false_iff_ne.mpr c31
     have c31b1 : (((bG l0_6 x13_1).f0) != a3) = true := bne_iff_ne.mpr c31
     replace H := am_ H
     have hnb52 := NB400_401.out
     have hnc52 := NB401_400.out
     have bz53 := bc7_ BK400
     have p402 := pt_ x13_1
     have q402 := qt_ x13_1 l0_6.length
     obtain ⟨ad402, A402_1, c402_1, e402, hx402_0, hx402_1, hx402_2, hl402_1, hi402_1⟩ := iC HR0_6.out x13_1 (oe_ p402) (oe_ q402)
     cases e402
     replace hx402_0 := ce_ HB hx402_0
     replace hx402_1 := ce_ HB hx402_1
     replace hx402_2 := ce_ HB hx402_2
     have HR402_1 := am_ hi402_1
     have HC402_1 := am_ hl402_1
     clear hi402_1 hl402_1
     go_wp2_with (first | ((with_reducible refine gn_ 14 rfl ?_); refine bq_ (N := 14) (cs := #[.int .i64 0, .slice none 0 0, .int .i64 0]) (t := 68) ?_; intro gb403 hg w54 BK403 hb; have GW403 := ga_ w hg; have GE403 := GW403; have NB400_403 := am_ ((nl_ hg BK400 : gb400 ≠ gb403)); have NB403_400 := am_ ((ng_ hg BK400 : gb403 ≠ gb400)); have NB401_403 := am_ ((nl_ hg BK401 : gb401 ≠ gb403)); have NB403_401 := am_ ((ng_ hg BK401 : gb403 ≠ gb401)); replace BK400 := bb_ BK400 hb; replace BK401 := bb_ BK401 hb; replace HB := bp_ hb; clear hb hg; have hnb55 := NB403_400.out; have hnc55 := NB400_403.out; have hnb56 := NB403_401.out; have hnc56 := NB401_403.out; have bz57 := bc3_ BK403))
     go_roundg k1
     case measure => have := HK1.out; omega
     case rel => exact ⟨(x11_1), (x12_1), (wrap64 (x13_1 + 1)), ra_, ra_, ra_, H, ⟨by have := HK1.out; omega⟩, ⟨by (with_reducible repeat (first | refine blk_drewN ?_ _ | refine blk_drew ?_ | refine blk_alloc ?_ _)); refine blk_far ?_ NB400_403.out _; (with_reducible repeat (first | refine blk_drewN ?_ _ | refine blk_drew ?_ | refine blk_alloc ?_ _)); refine blk_far ?_ NB400_403.out _; (with_reducible repeat (first | refine blk_drewN ?_ _ | refine blk_drew ?_ | refine blk_alloc ?_ _)); refine blk_far ?_ NB400_403.out _; (with_reducible repeat (first | refine blk_drewN ?_ _ | refine blk_drew ?_ | refine blk_alloc ?_ _)); exact BK400.out⟩, ⟨by (with_reducible repeat (first | refine blk_drewN ?_ _ | refine blk_drew ?_ | refine blk_alloc ?_ _)); refine blk_far ?_ NB401_403.out _; (with_reducible repeat (first | refine blk_drewN ?_ _ | refine blk_drew ?_ | refine blk_alloc ?_ _)); refine blk_far ?_ NB401_403.out _; (with_reducible repeat (first | refine blk_drewN ?_ _ | refine blk_drew ?_ | refine blk_alloc ?_ _)); refine blk_far ?_ NB401_403.out _; (with_reducible repeat (first | refine blk_drewN ?_ _ | refine blk_drew ?_ | refine blk_alloc ?_ _)); exact BK401.out⟩, ⟨bl_⟩⟩
   rw [if_pos c31] at H
   have c31b0 : (((bG l0_6 x13_1).f0) == a3) = true := beq_iff_eq.mpr c31
   have c31b1 : (((bG l0_6 x13_1).f0) != a3) = false := bne_eq_false_iff_eq.mpr c31
   clear c31
   obtain ⟨t405, A32, H⟩ := bs_ H
   by_cases c33 : t405 = true
   · subst c33
     rw [if_pos rfl] at H
     obtain ⟨ji34, hji34⟩ : ∃ j_ : Int, (mx x11_1 ((bG l0_6 x13_1).f2)) = j_ := ⟨_, rfl⟩
     first | rw [hji34] at H | simp only [hji34] at H
     (try rw [hji34] at A32)
     have hji34_ : (if x11_1 < ((bG l0_6 x13_1).f2) then ((bG l0_6 x13_1).f2) else x11_1) = ji34 := hji34
     replace H := am_ H
     have hnb35 := NB400_401.out
     have hnc35 := NB401_400.out
     have bz36 := bc7_ BK400
     have p402 := pt_ x13_1
     have q402 := qt_ x13_1 l0_6.length
     obtain ⟨ad402, A402_1, c402_1, e402, hx402_0, hx402_1, hx402_2, hl402_1, hi402_1⟩ := iC HR0_6.out x13_1 (oe_ p402) (oe_ q402)
     cases e402
     replace hx402_0 := ce_ HB hx402_0
     replace hx402_1 := ce_ HB hx402_1
     replace hx402_2 := ce_ HB hx402_2
     have HR402_1 := am_ hi402_1
     have HC402_1 := am_ hl402_1
     clear hi402_1 hl402_1
     go_wp2_with (first | ((with_reducible refine gn_ 14 rfl ?_); refine bq_ (N := 14) (cs := #[.int .i64 0, .slice none 0 0, .int .i64 0]) (t := 68) ?_; intro gb403 hg w37 BK403 hb; have GW403 := ga_ w hg; have GE403 := GW403; have NB400_403 := am_ ((nl_ hg BK400 : gb400 ≠ gb403)); have NB403_400 := am_ ((ng_ hg BK400 : gb403 ≠ gb400)); have NB401_403 := am_ ((nl_ hg BK401 : gb401 ≠ gb403)); have NB403_401 := am_ ((ng_ hg BK401 : gb403 ≠ gb401)); replace BK400 := bb_ BK400 hb; replace BK401 := bb_ BK401 hb; replace HB := bp_ hb; clear hb hg; have hnb38 := NB403_400.out; have hnc38 := NB400_403.out; have hnb39 := NB403_401.out; have hnc39 := NB401_403.out; have bz40 := bc3_ BK403; have bz41 := bc2_ BK401) | (go_at_call 80; refine (bZ.calls k1 _ _ ((bG l0_6 x13_1).f1) a4_0 a4_1 true _ (gw_ HG.out) (Kd.C_below HR402_1.out bl_) HC402_1.out A32.out).mono ?_; rintro e w42 ⟨rfl, hb⟩; replace BK400 := am_ (blk_below (g := gb400) (o := .cells #[.int .i64 a0_0, .int .i64 a0_1, .int .i64 a0_2, .int .i64 a0_3, .int .i64 a0_4, .slice A0_5 l0_5.length c0_5, .slice (some ad402) l0_6.length c0_6] 25 (0, 0)) (bw_ BK400) hb); replace BK401 := am_ (blk_below (g := gb401) (o := .cells #[.int .i64 a4_0, .int .i64 a4_1] 33 (0, 0)) (bw_ BK401) hb); replace BK403 := am_ (blk_below (g := gb403) (o := .cells #[.int .i64 ((bG l0_6 x13_1).f0), .slice A402_1 ((bG l0_6 x13_1).f1).length c402_1, .int .i64 ((bG l0_6 x13_1).f2)] 68 (0, 0)) (bw_ BK403) hb); replace HB := bp_ hb; (try clear hb); have bz43 := bc3_ BK403))
     go_roundg k1
     case measure => have := HK1.out; omega
     case rel => exact ⟨(ji34), (true), (wrap64 (x13_1 + 1)), (by first | rfl | (simp; done) | (simp only [← hji34] <;> (first | rfl | simp)) | (simp [*]; done)), ra_, ra_, H, ⟨by have := HK1.out; omega⟩, ⟨bk_ BK400⟩, ⟨bk_ BK401⟩, ⟨bl_⟩⟩
   obtain rfl := bf_ c33
   clear c33
   rw [if_neg ft_] at H
   replace H := am_ H
   have hnb44 := NB400_401.out
   have hnc44 := NB401_400.out
   have bz45 := bc7_ BK400
   have p402 := pt_ x13_1
   have q402 := qt_ x13_1 l0_6.length
   obtain ⟨ad402, A402_1, c402_1, e402, hx402_0, hx402_1, hx402_2, hl402_1, hi402_1⟩ := iC HR0_6.out x13_1 (oe_ p402) (oe_ q402)
   cases e402
   replace hx402_0 := ce_ HB hx402_0
   replace hx402_1 := ce_ HB hx402_1
   replace hx402_2 := ce_ HB hx402_2
   have HR402_1 := am_ hi402_1
   have HC402_1 := am_ hl402_1
   clear hi402_1 hl402_1
   go_wp2_with (first | ((with_reducible refine gn_ 14 rfl ?_); refine bq_ (N := 14) (cs := #[.int .i64 0, .slice none 0 0, .int .i64 0]) (t := 68) ?_; intro gb403 hg w46 BK403 hb; have GW403 := ga_ w hg; have GE403 := GW403; have NB400_403 := am_ ((nl_ hg BK400 : gb400 ≠ gb403)); have NB403_400 := am_ ((ng_ hg BK400 : gb403 ≠ gb400)); have NB401_403 := am_ ((nl_ hg BK401 : gb401 ≠ gb403)); have NB403_401 := am_ ((ng_ hg BK401 : gb403 ≠ gb401)); replace BK400 := bb_ BK400 hb; replace BK401 := bb_ BK401 hb; replace HB := bp_ hb; clear hb hg; have hnb47 := NB403_400.out; have hnc47 := NB400_403.out; have hnb48 := NB403_401.out; have hnc48 := NB401_403.out; have bz49 := bc3_ BK403; have bz50 := bc2_ BK401) | (go_at_call 80; refine (bZ.calls k1 _ _ ((bG l0_6 x13_1).f1) a4_0 a4_1 false _ (gw_ HG.out) (Kd.C_below HR402_1.out bl_) HC402_1.out A32.out).mono ?_; rintro e w51 ⟨rfl, hb⟩; replace BK400 := am_ (blk_below (g := gb400) (o := .cells #[.int .i64 a0_0, .int .i64 a0_1, .int .i64 a0_2, .int .i64 a0_3, .int .i64 a0_4, .slice A0_5 l0_5.length c0_5, .slice (some ad402) l0_6.length c0_6] 25 (0, 0)) (bw_ BK400) hb); replace BK401 := am_ (blk_below (g := gb401) (o := .cells #[.int .i64 a4_0, .int .i64 a4_1] 33 (0, 0)) (bw_ BK401) hb); replace BK403 := am_ (blk_below (g := gb403) (o := .cells #[.int .i64 ((bG l0_6 x13_1).f0), .slice A402_1 ((bG l0_6 x13_1).f1).length c402_1, .int .i64 ((bG l0_6 x13_1).f2)] 68 (0, 0)) (bw_ BK403) hb); replace HB := bp_ hb; (try clear hb)))
   go_roundg k1
   case measure => have := HK1.out; omega
   case rel => exact ⟨(x11_1), (x12_1), (wrap64 (x13_1 + 1)), ra_, ra_, ra_, H, ⟨by have := HK1.out; omega⟩, ⟨bk_ BK400⟩, ⟨bk_ BK401⟩, ⟨bl_⟩⟩
def dA.j0 : Nat → ByteArray → ByteArray → Int → Bool → Int → Int → Int → Int → Int → List (S66) → List (S68) → Int → Int → Option (Int × Int)
 | 0, _, _, _, _, _, _, _, _, _, _, _, _, _ => none
 | k + 1, x1, x2, x3, x25, x409000, x409001, x409002, x409003, x409004, x409005, x409006, x410000, x410001 => if x25 = true then (some (0, 5)) else ((dG.f x3 0 15).bind fun t413 => (if t413 = true then ((eY.f x410000 x410001).bind fun t414 => (if t414 = true then ((bJ.f k x409000 x409001 x409002 x409003 x409004 x409005 x409006 x1 x2 x3 x410000 x410001).bind fun t415 => (some (t415, 0))) else (some (0, 1)))) else (some (0, 1))))
def dA.f (k : Nat) (a0_0 : Int) (a0_1 : Int) (a0_2 : Int) (a0_3 : Int) (a0_4 : Int) (l0_5 : List (S66)) (l0_6 : List (S68)) (a1 : ByteArray) (a2 : ByteArray) (a3 : Int) (a4_0 : Int) (a4_1 : Int) : Option (Int × Int) := (aN.f k a0_0 a0_1 a0_2 a0_3 a0_4 l0_5 l0_6).bind fun t410 => (if t410 = 0 then ((dK.f k a1).bind fun t411 => (if t411 = true then ((dK.f k a2).bind fun t412 => (dA.j0 k a1 a2 a3 (!t412) a0_0 a0_1 a0_2 a0_3 a0_4 l0_5 l0_6 a4_0 a4_1)) else (dA.j0 k a1 a2 a3 true a0_0 a0_1 a0_2 a0_3 a0_4 l0_5 l0_6 a4_0 a4_1))) else (some (0, t410)))
theorem dA.calls (k : Nat) (a0_0 : Int) (a0_1 : Int) (a0_2 : Int) (a0_3 : Int) (a0_4 : Int) (A0_5 : Option Addr) (c0_5 : Nat) (l0_5 : List (S66)) (A0_6 : Option Addr) (c0_6 : Nat) (l0_6 : List (S68)) (a1 : ByteArray) (a2 : ByteArray) (a3 : Int) (a4_0 : Int) (a4_1 : Int) (r1 : Int) (r2 : Int) (w : World) (hG : Tryz.GW w) (hr0_5 : Kd.C k66 w A0_5 l0_5.length l0_5) (hc0_5 : l0_5.length ≤ c0_5) (hr0_6 : Kd.C k68 w A0_6 l0_6.length l0_6) (hc0_6 : l0_6.length ≤ c0_6) (h : dA.f k a0_0 a0_1 a0_2 a0_3 a0_4 l0_5 l0_6 a1 a2 a3 a4_0 a4_1 = some (r1, r2)) :
 Calls Tryz.prog 16 #[.agg #[.int .i64 a0_0, .int .i64 a0_1, .int .i64 a0_2, .int .i64 a0_3, .int .i64 a0_4, .slice A0_5 l0_5.length c0_5, .slice A0_6 l0_6.length c0_6], .string a1, .string a2, .int .i64 a3, .agg #[.int .i64 a4_0, .int .i64 a4_1]] w fun e w' => e = .returned (.tuple #[.int .i64 r1, .int .i64 r2]) ∧ Below w.heap.size w w' := by
 have hu25 := Tryz.underlying25
 have hu33 := Tryz.underlying33
 have HR0_5 := am_ hr0_5
 have HC0_5 := am_ hc0_5
 clear hr0_5 hc0_5
 have HR0_6 := am_ hr0_6
 have HC0_6 := am_ hc0_6
 clear hr0_6 hc0_6
 have HG := am_ hG
 clear hG
 have HB := am_ (Below.refl w.heap.size w)
 have H : ((aN.f k a0_0 a0_1 a0_2 a0_3 a0_4 l0_5 l0_6).bind fun t410 => (if t410 = 0 then ((dK.f k a1).bind fun t411 => (if t411 = true then ((dK.f k a2).bind fun t412 => (dA.j0 k a1 a2 a3 (!t412) a0_0 a0_1 a0_2 a0_3 a0_4 l0_5 l0_6 a4_0 a4_1)) else (dA.j0 k a1 a2 a3 true a0_0 a0_1 a0_2 a0_3 a0_4 l0_5 l0_6 a4_0 a4_1))) else (some (0, t410)))) = some (r1, r2) := h
 clear h
 obtain ⟨t410, A6, H⟩ := bs_ H
 by_cases c7 : t410 = 0
 rotate_left
 · rw [if_neg c7] at H
   have c7b0 : (t410 == 0) = false := beq_eq_false_iff_ne.mpr c7
   have c7b1 : (t410 != 0) = true := bne_iff_ne.mpr c7
   simp only [Option.some.injEq, Prod.mk.injEq] at H
   obtain ⟨rfl, rfl⟩ := H
   go_enter Tryz.func16, Tryz.ntmps16
   go_wp2_with (first | ((with_reducible refine gn_ 5 rfl ?_); refine bq_ (N := 5) (cs := #[.int .i64 a0_0, .int .i64 a0_1, .int .i64 a0_2, .int .i64 a0_3, .int .i64 a0_4, .slice A0_5 l0_5.length c0_5, .slice A0_6 l0_6.length c0_6]) (t := 25) ?_; intro gb408 hg w35 BK408 hb; have GW408 := ga_ w hg; have GE408 := GW408; replace HB := bp_ hb; clear hb hg) | ((with_reducible refine gn_ 9 rfl ?_); refine bq_ (N := 9) (cs := #[.int .i64 a4_0, .int .i64 a4_1]) (t := 33) ?_; intro gb409 hg w36 BK409 hb; have GW409 := ga_ w hg; have GE409 := GW409; have NB408_409 := am_ ((nl_ hg BK408 : gb408 ≠ gb409)); have NB409_408 := am_ ((ng_ hg BK408 : gb409 ≠ gb408)); replace BK408 := bb_ BK408 hb; replace HB := bp_ hb; clear hb hg; have hnb37 := NB408_409.out; have hnc37 := NB409_408.out; have bz38 := bc7_ BK408) | ((with_reducible refine gf_ 13 rfl ?_); refine gl_ (some 14) Tryz.func13 #[.agg #[.int .i64 a0_0, .int .i64 a0_1, .int .i64 a0_2, .int .i64 a0_3, .int .i64 a0_4, .slice A0_5 l0_5.length c0_5, .slice A0_6 l0_6.length c0_6]] ?_; refine (aN.calls k a0_0 a0_1 a0_2 a0_3 a0_4 _ _ l0_5 _ _ l0_6 t410 _ (gw_ HG.out) (cb_ (Kd.C_below HR0_5.out HB.out)) HC0_5.out (cb_ (Kd.C_below HR0_6.out HB.out)) HC0_6.out A6.out).mono ?_; rintro e w39 ⟨rfl, hb⟩; refine ⟨_, rfl, ?_⟩; replace BK408 := bb_ BK408 hb; replace BK409 := bb_ BK409 hb; replace HB := bp_ hb; (try clear hb)))
   go_ret2
   exact ⟨er_, bl_⟩
 rw [if_pos c7] at H
 have c7b0 : (t410 == 0) = true := beq_iff_eq.mpr c7
 have c7b1 : (t410 != 0) = false := bne_eq_false_iff_eq.mpr c7
 clear c7
 have HC8 := am_ H
 clear H
 go_enter Tryz.func16, Tryz.ntmps16
 go_upto_region 4 with (first | ((with_reducible refine gn_ 5 rfl ?_); refine bq_ (N := 5) (cs := #[.int .i64 a0_0, .int .i64 a0_1, .int .i64 a0_2, .int .i64 a0_3, .int .i64 a0_4, .slice A0_5 l0_5.length c0_5, .slice A0_6 l0_6.length c0_6]) (t := 25) ?_; intro gb408 hg w9 BK408 hb; have GW408 := ga_ w hg; have GE408 := GW408; replace HB := bp_ hb; clear hb hg) | ((with_reducible refine gn_ 9 rfl ?_); refine bq_ (N := 9) (cs := #[.int .i64 a4_0, .int .i64 a4_1]) (t := 33) ?_; intro gb409 hg w10 BK409 hb; have GW409 := ga_ w hg; have GE409 := GW409; have NB408_409 := am_ ((nl_ hg BK408 : gb408 ≠ gb409)); have NB409_408 := am_ ((ng_ hg BK408 : gb409 ≠ gb408)); replace BK408 := bb_ BK408 hb; replace HB := bp_ hb; clear hb hg; have hnb11 := NB408_409.out; have hnc11 := NB409_408.out; have bz12 := bc7_ BK408) | ((with_reducible refine gf_ 13 rfl ?_); refine gl_ (some 14) Tryz.func13 #[.agg #[.int .i64 a0_0, .int .i64 a0_1, .int .i64 a0_2, .int .i64 a0_3, .int .i64 a0_4, .slice A0_5 l0_5.length c0_5, .slice A0_6 l0_6.length c0_6]] ?_; refine (aN.calls k a0_0 a0_1 a0_2 a0_3 a0_4 _ _ l0_5 _ _ l0_6 t410 _ (gw_ HG.out) (cb_ (Kd.C_below HR0_5.out HB.out)) HC0_5.out (cb_ (Kd.C_below HR0_6.out HB.out)) HC0_6.out A6.out).mono ?_; rintro e w13 ⟨rfl, hb⟩; refine ⟨_, rfl, ?_⟩; replace BK408 := bb_ BK408 hb; replace BK409 := bb_ BK409 hb; replace HB := bp_ hb; (try clear hb)))
 (try simp only [Act.put, List.setIfInBounds_toArray, List.set_cons_zero, List.set_cons_succ])
 go_cut [25] (fun v25 wc => ∃ (kq : Nat) (x25_7 : Bool), v25 = .bool x25_7 ∧ Aside0 (dA.j0 kq a1 a2 a3 x25_7 a0_0 a0_1 a0_2 a0_3 a0_4 l0_5 l0_6 a4_0 a4_1 = some (r1, r2)) ∧ Aside0 (kq ≤ k) ∧ Aside0 (wc.heap[gb408]? = some (.cells #[.int .i64 a0_0, .int .i64 a0_1, .int .i64 a0_2, .int .i64 a0_3, .int .i64 a0_4, (.slice A0_5 l0_5.length c0_5), (.slice A0_6 l0_6.length c0_6)] 25 (0, 0))) ∧ Aside0 (wc.heap[gb409]? = some (.cells #[.int .i64 a4_0, .int .i64 a4_1] 33 (0, 0))) ∧ Aside0 (Below w.heap.size w wc))
 case first =>
  have H := HC8.out
  clear HC8
  obtain ⟨t411, A14, H⟩ := bs_ H
  by_cases c15 : t411 = true
  · subst c15
    rw [if_pos rfl] at H
    obtain ⟨t412, A16, H⟩ := bs_ H
    replace H := am_ H
    go_wp2_with (first | ((with_reducible refine gf_ 45 rfl ?_); refine gl_ (some 19) Tryz.func45 #[.string a1] ?_; refine (dK.calls k a1 true _ (gw_ HG.out) A14.out).mono ?_; rintro e w17 ⟨rfl, hb⟩; refine ⟨_, rfl, ?_⟩; replace BK408 := bb_ BK408 hb; replace BK409 := bb_ BK409 hb; replace HB := bp_ hb; (try clear hb)) | (go_at_call 45; refine (dK.calls k a2 t412 _ (gw_ HG.out) A16.out).mono ?_; rintro e w18 ⟨rfl, hb⟩; replace BK408 := bb_ BK408 hb; replace BK409 := bb_ BK409 hb; replace HB := bp_ hb; (try clear hb)))
    go_meet
    case rel => exact ⟨_, (!t412), ra_, H, ⟨by first | omega | exact Nat.le_refl _⟩, ⟨bk_ BK408⟩, ⟨bk_ BK409⟩, ⟨bl_⟩⟩
  obtain rfl := bf_ c15
  clear c15
  rw [if_neg ft_] at H
  replace H := am_ H
  go_wp2_with (first | ((with_reducible refine gf_ 45 rfl ?_); refine gl_ (some 19) Tryz.func45 #[.string a1] ?_; refine (dK.calls k a1 false _ (gw_ HG.out) A14.out).mono ?_; rintro e w19 ⟨rfl, hb⟩; refine ⟨_, rfl, ?_⟩; replace BK408 := bb_ BK408 hb; replace BK409 := bb_ BK409 hb; replace HB := bp_ hb; (try clear hb)))
  go_meet
  case rel => exact ⟨_, (true), ra_, H, ⟨by first | omega | exact Nat.le_refl _⟩, ⟨bk_ BK408⟩, ⟨bk_ BK409⟩, ⟨bl_⟩⟩
 case rest =>
  clear HC8
  try clear c1
  try clear p2
  try clear c4
  try clear c7
  try clear c7b0
  try clear c7b1
  try clear c11
  try clear c13
  try clear c15
  try clear c16
  try clear hcz12_0 hcz12_1 hcz12_2 hcz12_3 hcz12_4 hcz12_5 hcz12_6 hfz12_0 hfz12_1 hfz12_2 hfz12_3 hfz12_4 hfz12_5 hfz12_6
  obtain ⟨kq, x25_7, rfl, HA, HJ7, BK408, BK409, HB⟩ := hcut
  cases kq with
  | zero => exact absurd HA.out (by simp [dA.j0])
  | succ kj7 =>
   have H := HA.out
   clear HA
   simp only [dA.j0] at H
   by_cases c20 : x25_7 = true
   · subst c20
     rw [if_pos rfl] at H
     simp only [Option.some.injEq, Prod.mk.injEq] at H
     obtain ⟨rfl, rfl⟩ := H
     go_wp2
     go_ret2
     exact ⟨er_, bl_⟩
   obtain rfl := bf_ c20
   clear c20
   rw [if_neg ft_] at H
   obtain ⟨t413, A21, H⟩ := bs_ H
   by_cases c22 : t413 = true
   rotate_left
   · obtain rfl := bf_ c22
     clear c22
     rw [if_neg ft_] at H
     simp only [Option.some.injEq, Prod.mk.injEq] at H
     obtain ⟨rfl, rfl⟩ := H
     go_wp2_with (first | ((with_reducible refine gf_ 40 rfl ?_); refine gl_ (some 27) Tryz.func40 #[.int .i64 a3, .int .i64 0, .int .i64 15] ?_; refine (dG.calls a3 0 15 false _ (gw_ HG.out) A21.out).mono ?_; rintro e w' ⟨rfl, ⟨nd, rfl⟩⟩; refine ⟨_, rfl, ?_⟩))
     go_ret2
     exact ⟨er_, bl_⟩
   subst c22
   rw [if_pos rfl] at H
   obtain ⟨t414, A23, H⟩ := bs_ H
   by_cases c24 : t414 = true
   · subst c24
     rw [if_pos rfl] at H
     obtain ⟨t415, A25, H⟩ := bs_ H
     simp only [Option.some.injEq, Prod.mk.injEq] at H
     obtain ⟨rfl, rfl⟩ := H
     go_wp2_with (first | ((with_reducible refine gf_ 40 rfl ?_); refine gl_ (some 27) Tryz.func40 #[.int .i64 a3, .int .i64 0, .int .i64 15] ?_; refine (dG.calls a3 0 15 true _ (gw_ HG.out) A21.out).mono ?_; rintro e w' ⟨rfl, ⟨nd, rfl⟩⟩; refine ⟨_, rfl, ?_⟩; have hnb26 := NB409_408.out; have hnc26 := NB408_409.out; have bz27 := bc2_ BK409) | (go_at_call 46; refine (eY.calls a4_0 a4_1 true _ (gw_ HG.out) A23.out).mono ?_; rintro e w28 ⟨rfl, hb⟩; replace BK408 := bb_ BK408 hb; replace BK409 := bb_ BK409 hb; replace HB := bp_ hb; (try clear hb); have bz29 := bc7_ BK408; have bz30 := bc2_ BK409) | ((with_reducible refine gf_ 47 rfl ?_); refine gl_ (some 39) Tryz.func47 #[.agg #[.int .i64 a0_0, .int .i64 a0_1, .int .i64 a0_2, .int .i64 a0_3, .int .i64 a0_4, .slice A0_5 l0_5.length c0_5, .slice A0_6 l0_6.length c0_6], .string a1, .string a2, .int .i64 a3, .agg #[.int .i64 a4_0, .int .i64 a4_1]] ?_; refine (bJ.calls kj7 a0_0 a0_1 a0_2 a0_3 a0_4 _ _ l0_5 _ _ l0_6 a1 a2 a3 a4_0 a4_1 t415 _ (gw_ HG.out) (cb_ (Kd.C_below HR0_5.out HB.out)) HC0_5.out (cb_ (Kd.C_below HR0_6.out HB.out)) HC0_6.out A25.out).mono ?_; rintro e w31 ⟨rfl, hb⟩; refine ⟨_, rfl, ?_⟩; replace BK408 := bb_ BK408 hb; replace BK409 := bb_ BK409 hb; replace HB := bp_ hb; (try clear hb)))
     go_ret2
     exact ⟨er_, bl_⟩
   obtain rfl := bf_ c24
   clear c24
   rw [if_neg ft_] at H
   simp only [Option.some.injEq, Prod.mk.injEq] at H
   obtain ⟨rfl, rfl⟩ := H
   go_wp2_with (first | ((with_reducible refine gf_ 40 rfl ?_); refine gl_ (some 27) Tryz.func40 #[.int .i64 a3, .int .i64 0, .int .i64 15] ?_; refine (dG.calls a3 0 15 true _ (gw_ HG.out) A21.out).mono ?_; rintro e w' ⟨rfl, ⟨nd, rfl⟩⟩; refine ⟨_, rfl, ?_⟩; have hnb32 := NB409_408.out; have hnc32 := NB408_409.out; have bz33 := bc2_ BK409) | (go_at_call 46; refine (eY.calls a4_0 a4_1 false _ (gw_ HG.out) A23.out).mono ?_; rintro e w34 ⟨rfl, hb⟩; replace BK408 := bb_ BK408 hb; replace BK409 := bb_ BK409 hb; replace HB := bp_ hb; (try clear hb)))
   go_ret2
   exact ⟨er_, bl_⟩
def gU.f (k : Nat) (a0_0 : Int) (a0_1 : Int) (a0_2 : Int) (a0_3 : Int) (a0_4 : Int) (l0_5 : List (S66)) (l0_6 : List (S68)) (a1 : ByteArray) : Option (Int) := (dM.f k a0_0 a0_1 a0_2 a0_3 a0_4 l0_5 l0_6 a1).bind fun bt417 => (if bt417.2.2.2 > 0 then (some bt417.2.2.2) else (some a0_1))
theorem gU.calls (k : Nat) (a0_0 : Int) (a0_1 : Int) (a0_2 : Int) (a0_3 : Int) (a0_4 : Int) (A0_5 : Option Addr) (c0_5 : Nat) (l0_5 : List (S66)) (A0_6 : Option Addr) (c0_6 : Nat) (l0_6 : List (S68)) (a1 : ByteArray) (r : Int) (w : World) (hG : Tryz.GW w) (hr0_5 : Kd.C k66 w A0_5 l0_5.length l0_5) (hc0_5 : l0_5.length ≤ c0_5) (hr0_6 : Kd.C k68 w A0_6 l0_6.length l0_6) (hc0_6 : l0_6.length ≤ c0_6) (h : gU.f k a0_0 a0_1 a0_2 a0_3 a0_4 l0_5 l0_6 a1 = some r) :
 Calls Tryz.prog 48 #[.agg #[.int .i64 a0_0, .int .i64 a0_1, .int .i64 a0_2, .int .i64 a0_3, .int .i64 a0_4, .slice A0_5 l0_5.length c0_5, .slice A0_6 l0_6.length c0_6], .string a1] w fun e w' => e = .returned (.int .i64 r) ∧ Below w.heap.size w w' := by
 have hu25 := Tryz.underlying25
 have hu66 := Tryz.underlying66
 have hfd66_3 : ∀ (s0 : ByteArray) (A1 : Option Addr) (n1 c1 : Nat) (x2 : Int) (x3 : Int) (w : World), (Instr.field 66 (.agg #[.string s0, .slice A1 n1 c1, .int .i64 x2, .int .i64 x3]) 3).run Tryz.prog w = .ok (.int .i64 x3) w := by intros; kernel_rfl
 have HR0_5 := am_ hr0_5
 have HC0_5 := am_ hc0_5
 clear hr0_5 hc0_5
 have HR0_6 := am_ hr0_6
 have HC0_6 := am_ hc0_6
 clear hr0_6 hc0_6
 have HG := am_ hG
 clear hG
 have HB := am_ (Below.refl w.heap.size w)
 have H : ((dM.f k a0_0 a0_1 a0_2 a0_3 a0_4 l0_5 l0_6 a1).bind fun bt417 => (if bt417.2.2.2 > 0 then (some bt417.2.2.2) else (some a0_1))) = some r := h
 clear h
 obtain ⟨⟨t417, t418, t421, t422⟩, A3, H⟩ := bs_ H
 by_cases c4 : t422 > 0
 · rw [if_pos c4] at H
   have c4b0 : decide (0 < t422) = true := decide_eq_true c4
   clear c4
   obtain rfl := sj_ H
   go_enter Tryz.func48, Tryz.ntmps48
   go_wp2_with (first | ((with_reducible refine gn_ 2 rfl ?_); refine bq_ (N := 2) (cs := #[.int .i64 a0_0, .int .i64 a0_1, .int .i64 a0_2, .int .i64 a0_3, .int .i64 a0_4, .slice A0_5 l0_5.length c0_5, .slice A0_6 l0_6.length c0_6]) (t := 25) ?_; intro gb416 hg w5 BK416 hb; have GW416 := ga_ w hg; have GE416 := GW416; replace HB := bp_ hb; clear hb hg; have bz6 := bc7_ BK416) | ((with_reducible refine gf_ 82 rfl ?_); refine gl_ (some 8) Tryz.func82 #[.agg #[.int .i64 a0_0, .int .i64 a0_1, .int .i64 a0_2, .int .i64 a0_3, .int .i64 a0_4, .slice A0_5 l0_5.length c0_5, .slice A0_6 l0_6.length c0_6], .string a1] ?_; refine (dM.calls k a0_0 a0_1 a0_2 a0_3 a0_4 (fun k_ => k_ < w.heap.size) _ _ l0_5 _ _ l0_6 a1 t417 t418 t421 t422 _ (gw_ HG.out) (Kd.V_mk HC0_5.out (Kd.F_below (Kd.C_F iV HR0_5.out) bl_)) (cb_ (Kd.C_below HR0_6.out HB.out)) HC0_6.out A3.out).mono ?_; rintro e w7 ⟨v419, rfl, ho0, hb⟩; refine ⟨_, rfl, ?_⟩; have HO420 := am_ (Kd.V_lower (Kd.V_mono (ok' := fun k_ => k_ ≠ gb416) ho0 (fun k_ hk_ => Or.elim hk_ (fun hs_ => fun e_ => Nat.not_le.2 hs_ (by rw [e_]; exact GW416.out)) (fun hn_ => (Kd.freshB (g := gb416) (o := .cells #[.int .i64 a0_0, .int .i64 a0_1, .int .i64 a0_2, .int .i64 a0_3, .int .i64 a0_4, .slice A0_5 l0_5.length c0_5, .slice A0_6 l0_6.length c0_6] 25 (0, 0)) (bk_ BK416) k_ hn_)))) (below_size bl_)); replace BK416 := bb_ BK416 hb; replace HB := bp_ hb; (try clear hb); (try clear ho0); obtain ⟨Ax419, cx419, ex419⟩ := Kd.V_slice HO420.out; subst ex419))
   go_ret
   exact ⟨er_, bl_⟩
 rw [if_neg c4] at H
 have c4b0 : decide (0 < t422) = false := decide_eq_false c4
 clear c4
 obtain rfl := sj_ H
 go_enter Tryz.func48, Tryz.ntmps48
 go_wp2_with (first | ((with_reducible refine gn_ 2 rfl ?_); refine bq_ (N := 2) (cs := #[.int .i64 a0_0, .int .i64 a0_1, .int .i64 a0_2, .int .i64 a0_3, .int .i64 a0_4, .slice A0_5 l0_5.length c0_5, .slice A0_6 l0_6.length c0_6]) (t := 25) ?_; intro gb416 hg w8 BK416 hb; have GW416 := ga_ w hg; have GE416 := GW416; replace HB := bp_ hb; clear hb hg; have bz9 := bc7_ BK416) | ((with_reducible refine gf_ 82 rfl ?_); refine gl_ (some 8) Tryz.func82 #[.agg #[.int .i64 a0_0, .int .i64 a0_1, .int .i64 a0_2, .int .i64 a0_3, .int .i64 a0_4, .slice A0_5 l0_5.length c0_5, .slice A0_6 l0_6.length c0_6], .string a1] ?_; refine (dM.calls k a0_0 a0_1 a0_2 a0_3 a0_4 (fun k_ => k_ < w.heap.size) _ _ l0_5 _ _ l0_6 a1 t417 t418 t421 t422 _ (gw_ HG.out) (Kd.V_mk HC0_5.out (Kd.F_below (Kd.C_F iV HR0_5.out) bl_)) (cb_ (Kd.C_below HR0_6.out HB.out)) HC0_6.out A3.out).mono ?_; rintro e w10 ⟨v419, rfl, ho0, hb⟩; refine ⟨_, rfl, ?_⟩; have HO420 := am_ (Kd.V_lower (Kd.V_mono (ok' := fun k_ => k_ ≠ gb416) ho0 (fun k_ hk_ => Or.elim hk_ (fun hs_ => fun e_ => Nat.not_le.2 hs_ (by rw [e_]; exact GW416.out)) (fun hn_ => (Kd.freshB (g := gb416) (o := .cells #[.int .i64 a0_0, .int .i64 a0_1, .int .i64 a0_2, .int .i64 a0_3, .int .i64 a0_4, .slice A0_5 l0_5.length c0_5, .slice A0_6 l0_6.length c0_6] 25 (0, 0)) (bk_ BK416) k_ hn_)))) (below_size bl_)); replace BK416 := bb_ BK416 hb; replace HB := bp_ hb; (try clear hb); (try clear ho0); obtain ⟨Ax419, cx419, ex419⟩ := Kd.V_slice HO420.out; subst ex419; have bz11 := bc7_ BK416))
 go_ret
 exact ⟨er_, bl_⟩
def fH.f (k : Nat) (a0_0 : Int) (a0_1 : Int) (a0_2 : Int) (a0_3 : Int) (a0_4 : Int) (l0_5 : List (S66)) (l0_6 : List (S68)) (a1 : ByteArray) : Option (Int × Int) := (bQ.f k a0_0 a0_1 a0_2 a0_3 a0_4 l0_5 l0_6).bind fun t424 => (if t424 = 0 then ((eP.f k a1).bind fun t425 => (if t425 = true then ((gU.f k a0_0 a0_1 a0_2 a0_3 a0_4 l0_5 l0_6 a1).bind fun t426 => (some (t426, 0))) else (some (0, 5)))) else (some (0, t424)))
theorem fH.calls (k : Nat) (a0_0 : Int) (a0_1 : Int) (a0_2 : Int) (a0_3 : Int) (a0_4 : Int) (A0_5 : Option Addr) (c0_5 : Nat) (l0_5 : List (S66)) (A0_6 : Option Addr) (c0_6 : Nat) (l0_6 : List (S68)) (a1 : ByteArray) (r1 : Int) (r2 : Int) (w : World) (hG : Tryz.GW w) (hr0_5 : Kd.C k66 w A0_5 l0_5.length l0_5) (hc0_5 : l0_5.length ≤ c0_5) (hr0_6 : Kd.C k68 w A0_6 l0_6.length l0_6) (hc0_6 : l0_6.length ≤ c0_6) (h : fH.f k a0_0 a0_1 a0_2 a0_3 a0_4 l0_5 l0_6 a1 = some (r1, r2)) :
 Calls Tryz.prog 17 #[.agg #[.int .i64 a0_0, .int .i64 a0_1, .int .i64 a0_2, .int .i64 a0_3, .int .i64 a0_4, .slice A0_5 l0_5.length c0_5, .slice A0_6 l0_6.length c0_6], .string a1] w fun e w' => e = .returned (.tuple #[.int .i64 r1, .int .i64 r2]) ∧ Below w.heap.size w w' := by
 have hu25 := Tryz.underlying25
 have HR0_5 := am_ hr0_5
 have HC0_5 := am_ hc0_5
 clear hr0_5 hc0_5
 have HR0_6 := am_ hr0_6
 have HC0_6 := am_ hc0_6
 clear hr0_6 hc0_6
 have HG := am_ hG
 clear hG
 have HB := am_ (Below.refl w.heap.size w)
 have H : ((bQ.f k a0_0 a0_1 a0_2 a0_3 a0_4 l0_5 l0_6).bind fun t424 => (if t424 = 0 then ((eP.f k a1).bind fun t425 => (if t425 = true then ((gU.f k a0_0 a0_1 a0_2 a0_3 a0_4 l0_5 l0_6 a1).bind fun t426 => (some (t426, 0))) else (some (0, 5)))) else (some (0, t424)))) = some (r1, r2) := h
 clear h
 obtain ⟨t424, A3, H⟩ := bs_ H
 by_cases c4 : t424 = 0
 rotate_left
 · rw [if_neg c4] at H
   have c4b0 : (t424 == 0) = false := beq_eq_false_iff_ne.mpr c4
   have c4b1 : (t424 != 0) = true := bne_iff_ne.mpr c4
   simp only [Option.some.injEq, Prod.mk.injEq] at H
   obtain ⟨rfl, rfl⟩ := H
   go_enter Tryz.func17, Tryz.ntmps17
   go_wp2_with (first | ((with_reducible refine gn_ 2 rfl ?_); refine bq_ (N := 2) (cs := #[.int .i64 a0_0, .int .i64 a0_1, .int .i64 a0_2, .int .i64 a0_3, .int .i64 a0_4, .slice A0_5 l0_5.length c0_5, .slice A0_6 l0_6.length c0_6]) (t := 25) ?_; intro gb423 hg w18 BK423 hb; have GW423 := ga_ w hg; have GE423 := GW423; replace HB := bp_ hb; clear hb hg; have bz19 := bc7_ BK423) | ((with_reducible refine gf_ 12 rfl ?_); refine gl_ (some 8) Tryz.func12 #[.agg #[.int .i64 a0_0, .int .i64 a0_1, .int .i64 a0_2, .int .i64 a0_3, .int .i64 a0_4, .slice A0_5 l0_5.length c0_5, .slice A0_6 l0_6.length c0_6]] ?_; refine (bQ.calls k a0_0 a0_1 a0_2 a0_3 a0_4 _ _ l0_5 _ _ l0_6 t424 _ (gw_ HG.out) (cb_ (Kd.C_below HR0_5.out HB.out)) HC0_5.out (cb_ (Kd.C_below HR0_6.out HB.out)) HC0_6.out A3.out).mono ?_; rintro e w20 ⟨rfl, hb⟩; refine ⟨_, rfl, ?_⟩; replace BK423 := bb_ BK423 hb; replace HB := bp_ hb; (try clear hb)))
   go_ret2
   exact ⟨er_, bl_⟩
 rw [if_pos c4] at H
 have c4b0 : (t424 == 0) = true := beq_iff_eq.mpr c4
 have c4b1 : (t424 != 0) = false := bne_eq_false_iff_eq.mpr c4
 clear c4
 obtain ⟨t425, A5, H⟩ := bs_ H
 by_cases c6 : t425 = true
 · subst c6
   rw [if_pos rfl] at H
   obtain ⟨t426, A7, H⟩ := bs_ H
   simp only [Option.some.injEq, Prod.mk.injEq] at H
   obtain ⟨rfl, rfl⟩ := H
   go_enter Tryz.func17, Tryz.ntmps17
   go_wp2_with (first | ((with_reducible refine gn_ 2 rfl ?_); refine bq_ (N := 2) (cs := #[.int .i64 a0_0, .int .i64 a0_1, .int .i64 a0_2, .int .i64 a0_3, .int .i64 a0_4, .slice A0_5 l0_5.length c0_5, .slice A0_6 l0_6.length c0_6]) (t := 25) ?_; intro gb423 hg w8 BK423 hb; have GW423 := ga_ w hg; have GE423 := GW423; replace HB := bp_ hb; clear hb hg; have bz9 := bc7_ BK423) | ((with_reducible refine gf_ 12 rfl ?_); refine gl_ (some 8) Tryz.func12 #[.agg #[.int .i64 a0_0, .int .i64 a0_1, .int .i64 a0_2, .int .i64 a0_3, .int .i64 a0_4, .slice A0_5 l0_5.length c0_5, .slice A0_6 l0_6.length c0_6]] ?_; refine (bQ.calls k a0_0 a0_1 a0_2 a0_3 a0_4 _ _ l0_5 _ _ l0_6 t424 _ (gw_ HG.out) (cb_ (Kd.C_below HR0_5.out HB.out)) HC0_5.out (cb_ (Kd.C_below HR0_6.out HB.out)) HC0_6.out A3.out).mono ?_; rintro e w10 ⟨rfl, hb⟩; refine ⟨_, rfl, ?_⟩; replace BK423 := bb_ BK423 hb; replace HB := bp_ hb; (try clear hb)) | ((with_reducible refine gf_ 42 rfl ?_); refine gl_ (some 13) Tryz.func42 #[.string a1] ?_; refine (eP.calls k a1 true _ (gw_ HG.out) A5.out).mono ?_; rintro e w11 ⟨rfl, hb⟩; refine ⟨_, rfl, ?_⟩; replace BK423 := bb_ BK423 hb; replace HB := bp_ hb; (try clear hb); have bz12 := bc7_ BK423) | ((with_reducible refine gf_ 48 rfl ?_); refine gl_ (some 17) Tryz.func48 #[.agg #[.int .i64 a0_0, .int .i64 a0_1, .int .i64 a0_2, .int .i64 a0_3, .int .i64 a0_4, .slice A0_5 l0_5.length c0_5, .slice A0_6 l0_6.length c0_6], .string a1] ?_; refine (gU.calls k a0_0 a0_1 a0_2 a0_3 a0_4 _ _ l0_5 _ _ l0_6 a1 t426 _ (gw_ HG.out) (cb_ (Kd.C_below HR0_5.out HB.out)) HC0_5.out (cb_ (Kd.C_below HR0_6.out HB.out)) HC0_6.out A7.out).mono ?_; rintro e w13 ⟨rfl, hb⟩; refine ⟨_, rfl, ?_⟩; replace BK423 := bb_ BK423 hb; replace HB := bp_ hb; (try clear hb)))
   go_ret2
   exact ⟨er_, bl_⟩
 obtain rfl := bf_ c6
 clear c6
 rw [if_neg ft_] at H
 simp only [Option.some.injEq, Prod.mk.injEq] at H
 obtain ⟨rfl, rfl⟩ := H
 go_enter Tryz.func17, Tryz.ntmps17
 go_wp2_with (first | ((with_reducible refine gn_ 2 rfl ?_); refine bq_ (N := 2) (cs := #[.int .i64 a0_0, .int .i64 a0_1, .int .i64 a0_2, .int .i64 a0_3, .int .i64 a0_4, .slice A0_5 l0_5.length c0_5, .slice A0_6 l0_6.length c0_6]) (t := 25) ?_; intro gb423 hg w14 BK423 hb; have GW423 := ga_ w hg; have GE423 := GW423; replace HB := bp_ hb; clear hb hg; have bz15 := bc7_ BK423) | ((with_reducible refine gf_ 12 rfl ?_); refine gl_ (some 8) Tryz.func12 #[.agg #[.int .i64 a0_0, .int .i64 a0_1, .int .i64 a0_2, .int .i64 a0_3, .int .i64 a0_4, .slice A0_5 l0_5.length c0_5, .slice A0_6 l0_6.length c0_6]] ?_; refine (bQ.calls k a0_0 a0_1 a0_2 a0_3 a0_4 _ _ l0_5 _ _ l0_6 t424 _ (gw_ HG.out) (cb_ (Kd.C_below HR0_5.out HB.out)) HC0_5.out (cb_ (Kd.C_below HR0_6.out HB.out)) HC0_6.out A3.out).mono ?_; rintro e w16 ⟨rfl, hb⟩; refine ⟨_, rfl, ?_⟩; replace BK423 := bb_ BK423 hb; replace HB := bp_ hb; (try clear hb)) | ((with_reducible refine gf_ 42 rfl ?_); refine gl_ (some 13) Tryz.func42 #[.string a1] ?_; refine (eP.calls k a1 false _ (gw_ HG.out) A5.out).mono ?_; rintro e w17 ⟨rfl, hb⟩; refine ⟨_, rfl, ?_⟩; replace BK423 := bb_ BK423 hb; replace HB := bp_ hb; (try clear hb)))
 go_ret2
 exact ⟨er_, bl_⟩
end Go.Proofs.YthkeonbmgcphkaaGreatDoor.PN
