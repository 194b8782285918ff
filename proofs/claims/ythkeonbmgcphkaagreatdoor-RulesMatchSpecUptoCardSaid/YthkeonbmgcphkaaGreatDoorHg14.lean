import Derived.Test.YthkeonbmgcphkaaGreatDoorHg6
import Derived.Test.YthkeonbmgcphkaaGreatDoorHg12
import Derived.Test.YthkeonbmgcphkaaGreatDoorHg13
namespace Go.Proofs.YthkeonbmgcphkaaGreatDoor.PM
open Go.RowKit Go.Proofs.YthkeonbmgcphkaaGreatDoorW.PrintWords Go.Proofs.YthkeonbmgcphkaaGreatDoorW.PrintLast Go.Proofs.YthkeonbmgcphkaaGreatDoorW.PrintMore
attribute [local go_sem] max2_int min2_int max_two min_two max_three min_three max_four min_four
set_option linter.unusedVariables false
set_option maxHeartbeats 8000000
set_option maxRecDepth 100000
set_option linter.unusedSimpArgs false
mutual
def bT.l0 : Nat → List (S44) → List (S118) → Int → Int → Option ((List (S44)))
 | 0, _, _, _, _ => none
 | k + 1, x3, x7, x8, x9 => if x9 < x8 then (if 0 ≤ x9 then (if x9 < (x7.length : Int) then (bT.l1 k x3 0 x7 x8 x9 ((bP x7 x9).f0) ((bP x7 x9).f1) ((bP x7 x9).f2)) else (none)) else (none)) else (some x3)
def bT.l1 : Nat → List (S44) → Int → List (S118) → Int → Int → Int → Int → List Int → Option ((List (S44)))
 | 0, _, _, _, _, _, _, _, _ => none
 | k + 1, x3, x6, x7, x8, x9, x170000, x170001, x170002 => if x6 < (x170002.length : Int) then (if 0 ≤ x6 then (if 0 ≤ (wrap64 (x6 + 1)) then (if (wrap64 (x6 + 1)) < (x170002.length : Int) then (if x3.length < 4398046511104 then (bT.l1 k (x3 ++ [(⟨rd x170002 x6, x170000, rd x170002 (wrap64 (x6 + 1)), x170001⟩ : S44)]) (wrap64 (x6 + 2)) x7 x8 x9 x170000 x170001 x170002) else (none)) else (none)) else (none)) else (none)) else (bT.l0 k x3 x7 x8 (wrap64 (x9 + 1)))
end
def bT.f (k : Nat) (l0 : List (S118)) : Option ((List (S44))) := bT.l0 k ([] : List (S44)) l0 (l0.length : Int) 0
def bT.T8 : Bool × List (List Nat × List Nat) := (true, [([], []), ([], []), ([1], [1]), ([], []), ([2, 3], [2, 3]), ([4], [4]), ([], []), ([6], [6]), ([], []), ([8], [8]), ([], []), ([10], [10]), ([9, 11], [9, 11]), ([12], [12]), ([], []), ([14], [14]), ([5, 7, 13, 15], [5, 7, 13, 15]), ([16], [16]), ([0, 17], [0, 17]), ([18, 18, 0, 1, 2, 3, 4, 5, 6, 7, 8, 9, 10, 11, 12, 13, 14, 15, 16, 17, 18], [0, 18])])
def bT.B8 : List Nat := [0, 0, 2, 0, 14, 30, 0, 64, 0, 256, 0, 1024, 3840, 7936, 0, 16384, 65534, 131070, 262143, 524287]
theorem bT.tab8 : rtab .any (opsOf Tryz.f69 8) = bT.T8 := by kernel_rfl
theorem bT.bits8 : waitsOk bT.T8.2 bT.B8 = true := by kernel_rfl
theorem bT.calls (k : Nat) (A0 : Option Addr) (c0 : Nat) (l0 : List (S118)) (r : List (S44)) (w : World) (hG : Tryz.GW w) (hr0 : Kd.C k118 w A0 l0.length l0) (hc0 : l0.length ≤ c0) (h : bT.f k l0 = some r) :
 Calls Tryz.prog 69 #[.slice A0 l0.length c0] w fun e w' => ∃ v0_ : Value, e = .returned (v0_) ∧ Kd.R k44 44 w' w.heap.size (fun _ => True) v0_ r ∧ Below w.heap.size w w' := by
 have hu118 := Tryz.underlying118
 have hu44 := Tryz.underlying44
 have HR0 := am_ hr0
 have HC0 := am_ hc0
 clear hr0 hc0
 have HG := am_ hG
 clear hG
 have HB := am_ (Below.refl w.heap.size w)
 have H : (bT.l0 k ([] : List (S44)) l0 (l0.length : Int) 0) = some r := h
 clear h
 replace H := am_ H
 go_enter Tryz.func69, Tryz.ntmps69
 go_wp2
 go_loopg [3, 9] k (fun kq v3 v9 w' => ∃ (x3_1 : List (S44)) (x9_1 : Int), v9 = .int .i64 x9_1 ∧ Aside0 (bT.l0 kq x3_1 l0 (l0.length : Int) x9_1 = some r) ∧ Aside0 (kq ≤ k) ∧ Aside0 (Kd.R k44 44 w' w.heap.size (fun _ => True) v3 x3_1) ∧ Aside0 (Below w.heap.size w w'))
 case atStart => exact ⟨(([] : List (S44))), (0), ra_, H, ⟨Nat.le_refl _⟩, ⟨by first | exact Kd.R_nil _ _ _ _ _ | exact Kd.N_nil _ _ _ _ _ | exact Kd.V_nil _ _ _ _ _ | exact Kd.Q_nil _ _ _ _ _ | exact Kd.S_nil _ _ _ _ _⟩, ⟨bl_⟩⟩
 case round =>
  clear H
  obtain ⟨x3_1, x9_1, rfl, HA, HK1, HO_3, HB⟩ := hrel
  cases gk with
  | zero => exact absurd HA.out (by simp [bT.l0])
  | succ k1 =>
   have H := HA.out
   clear HA
   simp only [bT.l0] at H
   by_cases c2 : x9_1 < (l0.length : Int)
   rotate_left
   · rw [if_neg c2] at H
     have c2b0 := decide_eq_false c2
     clear c2
     obtain rfl := sj_ H
     go_wp2
     go_ret
     exact ⟨_, er_, rr_ HO_3, bl_⟩
   rw [if_pos c2] at H
   have c2b0 := decide_eq_true c2
   clear c2
   obtain ⟨c3b0, H⟩ := ifd_ H
   obtain ⟨c4b0, H⟩ := ifd_ H
   replace H := am_ H
   have p168 := pt_ x9_1
   have q168 := qt_ x9_1 l0.length
   obtain ⟨ad168, A168_2, c168_2, e168, hx168_0, hx168_1, hx168_2, hl168_2, hi168_2⟩ := jQ HR0.out x9_1 (oe_ p168) (oe_ q168)
   cases e168
   replace hx168_0 := ce_ HB hx168_0
   replace hx168_1 := ce_ HB hx168_1
   replace hx168_2 := ce_ HB hx168_2
   have HR168_2 := am_ hi168_2
   have HC168_2 := am_ hl168_2
   clear hi168_2 hl168_2
   go_wp2_with (first | ((with_reducible refine gn_ 5 rfl ?_); refine bq_ (N := 5) (cs := #[.int .i64 0, .int .i64 0, .slice none 0 0]) (t := 118) ?_; intro gb169 hg w5 BK169 hb; have GW169 := ga_ w hg; have GE169 := GW169; replace HO_3 := am_ (Kd.R_below (rr_ HO_3) hb); replace HB := bp_ hb; clear hb hg; have bz6 := bc3_ BK169))
   go_loopg [3, 6] k1 (fun kq v3 v6 w' => ∃ (x3_2 : List (S44)) (x6_2 : Int), v6 = .int .i64 x6_2 ∧ Aside0 (bT.l1 kq x3_2 x6_2 l0 (l0.length : Int) x9_1 ((bP l0 x9_1).f0) ((bP l0 x9_1).f1) ((bP l0 x9_1).f2) = some r) ∧ Aside0 (kq ≤ k1) ∧ Aside0 (Kd.R k44 44 w' w.heap.size (fun _ => True) v3 x3_2) ∧ Aside0 (w'.heap[gb169]? = some (.cells #[.int .i64 ((bP l0 x9_1).f0), .int .i64 ((bP l0 x9_1).f1), (.slice A168_2 ((bP l0 x9_1).f2).length c168_2)] 118 (0, 0))) ∧ Aside0 (Below w.heap.size w w'))
   case atStart => exact ⟨(x3_1), (0), ra_, H, ⟨Nat.le_refl _⟩, ⟨by (with_reducible repeat (first | apply Kd.R_alloc | apply Kd.R_drewN | apply Kd.R_drew)); exact Kd.R_mono (Kd.R_far (p := ⟨gb169, 2, none⟩) (Kd.R_far (p := ⟨gb169, 1, none⟩) (Kd.R_far (p := ⟨gb169, 0, none⟩) (Kd.R_types HO_3.out BK169.out (by decide)) (fun _ hk => hk.2) (.int .i64 ((bP l0 x9_1).f0))) (fun _ hk => hk.2) (.int .i64 ((bP l0 x9_1).f1))) (fun _ hk => hk.2) (.slice A168_2 ((bP l0 x9_1).f2).length c168_2)) (fun _ hk => trivial)⟩, ⟨by (with_reducible repeat (first | refine blk_drewN ?_ _ | refine blk_drew ?_ | refine blk_alloc ?_ _)); refine blk_put (cs := #[.int .i64 ((bP l0 x9_1).f0), .int .i64 ((bP l0 x9_1).f1), .slice none 0 0]) ?_ 2 _ rfl; (with_reducible repeat (first | refine blk_drewN ?_ _ | refine blk_drew ?_ | refine blk_alloc ?_ _)); refine blk_put (cs := #[.int .i64 ((bP l0 x9_1).f0), .int .i64 0, .slice none 0 0]) ?_ 1 _ rfl; (with_reducible repeat (first | refine blk_drewN ?_ _ | refine blk_drew ?_ | refine blk_alloc ?_ _)); refine blk_put (cs := #[.int .i64 0, .int .i64 0, .slice none 0 0]) ?_ 0 _ rfl; (with_reducible repeat (first | refine blk_drewN ?_ _ | refine blk_drew ?_ | refine blk_alloc ?_ _)); exact BK169.out⟩, ⟨bl_⟩⟩
   case round =>
    clear H
    try clear c1
    try clear p1
    try clear q1
    try clear hx1
    try clear c2
    try clear c2b0
    try clear p2
    try clear c3
    try clear c3b0
    try clear c4
    try clear c4b0
    try clear c6
    try clear hcz6_0 hcz6_1 hcz6_2 hfz6_0 hfz6_1 hfz6_2
    try clear hx168_0
    try clear hx168_1
    try clear hx168_2
    try clear p168
    try clear q168
    obtain ⟨x3_2, x6_2, rfl, HA, HK2, HO_3, BK169, HB⟩ := hrel
    cases gk with
    | zero => exact absurd HA.out (by simp [bT.l1])
    | succ k2 =>
     have H := HA.out
     clear HA
     simp only [bT.l1] at H
     by_cases c7 : x6_2 < (((bP l0 x9_1).f2).length : Int)
     rotate_left
     · rw [if_neg c7] at H
       have c7b0 := decide_eq_false c7
       clear c7
       replace H := am_ H
       have bz16 := bc3_ BK169
       go_wp2
       go_roundg k2
       case measure => have := HK1.out; have := HK2.out; omega
       case rel => exact ⟨(x3_2), (wrap64 (x9_1 + 1)), ra_, H, ⟨by have := HK1.out; have := HK2.out; omega⟩, ⟨rr_ HO_3⟩, ⟨bl_⟩⟩
     rw [if_pos c7] at H
     have c7b0 := decide_eq_true c7
     clear c7
     obtain ⟨c8b0, H⟩ := ifd_ H
     obtain ⟨ji9, hji9⟩ : ∃ j_ : Int, (wrap64 (x6_2 + 1)) = j_ := ⟨_, rfl⟩
     first | rw [hji9] at H | simp only [hji9] at H
     have hji9w : (IntKind.i64.wrap (x6_2 + 1)) = ji9 := (i64_w _).trans hji9
     obtain ⟨c10b0, H⟩ := ifd_ H
     obtain ⟨c11b0, H⟩ := ifd_ H
     obtain ⟨LMc12, H⟩ := ifa_ H
     obtain ⟨y172, hy172⟩ : ∃ y_ : List (S44), y_ = (x3_2 ++ [(⟨rd ((bP l0 x9_1).f2) x6_2, ((bP l0 x9_1).f0), rd ((bP l0 x9_1).f2) (ji9), ((bP l0 x9_1).f1)⟩ : S44)]) := ⟨_, rfl⟩
     replace H : (bT.l1 k2 y172 (wrap64 (x6_2 + 2)) l0 (l0.length : Int) x9_1 ((bP l0 x9_1).f0) ((bP l0 x9_1).f1) ((bP l0 x9_1).f2)) = some r := by first | (rw [hy172]; with_reducible exact H) | (have H2_ := (Option.bind_some _ _).symm.trans H; rw [hy172]; with_reducible exact H2_) | (have H2_ := (Option.bind_some _ _).symm.trans H; with_reducible exact H2_) | with_reducible exact H | (rw [hy172]; exact H) | exact H
     have Ny172 := am_ hy172
     clear hy172
     replace H := am_ H
     have bz13 := bc3_ BK169
     try go_wp2
     replace HO_3 := am_ (Kd.R_drew HO_3.out)
     replace BK169 := am_ (blk_drew BK169.out)
     replace HB := am_ (below_drew1 HB.out)
     have p170 := pt_ x6_2
     have q170 : x6_2 < (((bP l0 x9_1).f2).length : Int) := dt_
     obtain ⟨ad170, e170, hx170_0⟩ := Kd.at_int HR168_2.out x6_2 (oe_ p170) q170
     have hw170_0 := hx170_0
     cases e170
     replace hx170_0 := ce_ HB hx170_0
     replace q170 := eq_true q170
     have p171 := pt_ (ji9)
     have q171 : (ji9) < (((bP l0 x9_1).f2).length : Int) := dt_
     obtain ⟨ad171, e171, hx171_0⟩ := Kd.at_int HR168_2.out (ji9) (oe_ p171) q171
     have hw171_0 := hx171_0
     obtain rfl : ad170 = ad171 := (by injection e171)
     replace hx171_0 := ce_ HB hx171_0
     replace q171 := eq_true q171
     refine start_ (n := 20) (S := fun w' => w'.cell? ⟨gb169, 0, none⟩ = some (.int .i64 ((bP l0 x9_1).f0)) ∧ w'.cell? ⟨gb169, 1, none⟩ = some (.int .i64 ((bP l0 x9_1).f1)) ∧ w'.cell? ⟨gb169, 2, none⟩ = some (.slice (some ad170) ((bP l0 x9_1).f2).length c168_2) ∧ w'.cell? (ad170.add (x6_2).toNat) = some (.int .i64 (rd ((bP l0 x9_1).f2) x6_2)) ∧ w'.cell? (ad170.add ((ji9)).toNat) = some (.int .i64 (rd ((bP l0 x9_1).f2) (ji9)))) (ds := []) (bv 20 0) (by kernel_rfl) rfl rfl ⟨(blk_cell BK169.out 0).trans rfl, (blk_cell BK169.out 1).trans rfl, (blk_cell BK169.out 2).trans rfl, (ce_ HB hw170_0), (ce_ HB hw171_0)⟩ (fun hHeld => ?_); refine with_tabW bT.tab8 bT.bits8 (fun HT_ HW_ => ?_)
     generalize wr.drew = w14 at HO_3 BK169 HB hx170_0 hx171_0 hHeld ⊢
     refine pu_ 0 20 (bv 20 1) ?_
     refine pu_ 1 21 (bv 20 3) ?_
     refine pu_ 3 23 (bv 20 11) ?_
     refine pu_ 6 26 (bv 20 75) ?_
     refine pu_ 8 28 (bv 20 331) ?_
     refine pu_ 10 30 (bv 20 1355) ?_
     refine pu_ 11 31 (bv 20 3403) ?_
     refine pu_ 14 34 (bv 20 19787) ?_
     refine tk_ 2 22 (bv 20 19791) hHeld ?_
     refine pu_ 4 24 (bv 20 19807) ?_
     refine tk_ 5 25 (bv 20 19839) hHeld ?_
     refine tk_ 7 27 (bv 20 19967) hHeld ?_
     refine tk_ 9 29 (bv 20 20479) hHeld ?_
     refine pu_ 12 32 (bv 20 24575) ?_
     refine tk_ 13 33 (bv 20 32767) hHeld ?_
     refine tk_ 15 35 (bv 20 65535) hHeld ?_
     refine pu_ 16 36 (bv 20 131071) ?_
     refine one_ (i := 17) (N := some 37) (bv 20 262143) rfl rfl (one_of HT_.out (by kernel_rfl)) (by decide) (fun K hK => ?_)
     refine value_ (w1 := ?_) (v := ?_) (by rfl) rfl ?_ ?_
     rotate_left 2
     · go_simp
       constructor
       · rfl
       rfl
     refine hK.out _ _ ⟨(blk_cell (blk_alloc BK169.out _) 0).trans rfl, (blk_cell (blk_alloc BK169.out _) 1).trans rfl, (blk_cell (blk_alloc BK169.out _) 2).trans rfl, (World.cell?_alloc_lt _ _ _ (World.block_lt_of_cell? _ _ ((ce_ HB hw170_0)))).trans ((ce_ HB hw170_0)), (World.cell?_alloc_lt _ _ _ (World.block_lt_of_cell? _ _ ((ce_ HB hw171_0)))).trans ((ce_ HB hw171_0))⟩ (fun hHeld => ?_)
     clear hK K
     refine norm_ (a' := ?_) ?_ ?_
     rotate_left
     · show Act.put _ (some 37) _ = _
       simp only [Act.put, List.setIfInBounds_toArray, List.set_cons_zero, List.set_cons_succ, i64_w, i32_w]
       rfl
     refine one_ (i := 18) (N := some 38) (bv 20 524287) rfl rfl (one_of HT_.out (by kernel_rfl)) (by decide) (fun K hK => ?_)
     refine Kd.R_append_step k44 (w0 := w) w.heap.size (by rfl) (.tmp 20) (.tmp 37) 38 44 (.agg #[(.int .i64 0), (.int .i64 0), (.int .i64 0), (.int .i64 0)]) 32 rfl Tryz.underlying38 info44 rfl (by decide) (by omega) u3 x3_2 (⟨rd ((bP l0 x9_1).f2) x6_2, ((bP l0 x9_1).f0), rd ((bP l0 x9_1).f2) (ji9), ((bP l0 x9_1).f1)⟩ : S44) [.int .i64 (rd ((bP l0 x9_1).f2) x6_2), .int .i64 ((bP l0 x9_1).f0), .int .i64 (rd ((bP l0 x9_1).f2) (ji9)), .int .i64 ((bP l0 x9_1).f1)] (fun _ => True) (fun _ => False) rfl rfl ?aP (fun _ hk => hk.elim) ?aF ?aO ?aB ?aS ?aL ?_
     (case aP => exact jM _ _ _ (⟨rd ((bP l0 x9_1).f2) x6_2, ((bP l0 x9_1).f0), rd ((bP l0 x9_1).f2) (ji9), ((bP l0 x9_1).f1)⟩ : S44))
     (case aB => exact bl_)
     (case aF => exact (fun _ _ => trivial))
     (case aO => exact (rr_ HO_3))
     (case aS => exact (below_size bl_))
     (case aL => have := LMc12.out; omega)
     intro v173 w15 ho hb hg hat
     rw [← Ny172.out] at ho
     have n0_ := am_ (blk_grown (g := gb169) (o := .cells #[.int .i64 ((bP l0 x9_1).f0), .int .i64 ((bP l0 x9_1).f1), .slice (some ad170) ((bP l0 x9_1).f2).length c168_2] 118 (0, 0)) (bk_ BK169) hg (Kd.R_ne HO_3.out BK169.out (by decide)))
     have n1_ := am_ (hb)
     have n2_ := am_ (ho)
     clear BK169
     clear HB
     clear HO_3
     have BK169 := n0_
     have HB := n1_
     have HO174 := n2_
     clear n0_ n1_ n2_
     clear ho hb hg hat
     refine hK.out _ _ ⟨(blk_cell BK169.out 0).trans rfl, (blk_cell BK169.out 1).trans rfl, (blk_cell BK169.out 2).trans rfl, (ce_ HB hw170_0), (ce_ HB hw171_0)⟩ (fun hHeld => ?_)
     clear hK K
     refine norm_ (a' := ?_) ?_ ?_
     rotate_left
     · show Act.put _ (some 38) _ = _
       simp only [Act.put, List.setIfInBounds_toArray, List.set_cons_zero, List.set_cons_succ, i64_w, i32_w]
       rfl
     refine pu_ 19 3 (bv 20 1048575) ?_
     refine done_ (done_of HT_.out (by kernel_rfl)) ?_
     try go_wp2
     go_roundg k2
     case measure => have := HK1.out; have := HK2.out; omega
     case rel => exact ⟨(y172), (wrap64 (x6_2 + 2)), ra_, H, ⟨by have := HK1.out; have := HK2.out; omega⟩, ⟨rr_ HO174⟩, ⟨bk_ BK169⟩, ⟨bl_⟩⟩
def bH.bad (a b : S44) : Bool := decide (b.f1 < a.f1) || (decide (b.f1 = a.f1) && decide (b.f0 ≤ a.f0))
def bH.ord (l : List S44) : Bool := (List.range (l.length - 1)).all fun i => !bH.bad (aI l (i : Int)) (aI l ((i + 1 : Nat) : Int))
def bH.f (k : Nat) (l0 : List (S44)) : Option (Int) := (dI.f k l0).bind fun t => if t = 0 then (if bH.ord l0 = true then ((aJ.f k l0).bind fun s => (bT.f k s).bind fun q => (dP.f k q l0).bind fun b => some (if b = true then 0 else 3)) else some 8) else some t
def bH.T7 : Bool × List (List Nat × List Nat) := (true, [([], []), ([], []), ([1], [1]), ([0, 2], [0, 2]), ([3], [3]), ([], []), ([], []), ([5, 6], [5, 6]), ([7], [7]), ([], []), ([], []), ([9, 4, 0, 1, 2, 3, 4, 9, 10], [4, 9]), ([10, 8, 11, 0, 1, 2, 3, 4, 5, 6, 7, 8, 9, 10, 11], [8, 10])])
def bH.B7 : List Nat := [0, 0, 2, 7, 15, 0, 0, 96, 224, 0, 0, 1567, 4095]
theorem bH.tab7 : rtab .any (opsOf Tryz.f37 7) = bH.T7 := by kernel_rfl
theorem bH.jU : waitsOk bH.T7.2 bH.B7 = true := by kernel_rfl
theorem bH.calls (k : Nat) (A0 : Option Addr) (c0 : Nat) (l0 : List (S44)) (r : Int) (w : World) (hG : Tryz.GW w) (hr0 : Kd.C k44 w A0 l0.length l0) (hc0 : l0.length ≤ c0) (h : bH.f k l0 = some r) :
 Calls Tryz.prog 37 #[.slice A0 l0.length c0] w fun e w' => e = .returned (.int .i64 r) ∧ Below w.heap.size w w' := by
 have HG := am_ hG
 have HR := am_ hr0
 have HC := am_ hc0
 unfold bH.f at h
 obtain ⟨t, ht, h⟩ := Option.bind_eq_some_iff.1 h
 have HT := am_ ht
 clear ht hG hr0 hc0
 by_cases h0 : t = 0
 rotate_left
 · rw [if_neg h0] at h
   obtain rfl := Option.some.inj h
   have z1 : (t == 0) = false := beq_eq_false_iff_ne.2 h0
   have z2 : (t != 0) = true := bne_iff_ne.2 h0
   clear h
   go_enter Tryz.func37, Tryz.ntmps37
   go_wp2_with (go_at_call 67; refine (dI.calls k A0 c0 l0 t _ HG.out HR.out HC.out HT.out).mono ?_; rintro e w1 ⟨rfl, hb⟩; have B1 := am_ hb; clear hb)
   go_ret
   exact ⟨rfl, B1.out⟩
 subst h0
 rw [if_pos rfl] at h
 have H := am_ h
 clear h
 have hl : l0.length ≤ 9223372036854775807 := HR.out.2.1
 go_enter Tryz.func37, Tryz.ntmps37
 go_wp2_with (go_at_call 67; refine (dI.calls k A0 c0 l0 0 _ HG.out HR.out HC.out HT.out).mono ?_; rintro e w1 ⟨rfl, hb⟩; have B1 := am_ hb; clear hb)
 go_loopg [4] l0.length (fun gg v4 wr => ∃ i : Nat, v4 = .int .i64 i ∧ 1 ≤ i ∧ l0.length + 1 - i ≤ gg ∧ Aside0 (Below w.heap.size w wr) ∧ Aside0 (∀ j, j + 1 < i → j + 1 < l0.length → bH.bad (aI l0 (j : Int)) (aI l0 ((j + 1 : Nat) : Int)) = false))
 case atStart => exact ⟨1, rfl, Nat.le_refl _, by omega, ⟨by repeat (first | (with_reducible first | exact B1.out | apply below_alloc | apply pw_below_drewN | apply below_drew1) | exact B1.out)⟩, ⟨fun j h => by omega⟩⟩
 case round =>
  obtain ⟨i, rfl, hi, hgg, HB, IV⟩ := hrel
  by_cases hlt : i < l0.length
  rotate_left
  · have d0 : decide (i < l0.length) = false := decide_eq_false hlt
    have ho : bH.ord l0 = true := by
     refine List.all_eq_true.2 fun j hj => ?_
     have := List.mem_range.1 hj
     rw [IV.out j (by omega) (by omega)]
     rfl
    have H' := H.out
    rw [if_pos ho] at H'
    obtain ⟨s, hs, H'⟩ := Option.bind_eq_some_iff.1 H'
    obtain ⟨q, hq, H'⟩ := Option.bind_eq_some_iff.1 H'
    obtain ⟨b, hb, H'⟩ := Option.bind_eq_some_iff.1 H'
    obtain rfl := Option.some.inj H'
    have HS := am_ hs
    have HQ := am_ hq
    have HE := am_ hb
    clear H' hs hq hb ho
    cases b with
    | false =>
     go_wp2_with (first | (go_at_call 51; refine (aJ.calls k A0 c0 l0 s _ (Tryz.dJ HG.out bl_) (by exact cb_ (Kd.C_below HR.out HB.out)) HC.out HS.out).mono ?_; rintro e w1 ⟨v, rfl, ho0, hb⟩; have HO := am_ ho0; have n0 := am_ (below_step bl_ hb); clear HB; have HB := n0; clear hb ho0 n0; obtain ⟨Ao, co, eo⟩ := Kd.S_slice HO.out; subst eo; dsimp only) | (go_at_call 69; refine (bT.calls k Ao co s q _ (Tryz.dJ HG.out bl_) (by exact cb_ (Kd.S_reads' HO.out).2.2) (Kd.S_reads' HO.out).2.1 HQ.out).mono ?_; rintro e w2 ⟨v, rfl, ho0, hb⟩; have HO2 := am_ ho0; have n0 := am_ (below_step bl_ hb); clear HB HO; have HB := n0; clear hb ho0 n0; obtain ⟨Aq, cq, eq⟩ := Kd.R_slice HO2.out; subst eq; dsimp only) | (go_at_call 68; refine (dP.calls k Aq cq q A0 c0 l0 false _ (Tryz.dJ HG.out bl_) (by exact cb_ (Kd.R_reads' HO2.out).2.2) (Kd.R_reads' HO2.out).2.1 (by exact cb_ (Kd.C_below HR.out HB.out)) HC.out HE.out).mono ?_; rintro e w' ⟨rfl, ⟨nd, rfl⟩⟩; dsimp only))
     go_ret
     exact ⟨rfl, bl_⟩
    | true =>
     go_wp2_with (first | (go_at_call 51; refine (aJ.calls k A0 c0 l0 s _ (Tryz.dJ HG.out bl_) (by exact cb_ (Kd.C_below HR.out HB.out)) HC.out HS.out).mono ?_; rintro e w1 ⟨v, rfl, ho0, hb⟩; have HO := am_ ho0; have n0 := am_ (below_step bl_ hb); clear HB; have HB := n0; clear hb ho0 n0; obtain ⟨Ao, co, eo⟩ := Kd.S_slice HO.out; subst eo; dsimp only) | (go_at_call 69; refine (bT.calls k Ao co s q _ (Tryz.dJ HG.out bl_) (by exact cb_ (Kd.S_reads' HO.out).2.2) (Kd.S_reads' HO.out).2.1 HQ.out).mono ?_; rintro e w2 ⟨v, rfl, ho0, hb⟩; have HO2 := am_ ho0; have n0 := am_ (below_step bl_ hb); clear HB HO; have HB := n0; clear hb ho0 n0; obtain ⟨Aq, cq, eq⟩ := Kd.R_slice HO2.out; subst eq; dsimp only) | (go_at_call 68; refine (dP.calls k Aq cq q A0 c0 l0 true _ (Tryz.dJ HG.out bl_) (by exact cb_ (Kd.R_reads' HO2.out).2.2) (Kd.R_reads' HO2.out).2.1 (by exact cb_ (Kd.C_below HR.out HB.out)) HC.out HE.out).mono ?_; rintro e w' ⟨rfl, ⟨nd, rfl⟩⟩; dsimp only))
     go_ret
     exact ⟨rfl, bl_⟩
  have d0 : decide (i < l0.length) = true := decide_eq_true hlt
  obtain ⟨j, hj⟩ : ∃ j, Aside0 (i = j + 1) := ⟨i - 1, ⟨by omega⟩⟩
  obtain ⟨ad176, eA, hw176_0, hw176_1, hw176_2, hw176_3⟩ := dS HR.out (j : Int) (by omega) (by have := hj.out; omega)
  subst eA
  obtain ⟨ad', eA, hw177_0, hw177_1, hw177_2, hw177_3⟩ := dS HR.out (i : Int) (by omega) (by omega)
  obtain rfl : ad176 = ad' := by injection eA
  clear eA
  rw [Int.toNat_natCast] at hw176_0 hw176_1 hw176_2 hw176_3 hw177_0 hw177_1 hw177_2 hw177_3
  obtain ⟨x, hx⟩ : ∃ x, Aside0 (aI l0 (j : Int) = x) := ⟨_, ⟨rfl⟩⟩
  obtain ⟨y, hy⟩ : ∃ y, Aside0 (aI l0 (i : Int) = y) := ⟨_, ⟨rfl⟩⟩
  rw [hx.out] at hw176_0 hw176_1 hw176_2 hw176_3
  rw [hy.out] at hw177_0 hw177_1 hw177_2 hw177_3
  have p1 : (0 ≤ (j : Int)) = True := eq_true (by omega)
  have q1 : ((j : Int) < (l0.length : Int)) = True := eq_true (by have := hj.out; omega)
  have p2 : (0 ≤ (i : Int)) = True := eq_true (by omega)
  have q2 : ((i : Int) < (l0.length : Int)) = True := eq_true (by omega)
  have m1 : (i : Int) - 1 = (j : Int) := by have := hj.out; omega
  have m2 : IntKind.i64.wrap (j : Int) = (j : Int) := by rw [IntKind.wrap_i64]; have := hj.out; omega
  go_upto_region 7 with (fail)
  go_cut [5, 6] (fun v5 v6 wc => ∃ g5 g6 : Nat, v5 = .pointer (some ⟨g5, 0, none⟩) ∧ v6 = .pointer (some ⟨g6, 0, none⟩) ∧ Aside0 (wc.cell? ⟨g5, 0, none⟩ = some (.int .i64 x.f0)) ∧ Aside0 (wc.cell? ⟨g5, 1, none⟩ = some (.int .i64 x.f1)) ∧ Aside0 (wc.cell? ⟨g6, 0, none⟩ = some (.int .i64 y.f0)) ∧ Aside0 (wc.cell? ⟨g6, 1, none⟩ = some (.int .i64 y.f1)) ∧ Aside0 (Below w.heap.size w wc))
  case first =>
   go_wp2
   replace HB := am_ (below_drew1 HB.out)
   have hx176_0 := ce_ HB hw176_0
   have hx176_1 := ce_ HB hw176_1
   have hx176_2 := ce_ HB hw176_2
   have hx176_3 := ce_ HB hw176_3
   have hx177_0 := ce_ HB hw177_0
   have hx177_1 := ce_ HB hw177_1
   have hx177_2 := ce_ HB hw177_2
   have hx177_3 := ce_ HB hw177_3
   refine start_ (n := 13) (S := fun w' => w'.cell? (ad176.add (j * 4)) = some (.int .i64 (x.f0)) ∧ w'.cell? ⟨(ad176.add (j * 4)).block, (ad176.add (j * 4)).off + 1, none⟩ = some (.int .i64 (x.f1)) ∧ w'.cell? ⟨(ad176.add (j * 4)).block, (ad176.add (j * 4)).off + 2, none⟩ = some (.int .i64 (x.f2)) ∧ w'.cell? ⟨(ad176.add (j * 4)).block, (ad176.add (j * 4)).off + 3, none⟩ = some (.int .i64 (x.f3)) ∧ w'.cell? (ad176.add (i * 4)) = some (.int .i64 (y.f0)) ∧ w'.cell? ⟨(ad176.add (i * 4)).block, (ad176.add (i * 4)).off + 1, none⟩ = some (.int .i64 (y.f1)) ∧ w'.cell? ⟨(ad176.add (i * 4)).block, (ad176.add (i * 4)).off + 2, none⟩ = some (.int .i64 (y.f2)) ∧ w'.cell? ⟨(ad176.add (i * 4)).block, (ad176.add (i * 4)).off + 3, none⟩ = some (.int .i64 (y.f3))) (ds := []) (bv 13 0) (by kernel_rfl) rfl rfl ⟨(ce_ HB hw176_0), (ce_ HB hw176_1), (ce_ HB hw176_2), (ce_ HB hw176_3), (ce_ HB hw177_0), (ce_ HB hw177_1), (ce_ HB hw177_2), (ce_ HB hw177_3)⟩ (fun hHeld => ?_); refine with_tabW bH.tab7 bH.jU (fun HT_ HW_ => ?_)
   generalize wr.drew = w11 at HB hx176_0 hx176_1 hx176_2 hx176_3 hx177_0 hx177_1 hx177_2 hx177_3 hHeld ⊢
   refine pu_ 0 18 (bv 13 1) ?_
   refine pu_ 1 19 (bv 13 3) ?_
   refine pu_ 2 20 (bv 13 7) ?_
   refine pu_ 3 21 (bv 13 15) ?_
   refine pu_ 5 23 (bv 13 47) ?_
   refine pu_ 6 24 (bv 13 111) ?_
   refine pu_ 7 25 (bv 13 239) ?_
   refine tk_ 4 22 (bv 13 255) hHeld ?_
   refine tk_ 8 26 (bv 13 511) hHeld ?_
   refine join_ (σ := Nat × Nat) 2 (bv 13 2047) (fun s_ => [(5, .pointer (some ⟨s_.1, 0, none⟩)), (6, .pointer (some ⟨s_.2, 0, none⟩))]) (fun s_ w' => (w'.cell? (ad176.add (j * 4)) = some (.int .i64 (x.f0)) ∧ w'.cell? ⟨(ad176.add (j * 4)).block, (ad176.add (j * 4)).off + 1, none⟩ = some (.int .i64 (x.f1)) ∧ w'.cell? ⟨(ad176.add (j * 4)).block, (ad176.add (j * 4)).off + 2, none⟩ = some (.int .i64 (x.f2)) ∧ w'.cell? ⟨(ad176.add (j * 4)).block, (ad176.add (j * 4)).off + 3, none⟩ = some (.int .i64 (x.f3)) ∧ w'.cell? (ad176.add (i * 4)) = some (.int .i64 (y.f0)) ∧ w'.cell? ⟨(ad176.add (i * 4)).block, (ad176.add (i * 4)).off + 1, none⟩ = some (.int .i64 (y.f1)) ∧ w'.cell? ⟨(ad176.add (i * 4)).block, (ad176.add (i * 4)).off + 2, none⟩ = some (.int .i64 (y.f2)) ∧ w'.cell? ⟨(ad176.add (i * 4)).block, (ad176.add (i * 4)).off + 3, none⟩ = some (.int .i64 (y.f3))) ∧ (w'.heap[s_.1]? = some (.cells #[.int .i64 0, .int .i64 0, .int .i64 0, .int .i64 0] 44 (0, 0))) ∧ (w'.heap[s_.2]? = some (.cells #[.int .i64 0, .int .i64 0, .int .i64 0, .int .i64 0] 44 (0, 0))) ∧ (w.heap.size ≤ s_.1) ∧ (w.heap.size ≤ s_.1) ∧ (s_.2 ≠ s_.1) ∧ (s_.1 ≠ s_.2) ∧ (w.heap.size ≤ s_.2) ∧ (w.heap.size ≤ s_.2) ∧ (Below w.heap.size w w')) ?_ ?_
   rotate_left
   · intro hCont
     refine two_ (i := 9) (j := 10) (Ni := some 5) (Nj := some 6) (bv 13 1023) (bv 13 1535) rfl rfl rfl rfl (two_of HT_.out (by kernel_rfl)) (by decide) (by decide) (fun K hK => ?_) (fun K hK => ?_)
     · skip
       refine box_step ?hg (N := 5) ?hd (cs := #[.int .i64 0, .int .i64 0, .int .i64 0, .int .i64 0]) (t := 44) ?hr ?_; (case hd => rfl); (case hg => rfl); (case hr => first | (go_simp; done) | (go_simp; rfl))
       intro gb178 hg w12 hbox hb
       have BK178 := am_ (hbox)
       have GW178 := ga_ w hg
       have GE178 := ga_ w hg
       replace HB := bp_ hb
       clear hb hbox hg
       refine hK.out _ _ ⟨(ce_ HB hw176_0), (ce_ HB hw176_1), (ce_ HB hw176_2), (ce_ HB hw176_3), (ce_ HB hw177_0), (ce_ HB hw177_1), (ce_ HB hw177_2), (ce_ HB hw177_3)⟩ (fun hHeld => ?_)
       clear hK K
       refine norm_ (a' := ?_) ?_ ?_
       rotate_left
       · show Act.put _ (some 5) _ = _
         simp only [Act.put, List.setIfInBounds_toArray, List.set_cons_zero, List.set_cons_succ, i64_w, i32_w]
         rfl
       refine one_ (i := 10) (N := some 6) (bv 13 2047) rfl rfl (one_of HT_.out (by kernel_rfl)) (by decide) (fun K hK => ?_)
       refine box_step ?hg (N := 6) ?hd (cs := #[.int .i64 0, .int .i64 0, .int .i64 0, .int .i64 0]) (t := 44) ?hr ?_; (case hd => rfl); (case hg => rfl); (case hr => first | (go_simp; done) | (go_simp; rfl))
       intro gb179 hg w13 hbox hb
       have BK179 := am_ (hbox)
       have GW179 := ga_ w hg
       have GE179 := ga_ w hg
       have NB178_179 := am_ ((nl_ hg BK178 : gb178 ≠ gb179))
       have NB179_178 := am_ ((ng_ hg BK178 : gb179 ≠ gb178))
       replace BK178 := bb_ BK178 hb
       replace HB := bp_ hb
       clear hb hbox hg
       refine hK.out _ _ ⟨(ce_ HB hw176_0), (ce_ HB hw176_1), (ce_ HB hw176_2), (ce_ HB hw176_3), (ce_ HB hw177_0), (ce_ HB hw177_1), (ce_ HB hw177_2), (ce_ HB hw177_3)⟩ (fun hHeld => ?_)
       clear hK K
       refine norm_ (a' := ?_) ?_ ?_
       rotate_left
       · show Act.put _ (some 6) _ = _
         simp only [Act.put, List.setIfInBounds_toArray, List.set_cons_zero, List.set_cons_succ, i64_w, i32_w]
         rfl
       exact norm_ (by simp only [putAll, Act.put, List.setIfInBounds_toArray, List.set_cons_zero, List.set_cons_succ]) (hCont (gb178, gb179) _ ⟨hHeld, (bk_ BK178), (bk_ BK179), GW178.out, GE178.out, NB179_178.out, NB178_179.out, GW179.out, GE179.out, bl_⟩)
     skip
     refine box_step ?hg (N := 6) ?hd (cs := #[.int .i64 0, .int .i64 0, .int .i64 0, .int .i64 0]) (t := 44) ?hr ?_; (case hd => rfl); (case hg => rfl); (case hr => first | (go_simp; done) | (go_simp; rfl))
     intro gb179 hg w12 hbox hb
     have BK179 := am_ (hbox)
     have GW179 := ga_ w hg
     have GE179 := ga_ w hg
     replace HB := bp_ hb
     clear hb hbox hg
     refine hK.out _ _ ⟨(ce_ HB hw176_0), (ce_ HB hw176_1), (ce_ HB hw176_2), (ce_ HB hw176_3), (ce_ HB hw177_0), (ce_ HB hw177_1), (ce_ HB hw177_2), (ce_ HB hw177_3)⟩ (fun hHeld => ?_)
     clear hK K
     refine norm_ (a' := ?_) ?_ ?_
     rotate_left
     · show Act.put _ (some 6) _ = _
       simp only [Act.put, List.setIfInBounds_toArray, List.set_cons_zero, List.set_cons_succ, i64_w, i32_w]
       rfl
     refine one_ (i := 9) (N := some 5) (bv 13 2047) rfl rfl (one_of HT_.out (by kernel_rfl)) (by decide) (fun K hK => ?_)
     refine box_step ?hg (N := 5) ?hd (cs := #[.int .i64 0, .int .i64 0, .int .i64 0, .int .i64 0]) (t := 44) ?hr ?_; (case hd => rfl); (case hg => rfl); (case hr => first | (go_simp; done) | (go_simp; rfl))
     intro gb178 hg w13 hbox hb
     have BK178 := am_ (hbox)
     have GW178 := ga_ w hg
     have GE178 := ga_ w hg
     have NB179_178 := am_ ((nl_ hg BK179 : gb179 ≠ gb178))
     have NB178_179 := am_ ((ng_ hg BK179 : gb178 ≠ gb179))
     replace BK179 := bb_ BK179 hb
     replace HB := bp_ hb
     clear hb hbox hg
     refine hK.out _ _ ⟨(ce_ HB hw176_0), (ce_ HB hw176_1), (ce_ HB hw176_2), (ce_ HB hw176_3), (ce_ HB hw177_0), (ce_ HB hw177_1), (ce_ HB hw177_2), (ce_ HB hw177_3)⟩ (fun hHeld => ?_)
     clear hK K
     refine norm_ (a' := ?_) ?_ ?_
     rotate_left
     · show Act.put _ (some 5) _ = _
       simp only [Act.put, List.setIfInBounds_toArray, List.set_cons_zero, List.set_cons_succ, i64_w, i32_w]
       rfl
     exact norm_ (by simp only [putAll, Act.put, List.setIfInBounds_toArray, List.set_cons_zero, List.set_cons_succ]) (hCont (gb178, gb179) _ ⟨hHeld, (bk_ BK178), (bk_ BK179), GW178.out, GE178.out, NB179_178.out, NB178_179.out, GW179.out, GE179.out, bl_⟩)
   rintro ⟨gb178, gb179⟩ w14 ⟨hS_, h0_, h1_, h2_, h3_, h4_, h5_, h6_, h7_, h8_⟩
   have n0_ : Aside0 (w14.heap[gb178]? = some (.cells #[.int .i64 0, .int .i64 0, .int .i64 0, .int .i64 0] 44 (0, 0))) := ⟨h0_⟩
   have n1_ : Aside0 (w14.heap[gb179]? = some (.cells #[.int .i64 0, .int .i64 0, .int .i64 0, .int .i64 0] 44 (0, 0))) := ⟨h1_⟩
   have n2_ : Aside0 (w.heap.size ≤ gb178) := ⟨h2_⟩
   have n3_ : Aside0 (w.heap.size ≤ gb178) := ⟨h3_⟩
   have n4_ : Aside0 (gb179 ≠ gb178) := ⟨h4_⟩
   have n5_ : Aside0 (gb178 ≠ gb179) := ⟨h5_⟩
   have n6_ : Aside0 (w.heap.size ≤ gb179) := ⟨h6_⟩
   have n7_ : Aside0 (w.heap.size ≤ gb179) := ⟨h7_⟩
   have n8_ : Aside0 (Below w.heap.size w w14) := ⟨h8_⟩
   clear HB
   clear h0_ h1_ h2_ h3_ h4_ h5_ h6_ h7_ h8_
   have BK178 := n0_
   have BK179 := n1_
   have GW178 := n2_
   have GE178 := n3_
   have NB179_178 := n4_
   have NB178_179 := n5_
   have GW179 := n6_
   have GE179 := n7_
   have HB := n8_
   clear n0_ n1_ n2_ n3_ n4_ n5_ n6_ n7_ n8_
   have hHeld : w14.cell? (ad176.add (j * 4)) = some (.int .i64 (x.f0)) ∧ w14.cell? ⟨(ad176.add (j * 4)).block, (ad176.add (j * 4)).off + 1, none⟩ = some (.int .i64 (x.f1)) ∧ w14.cell? ⟨(ad176.add (j * 4)).block, (ad176.add (j * 4)).off + 2, none⟩ = some (.int .i64 (x.f2)) ∧ w14.cell? ⟨(ad176.add (j * 4)).block, (ad176.add (j * 4)).off + 3, none⟩ = some (.int .i64 (x.f3)) ∧ w14.cell? (ad176.add (i * 4)) = some (.int .i64 (y.f0)) ∧ w14.cell? ⟨(ad176.add (i * 4)).block, (ad176.add (i * 4)).off + 1, none⟩ = some (.int .i64 (y.f1)) ∧ w14.cell? ⟨(ad176.add (i * 4)).block, (ad176.add (i * 4)).off + 2, none⟩ = some (.int .i64 (y.f2)) ∧ w14.cell? ⟨(ad176.add (i * 4)).block, (ad176.add (i * 4)).off + 3, none⟩ = some (.int .i64 (y.f3)) := hS_
   refine norm_ (a' := ?_) ?_ ?_
   rotate_left
   · simp only [putAll, Act.put, List.setIfInBounds_toArray, List.set_cons_zero, List.set_cons_succ]
     rfl
   refine one_ (i := 11) (N := none) (bv 13 4095) rfl rfl (one_of HT_.out (by kernel_rfl)) (by decide) (fun K hK => ?_)
   have hs15 : w14.cell? ⟨gb178, 0, none⟩ = some (.int .i64 0) := (blk_cell BK178.out 0).trans rfl
   have hfs15 := blk_frozen BK178.out 0
   have hns15_1 := NB179_178.out
   have hms15_1 := NB178_179.out
   have hs16 : w14.cell? ⟨gb178, 1, none⟩ = some (.int .i64 0) := (blk_cell BK178.out 1).trans rfl
   have hfs16 := blk_frozen BK178.out 1
   have hns16_1 := NB179_178.out
   have hms16_1 := NB178_179.out
   have hs17 : w14.cell? ⟨gb178, 2, none⟩ = some (.int .i64 0) := (blk_cell BK178.out 2).trans rfl
   have hfs17 := blk_frozen BK178.out 2
   have hns17_1 := NB179_178.out
   have hms17_1 := NB178_179.out
   have hs18 : w14.cell? ⟨gb178, 3, none⟩ = some (.int .i64 0) := (blk_cell BK178.out 3).trans rfl
   have hfs18 := blk_frozen BK178.out 3
   have hns18_1 := NB179_178.out
   have hms18_1 := NB178_179.out
   refine skip_ (w1 := ?_) (by rfl) rfl ?_ ?_
   rotate_left
   · go_simp
     rfl
   refine hK.out _ _ ⟨((cell_far (p := ⟨gb178, _, none⟩) (fb_ hw176_0 GW178) _).trans (((cell_far (p := ⟨gb178, _, none⟩) (fb_ hw176_0 GW178) _).trans (((cell_far (p := ⟨gb178, _, none⟩) (fb_ hw176_0 GW178) _).trans (((cell_far (p := ⟨gb178, _, none⟩) (fb_ hw176_0 GW178) _).trans (hHeld.1)))))))), ((cell_far (p := ⟨gb178, _, none⟩) (fb_ hw176_1 GW178) _).trans (((cell_far (p := ⟨gb178, _, none⟩) (fb_ hw176_1 GW178) _).trans (((cell_far (p := ⟨gb178, _, none⟩) (fb_ hw176_1 GW178) _).trans (((cell_far (p := ⟨gb178, _, none⟩) (fb_ hw176_1 GW178) _).trans (hHeld.2.1)))))))), ((cell_far (p := ⟨gb178, _, none⟩) (fb_ hw176_2 GW178) _).trans (((cell_far (p := ⟨gb178, _, none⟩) (fb_ hw176_2 GW178) _).trans (((cell_far (p := ⟨gb178, _, none⟩) (fb_ hw176_2 GW178) _).trans (((cell_far (p := ⟨gb178, _, none⟩) (fb_ hw176_2 GW178) _).trans (hHeld.2.2.1)))))))), ((cell_far (p := ⟨gb178, _, none⟩) (fb_ hw176_3 GW178) _).trans (((cell_far (p := ⟨gb178, _, none⟩) (fb_ hw176_3 GW178) _).trans (((cell_far (p := ⟨gb178, _, none⟩) (fb_ hw176_3 GW178) _).trans (((cell_far (p := ⟨gb178, _, none⟩) (fb_ hw176_3 GW178) _).trans (hHeld.2.2.2.1)))))))), ((cell_far (p := ⟨gb178, _, none⟩) (fb_ hw177_0 GW178) _).trans (((cell_far (p := ⟨gb178, _, none⟩) (fb_ hw177_0 GW178) _).trans (((cell_far (p := ⟨gb178, _, none⟩) (fb_ hw177_0 GW178) _).trans (((cell_far (p := ⟨gb178, _, none⟩) (fb_ hw177_0 GW178) _).trans (hHeld.2.2.2.2.1)))))))), ((cell_far (p := ⟨gb178, _, none⟩) (fb_ hw177_1 GW178) _).trans (((cell_far (p := ⟨gb178, _, none⟩) (fb_ hw177_1 GW178) _).trans (((cell_far (p := ⟨gb178, _, none⟩) (fb_ hw177_1 GW178) _).trans (((cell_far (p := ⟨gb178, _, none⟩) (fb_ hw177_1 GW178) _).trans (hHeld.2.2.2.2.2.1)))))))), ((cell_far (p := ⟨gb178, _, none⟩) (fb_ hw177_2 GW178) _).trans (((cell_far (p := ⟨gb178, _, none⟩) (fb_ hw177_2 GW178) _).trans (((cell_far (p := ⟨gb178, _, none⟩) (fb_ hw177_2 GW178) _).trans (((cell_far (p := ⟨gb178, _, none⟩) (fb_ hw177_2 GW178) _).trans (hHeld.2.2.2.2.2.2.1)))))))), ((cell_far (p := ⟨gb178, _, none⟩) (fb_ hw177_3 GW178) _).trans (((cell_far (p := ⟨gb178, _, none⟩) (fb_ hw177_3 GW178) _).trans (((cell_far (p := ⟨gb178, _, none⟩) (fb_ hw177_3 GW178) _).trans (((cell_far (p := ⟨gb178, _, none⟩) (fb_ hw177_3 GW178) _).trans (hHeld.2.2.2.2.2.2.2))))))))⟩ (fun hHeld => ?_)
   clear hK K
   refine one_ (i := 12) (N := none) (bv 13 8191) rfl rfl (one_of HT_.out (by kernel_rfl)) (by decide) (fun K hK => ?_)
   have hs19 : w14.cell? ⟨gb179, 0, none⟩ = some (.int .i64 0) := (blk_cell BK179.out 0).trans rfl
   have hfs19 := blk_frozen BK179.out 0
   have hns19_0 := NB178_179.out
   have hms19_0 := NB179_178.out
   have hs20 : w14.cell? ⟨gb179, 1, none⟩ = some (.int .i64 0) := (blk_cell BK179.out 1).trans rfl
   have hfs20 := blk_frozen BK179.out 1
   have hns20_0 := NB178_179.out
   have hms20_0 := NB179_178.out
   have hs21 : w14.cell? ⟨gb179, 2, none⟩ = some (.int .i64 0) := (blk_cell BK179.out 2).trans rfl
   have hfs21 := blk_frozen BK179.out 2
   have hns21_0 := NB178_179.out
   have hms21_0 := NB179_178.out
   have hs22 : w14.cell? ⟨gb179, 3, none⟩ = some (.int .i64 0) := (blk_cell BK179.out 3).trans rfl
   have hfs22 := blk_frozen BK179.out 3
   have hns22_0 := NB178_179.out
   have hms22_0 := NB179_178.out
   refine skip_ (w1 := ?_) (by rfl) rfl ?_ ?_
   rotate_left
   · go_simp
     rfl
   refine hK.out _ _ ⟨((cell_far (p := ⟨gb179, _, none⟩) (fb_ hw176_0 GW179) _).trans (((cell_far (p := ⟨gb179, _, none⟩) (fb_ hw176_0 GW179) _).trans (((cell_far (p := ⟨gb179, _, none⟩) (fb_ hw176_0 GW179) _).trans (((cell_far (p := ⟨gb179, _, none⟩) (fb_ hw176_0 GW179) _).trans (hHeld.1)))))))), ((cell_far (p := ⟨gb179, _, none⟩) (fb_ hw176_1 GW179) _).trans (((cell_far (p := ⟨gb179, _, none⟩) (fb_ hw176_1 GW179) _).trans (((cell_far (p := ⟨gb179, _, none⟩) (fb_ hw176_1 GW179) _).trans (((cell_far (p := ⟨gb179, _, none⟩) (fb_ hw176_1 GW179) _).trans (hHeld.2.1)))))))), ((cell_far (p := ⟨gb179, _, none⟩) (fb_ hw176_2 GW179) _).trans (((cell_far (p := ⟨gb179, _, none⟩) (fb_ hw176_2 GW179) _).trans (((cell_far (p := ⟨gb179, _, none⟩) (fb_ hw176_2 GW179) _).trans (((cell_far (p := ⟨gb179, _, none⟩) (fb_ hw176_2 GW179) _).trans (hHeld.2.2.1)))))))), ((cell_far (p := ⟨gb179, _, none⟩) (fb_ hw176_3 GW179) _).trans (((cell_far (p := ⟨gb179, _, none⟩) (fb_ hw176_3 GW179) _).trans (((cell_far (p := ⟨gb179, _, none⟩) (fb_ hw176_3 GW179) _).trans (((cell_far (p := ⟨gb179, _, none⟩) (fb_ hw176_3 GW179) _).trans (hHeld.2.2.2.1)))))))), ((cell_far (p := ⟨gb179, _, none⟩) (fb_ hw177_0 GW179) _).trans (((cell_far (p := ⟨gb179, _, none⟩) (fb_ hw177_0 GW179) _).trans (((cell_far (p := ⟨gb179, _, none⟩) (fb_ hw177_0 GW179) _).trans (((cell_far (p := ⟨gb179, _, none⟩) (fb_ hw177_0 GW179) _).trans (hHeld.2.2.2.2.1)))))))), ((cell_far (p := ⟨gb179, _, none⟩) (fb_ hw177_1 GW179) _).trans (((cell_far (p := ⟨gb179, _, none⟩) (fb_ hw177_1 GW179) _).trans (((cell_far (p := ⟨gb179, _, none⟩) (fb_ hw177_1 GW179) _).trans (((cell_far (p := ⟨gb179, _, none⟩) (fb_ hw177_1 GW179) _).trans (hHeld.2.2.2.2.2.1)))))))), ((cell_far (p := ⟨gb179, _, none⟩) (fb_ hw177_2 GW179) _).trans (((cell_far (p := ⟨gb179, _, none⟩) (fb_ hw177_2 GW179) _).trans (((cell_far (p := ⟨gb179, _, none⟩) (fb_ hw177_2 GW179) _).trans (((cell_far (p := ⟨gb179, _, none⟩) (fb_ hw177_2 GW179) _).trans (hHeld.2.2.2.2.2.2.1)))))))), ((cell_far (p := ⟨gb179, _, none⟩) (fb_ hw177_3 GW179) _).trans (((cell_far (p := ⟨gb179, _, none⟩) (fb_ hw177_3 GW179) _).trans (((cell_far (p := ⟨gb179, _, none⟩) (fb_ hw177_3 GW179) _).trans (((cell_far (p := ⟨gb179, _, none⟩) (fb_ hw177_3 GW179) _).trans (hHeld.2.2.2.2.2.2.2))))))))⟩ (fun hHeld => ?_)
   clear hK K
   refine done_ (done_of HT_.out (by kernel_rfl)) ?_
   have hnb23 := NB179_178.out
   have hnc23 := NB178_179.out
   have bz24 := bc4_ BK179
   have bz25 := bc4_ BK178
   go_wp2
   go_meet
   exact ⟨gb178, gb179, rfl, rfl, ⟨by go_simp⟩, ⟨by go_simp⟩, ⟨by go_simp⟩, ⟨by go_simp⟩, ⟨bl_⟩⟩
  case rest =>
   obtain ⟨g5, g6, rfl, rfl, b5, b5', b6, b6', BC⟩ := hcut
   have b50 := b5.out
   have b51 := b5'.out
   have b60 := b6.out
   have b61 := b6'.out
   have hne : bH.bad x y = true → r = 8 := by
    intro hb
    have ho : ¬ bH.ord l0 = true := by
     intro ho
     have h1 := List.all_eq_true.1 ho j (List.mem_range.2 (by have := hj.out; omega))
     have hj' := hj.out
     subst hj'
     rw [hx.out, hy.out, hb] at h1
     cases h1
    have H' := H.out
    rw [if_neg ho] at H'
    exact (Option.some.inj H').symm
   by_cases cA : y.f1 < x.f1
   · have eA : decide (y.f1 < x.f1) = true := decide_eq_true cA
     obtain rfl := hne (by unfold bH.bad; rw [eA]; rfl)
     clear cA
     go_wp2
     go_ret
     exact ⟨rfl, BC.out⟩
   have eA : decide (y.f1 < x.f1) = false := decide_eq_false cA
   clear cA
   by_cases cB : y.f1 = x.f1
   · have eB : (y.f1 == x.f1) = true := beq_iff_eq.2 cB
     have eB' : decide (y.f1 = x.f1) = true := decide_eq_true cB
     clear cB
     by_cases cC : y.f0 ≤ x.f0
     · have eC : decide (y.f0 ≤ x.f0) = true := decide_eq_true cC
       obtain rfl := hne (by unfold bH.bad; rw [eA, eB', eC]; rfl)
       clear cC
       go_wp2
       go_ret
       exact ⟨rfl, BC.out⟩
     have eC : decide (y.f0 ≤ x.f0) = false := decide_eq_false cC
     clear cC
     go_wp2
     go_roundg (l0.length - i)
     case measure => omega
     case rel =>
      refine ⟨i + 1, by go_num, by omega, by omega, ⟨BC.out⟩, ⟨fun a h1 h2 => ?_⟩⟩
      rcases Nat.lt_or_ge (a + 1) i with h3 | h3
      · exact IV.out a h3 h2
      obtain rfl : a = j := by have := hj.out; omega
      have hj' := hj.out
      subst hj'
      rw [hx.out, hy.out]
      unfold bH.bad
      rw [eA, eB', eC]
      rfl
   have eB : (y.f1 == x.f1) = false := beq_eq_false_iff_ne.2 cB
   have eB' : decide (y.f1 = x.f1) = false := decide_eq_false cB
   clear cB
   go_wp2
   go_roundg (l0.length - i)
   case measure => omega
   case rel =>
    refine ⟨i + 1, by go_num, by omega, by omega, ⟨BC.out⟩, ⟨fun a h1 h2 => ?_⟩⟩
    rcases Nat.lt_or_ge (a + 1) i with h3 | h3
    · exact IV.out a h3 h2
    obtain rfl : a = j := by have := hj.out; omega
    have hj' := hj.out
    subst hj'
    rw [hx.out, hy.out]
    unfold bH.bad
    rw [eA, eB']
    rfl
end Go.Proofs.YthkeonbmgcphkaaGreatDoor.PM
