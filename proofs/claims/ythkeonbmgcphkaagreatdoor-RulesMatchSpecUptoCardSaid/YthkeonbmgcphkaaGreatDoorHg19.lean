import Derived.Test.YthkeonbmgcphkaaGreatDoorHg6
import Derived.Test.YthkeonbmgcphkaaGreatDoorHg18
namespace Go.Proofs.YthkeonbmgcphkaaGreatDoor.PM
open Go.RowKit Go.Proofs.YthkeonbmgcphkaaGreatDoorW.PrintWords Go.Proofs.YthkeonbmgcphkaaGreatDoorW.PrintLast Go.Proofs.YthkeonbmgcphkaaGreatDoorW.PrintMore
attribute [local go_sem] max2_int min2_int max_two min_two max_three min_three max_four min_four
set_option linter.unusedVariables false
set_option maxHeartbeats 8000000
set_option maxRecDepth 100000
set_option linter.unusedSimpArgs false
mutual
def aU.l0 : Nat → List (S66) → Int → Int → ByteArray → List ByteArray → Int → Int → Option (Int)
 | 0, _, _, _, _, _, _, _ => none
 | k + 1, x0, x1, x6, x214000, x214001, x214002, x214003 => if x6 < (x214001.length : Int) then (if 0 ≤ x6 then ((cZ.f k (rdOf ByteArray.empty x214001 x6)).bind fun t216 => (if t216 = true then (if x6 > 0 then (if 0 ≤ (wrap64 (x6 - 1)) then (if (wrap64 (x6 - 1)) < (x214001.length : Int) then (aU.j1 k x0 x1 x6 (!(Op.bytesLess ((rdOf ByteArray.empty x214001 (wrap64 (x6 - 1))).toList) ((rdOf ByteArray.empty x214001 x6).toList))) x214000 x214001 x214002 x214003) else (none)) else (none)) else (aU.j1 k x0 x1 x6 false x214000 x214001 x214002 x214003)) else (some 5))) else (none)) else ((aZ.f x214002).bind fun t222 => (if t222 = true then ((aZ.f x214003).bind fun t223 => (aU.j3 k x0 x1 (!t223) x214000 x214001 x214002 x214003)) else (aU.j3 k x0 x1 true x214000 x214001 x214002 x214003)))
def aU.j1 : Nat → List (S66) → Int → Int → Bool → ByteArray → List ByteArray → Int → Int → Option (Int)
 | 0, _, _, _, _, _, _, _, _ => none
 | k + 1, x0, x1, x6, x49, x214000, x214001, x214002, x214003 => if x49 = true then (some 8) else (aU.l1 k x0 x1 x6 0 x214000 x214001 x214002 x214003)
def aU.l1 : Nat → List (S66) → Int → Int → Int → ByteArray → List ByteArray → Int → Int → Option (Int)
 | 0, _, _, _, _, _, _, _, _ => none
 | k + 1, x0, x1, x6, x7, x214000, x214001, x214002, x214003 => if x7 < x1 then (if 0 ≤ x7 then (if x7 < (x0.length : Int) then (if 0 ≤ x6 then (if x6 < (x214001.length : Int) then ((dD.f k ((aT x0 x7).f1) (rdOf ByteArray.empty x214001 x6)).bind fun t221 => (if t221 = true then (some 7) else (aU.l1 k x0 x1 x6 (wrap64 (x7 + 1)) x214000 x214001 x214002 x214003))) else (none)) else (none)) else (none)) else (none)) else (aU.l0 k x0 x1 (wrap64 (x6 + 1)) x214000 x214001 x214002 x214003)
def aU.j3 : Nat → List (S66) → Int → Bool → ByteArray → List ByteArray → Int → Int → Option (Int)
 | 0, _, _, _, _, _, _, _ => none
 | k + 1, x0, x1, x75, x214000, x214001, x214002, x214003 => if x75 = true then (some 1) else (if x1 > 0 then (if 0 ≤ (wrap64 (x1 - 1)) then (if (wrap64 (x1 - 1)) < (x0.length : Int) then (if ((Op.bytesLess (((aT x0 (wrap64 (x1 - 1))).f0).toList) x214000.toList) = true) then (some 0) else (some 8)) else (none)) else (none)) else (some 0))
end
def aU.f (k : Nat) (l0 : List (S66)) (a1 : Int) : Option (Int) := if 0 ≤ a1 then (if a1 < (l0.length : Int) then ((aY.f k ((aT l0 a1).f0)).bind fun t214 => (if t214 = true then (if (((aT l0 a1).f1).length : Int) > 1000 then (some 2) else (aU.l0 k l0 a1 0 ((aT l0 a1).f0) ((aT l0 a1).f1) ((aT l0 a1).f2) ((aT l0 a1).f3))) else (some 5))) else (none)) else (none)
theorem aU.calls (k : Nat) (A0 : Option Addr) (c0 : Nat) (l0 : List (S66)) (a1 : Int) (r : Int) (w : World) (hG : Tryz.GW w) (hr0 : Kd.C k66 w A0 l0.length l0) (hc0 : l0.length ≤ c0) (h : aU.f k l0 a1 = some r) :
 Calls Tryz.prog 39 #[.slice A0 l0.length c0, .int .i64 a1] w fun e w' => e = .returned (.int .i64 r) ∧ Below w.heap.size w w' := by
 have hu66 := Tryz.underlying66
 have HR0 := am_ hr0
 have HC0 := am_ hc0
 clear hr0 hc0
 have HG := am_ hG
 clear hG
 have HB := am_ (Below.refl w.heap.size w)
 have H : (if 0 ≤ a1 then (if a1 < (l0.length : Int) then ((aY.f k ((aT l0 a1).f0)).bind fun t214 => (if t214 = true then (if (((aT l0 a1).f1).length : Int) > 1000 then (some 2) else (aU.l0 k l0 a1 0 ((aT l0 a1).f0) ((aT l0 a1).f1) ((aT l0 a1).f2) ((aT l0 a1).f3))) else (some 5))) else (none)) else (none)) = some r := h
 clear h
 obtain ⟨c3b0, H⟩ := ifd_ H
 obtain ⟨c4b0, H⟩ := ifd_ H
 obtain ⟨t214, A5, H⟩ := bs_ H
 by_cases c6 : t214 = true
 rotate_left
 · obtain rfl := bf_ c6
   clear c6
   rw [if_neg ft_] at H
   obtain rfl := sj_ H
   have p212 := pt_ a1
   have q212 := qt_ a1 l0.length
   obtain ⟨ad212, A212_1, c212_1, e212, hx212_0, hx212_1, hx212_2, hx212_3, hl212_1, hi212_1⟩ := iI HR0.out a1 (oe_ p212) (oe_ q212)
   cases e212
   have HR212_1 := am_ hi212_1
   have HC212_1 := am_ hl212_1
   clear hi212_1 hl212_1
   go_enter Tryz.func39, Tryz.ntmps39
   go_wp2_with (first | ((with_reducible refine gn_ 5 rfl ?_); refine bq_ (N := 5) (cs := #[.string (⟨#[]⟩ : ByteArray), .slice none 0 0, .int .i64 0, .int .i64 0]) (t := 66) ?_; intro gb213 hg w51 BK213 hb; have GW213 := ga_ w hg; have GE213 := GW213; replace HB := bp_ hb; clear hb hg; have bz52 := bc4_ BK213) | (go_at_call 70; refine (aY.calls k ((aT l0 a1).f0) false _ (gw_ HG.out) A5.out).mono ?_; rintro e w' ⟨rfl, ⟨nd, rfl⟩⟩; (try first | exact ⟨rfl, _, World.drewN_drewN _ _ _⟩ | exact ⟨rfl, _, Eq.trans (World.drewN_drewN _ _ _) (congrArg (World.drewN _) (Nat.add_assoc _ _ _))⟩)))
   repeat (go_quiet (first | ((with_reducible refine gn_ 5 rfl ?_); refine bq_ (N := 5) (cs := #[.string (⟨#[]⟩ : ByteArray), .slice none 0 0, .int .i64 0, .int .i64 0]) (t := 66) ?_; intro gb213 hg w51 BK213 hb; have GW213 := ga_ w hg; have GE213 := GW213; replace HB := bp_ hb; clear hb hg; have bz52 := bc4_ BK213) | (go_at_call 70; refine (aY.calls k ((aT l0 a1).f0) false _ (gw_ HG.out) A5.out).mono ?_; rintro e w' ⟨rfl, ⟨nd, rfl⟩⟩; (try first | exact ⟨rfl, _, World.drewN_drewN _ _ _⟩ | exact ⟨rfl, _, Eq.trans (World.drewN_drewN _ _ _) (congrArg (World.drewN _) (Nat.add_assoc _ _ _))⟩))); try go_wp2_with (first | ((with_reducible refine gn_ 5 rfl ?_); refine box_event ?hg (N := 5) ?hd (cs := #[.string (⟨#[]⟩ : ByteArray), .slice none 0 0, .int .i64 0, .int .i64 0]) (t := 66) ?hr ?_; (case hd => rfl); (case hg => rfl); (case hr => first | (go_simp; done) | (go_simp; rfl)); intro gb213 hg w51 hbox hb; have n0_ := am_ (below_step bl_ hb); have n1_ := am_ (hbox); have n2_ := am_ ((gs_ hg : w.heap.size ≤ gb213)); have n3_ := am_ ((gs_ hg : w.heap.size ≤ gb213)); clear HB; have HB := n0_; have BK213 := n1_; have GW213 := n2_; have GE213 := n3_; clear n0_ n1_ n2_ n3_; clear hb hbox hg; have hcz52_0 : w51.cell? ⟨gb213, 0, none⟩ = some (.string (⟨#[]⟩ : ByteArray)) := (blk_cell BK213.out 0).trans rfl; have hcz52_1 : w51.cell? ⟨gb213, 1, none⟩ = some (.slice none 0 0) := (blk_cell BK213.out 1).trans rfl; have hcz52_2 : w51.cell? ⟨gb213, 2, none⟩ = some (.int .i64 0) := (blk_cell BK213.out 2).trans rfl; have hcz52_3 : w51.cell? ⟨gb213, 3, none⟩ = some (.int .i64 0) := (blk_cell BK213.out 3).trans rfl; have hfz52_0 := blk_frozen BK213.out 0; have hfz52_1 := blk_frozen BK213.out 1; have hfz52_2 := blk_frozen BK213.out 2; have hfz52_3 := blk_frozen BK213.out 3) | (go_at_call 70; refine (aY.calls k ((aT l0 a1).f0) false _ (gw_ HG.out) A5.out).mono ?_; rintro e w' ⟨rfl, ⟨nd, rfl⟩⟩; (try first | exact ⟨rfl, _, World.drewN_drewN _ _ _⟩ | exact ⟨rfl, _, Eq.trans (World.drewN_drewN _ _ _) (congrArg (World.drewN _) (Nat.add_assoc _ _ _))⟩))))
   go_ret
   exact ⟨er_, bl_⟩
 subst c6
 rw [if_pos rfl] at H
 by_cases c7 : (((aT l0 a1).f1).length : Int) > 1000
 · rw [if_pos c7] at H
   have c7b0 : decide (1000 < (((aT l0 a1).f1).length : Int)) = true := decide_eq_true c7
   have c7b1 : decide (1000 < ((aT l0 a1).f1).length) = true := decide_eq_true (by omega)
   clear c7
   obtain rfl := sj_ H
   have p212 := pt_ a1
   have q212 := qt_ a1 l0.length
   obtain ⟨ad212, A212_1, c212_1, e212, hx212_0, hx212_1, hx212_2, hx212_3, hl212_1, hi212_1⟩ := iI HR0.out a1 (oe_ p212) (oe_ q212)
   cases e212
   have HR212_1 := am_ hi212_1
   have HC212_1 := am_ hl212_1
   clear hi212_1 hl212_1
   go_enter Tryz.func39, Tryz.ntmps39
   go_wp2_with (first | ((with_reducible refine gn_ 5 rfl ?_); refine bq_ (N := 5) (cs := #[.string (⟨#[]⟩ : ByteArray), .slice none 0 0, .int .i64 0, .int .i64 0]) (t := 66) ?_; intro gb213 hg w8 BK213 hb; have GW213 := ga_ w hg; have GE213 := GW213; replace HB := bp_ hb; clear hb hg; have bz9 := bc4_ BK213) | (go_at_call 70; refine (aY.calls k ((aT l0 a1).f0) true _ (gw_ HG.out) A5.out).mono ?_; rintro e w' ⟨rfl, ⟨nd, rfl⟩⟩; (try first | exact ⟨rfl, _, World.drewN_drewN _ _ _⟩ | exact ⟨rfl, _, Eq.trans (World.drewN_drewN _ _ _) (congrArg (World.drewN _) (Nat.add_assoc _ _ _))⟩)))
   repeat (go_quiet (first | ((with_reducible refine gn_ 5 rfl ?_); refine bq_ (N := 5) (cs := #[.string (⟨#[]⟩ : ByteArray), .slice none 0 0, .int .i64 0, .int .i64 0]) (t := 66) ?_; intro gb213 hg w8 BK213 hb; have GW213 := ga_ w hg; have GE213 := GW213; replace HB := bp_ hb; clear hb hg; have bz9 := bc4_ BK213) | (go_at_call 70; refine (aY.calls k ((aT l0 a1).f0) true _ (gw_ HG.out) A5.out).mono ?_; rintro e w' ⟨rfl, ⟨nd, rfl⟩⟩; (try first | exact ⟨rfl, _, World.drewN_drewN _ _ _⟩ | exact ⟨rfl, _, Eq.trans (World.drewN_drewN _ _ _) (congrArg (World.drewN _) (Nat.add_assoc _ _ _))⟩))); try go_wp2_with (first | ((with_reducible refine gn_ 5 rfl ?_); refine box_event ?hg (N := 5) ?hd (cs := #[.string (⟨#[]⟩ : ByteArray), .slice none 0 0, .int .i64 0, .int .i64 0]) (t := 66) ?hr ?_; (case hd => rfl); (case hg => rfl); (case hr => first | (go_simp; done) | (go_simp; rfl)); intro gb213 hg w8 hbox hb; have n0_ := am_ (below_step bl_ hb); have n1_ := am_ (hbox); have n2_ := am_ ((gs_ hg : w.heap.size ≤ gb213)); have n3_ := am_ ((gs_ hg : w.heap.size ≤ gb213)); clear HB; have HB := n0_; have BK213 := n1_; have GW213 := n2_; have GE213 := n3_; clear n0_ n1_ n2_ n3_; clear hb hbox hg; have hcz9_0 : w8.cell? ⟨gb213, 0, none⟩ = some (.string (⟨#[]⟩ : ByteArray)) := (blk_cell BK213.out 0).trans rfl; have hcz9_1 : w8.cell? ⟨gb213, 1, none⟩ = some (.slice none 0 0) := (blk_cell BK213.out 1).trans rfl; have hcz9_2 : w8.cell? ⟨gb213, 2, none⟩ = some (.int .i64 0) := (blk_cell BK213.out 2).trans rfl; have hcz9_3 : w8.cell? ⟨gb213, 3, none⟩ = some (.int .i64 0) := (blk_cell BK213.out 3).trans rfl; have hfz9_0 := blk_frozen BK213.out 0; have hfz9_1 := blk_frozen BK213.out 1; have hfz9_2 := blk_frozen BK213.out 2; have hfz9_3 := blk_frozen BK213.out 3) | (go_at_call 70; refine (aY.calls k ((aT l0 a1).f0) true _ (gw_ HG.out) A5.out).mono ?_; rintro e w' ⟨rfl, ⟨nd, rfl⟩⟩; (try first | exact ⟨rfl, _, World.drewN_drewN _ _ _⟩ | exact ⟨rfl, _, Eq.trans (World.drewN_drewN _ _ _) (congrArg (World.drewN _) (Nat.add_assoc _ _ _))⟩))))
   go_ret
   exact ⟨er_, bl_⟩
 rw [if_neg c7] at H
 have c7b0 : decide (1000 < (((aT l0 a1).f1).length : Int)) = false := decide_eq_false c7
 have c7b1 : decide (1000 < ((aT l0 a1).f1).length) = false := decide_eq_false (by omega)
 clear c7
 replace H := am_ H
 have p212 := pt_ a1
 have q212 := qt_ a1 l0.length
 obtain ⟨ad212, A212_1, c212_1, e212, hx212_0, hx212_1, hx212_2, hx212_3, hl212_1, hi212_1⟩ := iI HR0.out a1 (oe_ p212) (oe_ q212)
 cases e212
 have HR212_1 := am_ hi212_1
 have HC212_1 := am_ hl212_1
 clear hi212_1 hl212_1
 go_enter Tryz.func39, Tryz.ntmps39
 go_wp2_with (first | ((with_reducible refine gn_ 5 rfl ?_); refine bq_ (N := 5) (cs := #[.string (⟨#[]⟩ : ByteArray), .slice none 0 0, .int .i64 0, .int .i64 0]) (t := 66) ?_; intro gb213 hg w10 BK213 hb; have GW213 := ga_ w hg; have GE213 := GW213; replace HB := bp_ hb; clear hb hg; have bz11 := bc4_ BK213) | (go_at_call 70; refine (aY.calls k ((aT l0 a1).f0) true _ (gw_ HG.out) A5.out).mono ?_; rintro e w' ⟨rfl, ⟨nd, rfl⟩⟩; (try first | exact ⟨rfl, _, World.drewN_drewN _ _ _⟩ | exact ⟨rfl, _, Eq.trans (World.drewN_drewN _ _ _) (congrArg (World.drewN _) (Nat.add_assoc _ _ _))⟩)))
 repeat (go_quiet (first | ((with_reducible refine gn_ 5 rfl ?_); refine bq_ (N := 5) (cs := #[.string (⟨#[]⟩ : ByteArray), .slice none 0 0, .int .i64 0, .int .i64 0]) (t := 66) ?_; intro gb213 hg w10 BK213 hb; have GW213 := ga_ w hg; have GE213 := GW213; replace HB := bp_ hb; clear hb hg; have bz11 := bc4_ BK213) | (go_at_call 70; refine (aY.calls k ((aT l0 a1).f0) true _ (gw_ HG.out) A5.out).mono ?_; rintro e w' ⟨rfl, ⟨nd, rfl⟩⟩; (try first | exact ⟨rfl, _, World.drewN_drewN _ _ _⟩ | exact ⟨rfl, _, Eq.trans (World.drewN_drewN _ _ _) (congrArg (World.drewN _) (Nat.add_assoc _ _ _))⟩))); try go_wp2_with (first | ((with_reducible refine gn_ 5 rfl ?_); refine box_event ?hg (N := 5) ?hd (cs := #[.string (⟨#[]⟩ : ByteArray), .slice none 0 0, .int .i64 0, .int .i64 0]) (t := 66) ?hr ?_; (case hd => rfl); (case hg => rfl); (case hr => first | (go_simp; done) | (go_simp; rfl)); intro gb213 hg w10 hbox hb; have n0_ := am_ (below_step bl_ hb); have n1_ := am_ (hbox); have n2_ := am_ ((gs_ hg : w.heap.size ≤ gb213)); have n3_ := am_ ((gs_ hg : w.heap.size ≤ gb213)); clear HB; have HB := n0_; have BK213 := n1_; have GW213 := n2_; have GE213 := n3_; clear n0_ n1_ n2_ n3_; clear hb hbox hg; have hcz11_0 : w10.cell? ⟨gb213, 0, none⟩ = some (.string (⟨#[]⟩ : ByteArray)) := (blk_cell BK213.out 0).trans rfl; have hcz11_1 : w10.cell? ⟨gb213, 1, none⟩ = some (.slice none 0 0) := (blk_cell BK213.out 1).trans rfl; have hcz11_2 : w10.cell? ⟨gb213, 2, none⟩ = some (.int .i64 0) := (blk_cell BK213.out 2).trans rfl; have hcz11_3 : w10.cell? ⟨gb213, 3, none⟩ = some (.int .i64 0) := (blk_cell BK213.out 3).trans rfl; have hfz11_0 := blk_frozen BK213.out 0; have hfz11_1 := blk_frozen BK213.out 1; have hfz11_2 := blk_frozen BK213.out 2; have hfz11_3 := blk_frozen BK213.out 3) | (go_at_call 70; refine (aY.calls k ((aT l0 a1).f0) true _ (gw_ HG.out) A5.out).mono ?_; rintro e w' ⟨rfl, ⟨nd, rfl⟩⟩; (try first | exact ⟨rfl, _, World.drewN_drewN _ _ _⟩ | exact ⟨rfl, _, Eq.trans (World.drewN_drewN _ _ _) (congrArg (World.drewN _) (Nat.add_assoc _ _ _))⟩))))
 go_loopg [6] k (fun kq v6 w' => ∃ (x6_1 : Int), v6 = .int .i64 x6_1 ∧ Aside0 (aU.l0 kq l0 a1 x6_1 ((aT l0 a1).f0) ((aT l0 a1).f1) ((aT l0 a1).f2) ((aT l0 a1).f3) = some r) ∧ Aside0 (kq ≤ k) ∧ Aside0 (w'.heap[gb213]? = some (.cells #[.string ((aT l0 a1).f0), (.slice A212_1 ((aT l0 a1).f1).length c212_1), .int .i64 ((aT l0 a1).f2), .int .i64 ((aT l0 a1).f3)] 66 (0, 0))) ∧ Aside0 (Below w.heap.size w w'))
 case atStart => exact ⟨(0), (by first | rfl | exact congrArg Value.bool (fV _ _) | (simp; done) | (simp [*]; done)), H, ⟨Nat.le_refl _⟩, ⟨by (with_reducible repeat (first | refine blk_drewN ?_ _ | refine blk_drew ?_ | refine blk_alloc ?_ _)); refine blk_put (cs := #[.string ((aT l0 a1).f0), .slice A212_1 ((aT l0 a1).f1).length c212_1, .int .i64 ((aT l0 a1).f2), .int .i64 0]) ?_ 3 _ rfl; (with_reducible repeat (first | refine blk_drewN ?_ _ | refine blk_drew ?_ | refine blk_alloc ?_ _)); refine blk_put (cs := #[.string ((aT l0 a1).f0), .slice A212_1 ((aT l0 a1).f1).length c212_1, .int .i64 0, .int .i64 0]) ?_ 2 _ rfl; (with_reducible repeat (first | refine blk_drewN ?_ _ | refine blk_drew ?_ | refine blk_alloc ?_ _)); refine blk_put (cs := #[.string ((aT l0 a1).f0), .slice none 0 0, .int .i64 0, .int .i64 0]) ?_ 1 _ rfl; (with_reducible repeat (first | refine blk_drewN ?_ _ | refine blk_drew ?_ | refine blk_alloc ?_ _)); refine blk_put (cs := #[.string (⟨#[]⟩ : ByteArray), .slice none 0 0, .int .i64 0, .int .i64 0]) ?_ 0 _ rfl; (with_reducible repeat (first | refine blk_drewN ?_ _ | refine blk_drew ?_ | refine blk_alloc ?_ _)); exact BK213.out⟩, ⟨bl_⟩⟩
 case round =>
  clear H
  try clear c2
  try clear p2
  try clear q2
  try clear hx2
  try clear c3
  try clear c3b0
  try clear c4
  try clear c4b0
  try clear c6
  try clear c7
  try clear c7b0
  try clear c7b1
  try clear bz11
  try clear bz9
  try clear hx212_0
  try clear hx212_1
  try clear hx212_2
  try clear hx212_3
  try clear p212
  try clear q212
  obtain ⟨x6_1, rfl, HA, HK1, BK213, HB⟩ := hrel
  cases gk with
  | zero => exact absurd HA.out (by simp [aU.l0])
  | succ k1 =>
   have H := HA.out
   clear HA
   simp only [aU.l0] at H
   by_cases c12 : x6_1 < (((aT l0 a1).f1).length : Int)
   rotate_left
   · rw [if_neg c12] at H
     have c12b0 := decide_eq_false c12
     clear c12
     have HC36 := am_ H
     clear H
     have bz37 := bc4_ BK213
     go_upto_region 18 with (fail)
     repeat (go_quiet (fail); go_upto_region 18 with (fail))
     go_cut [75] (fun v75 wc => ∃ (kq : Nat) (x75_35 : Bool), v75 = .bool x75_35 ∧ Aside0 (aU.j3 kq l0 a1 x75_35 ((aT l0 a1).f0) ((aT l0 a1).f1) ((aT l0 a1).f2) ((aT l0 a1).f3) = some r) ∧ Aside0 (kq ≤ k1) ∧ Aside0 (wc.heap[gb213]? = some (.cells #[.string ((aT l0 a1).f0), (.slice A212_1 ((aT l0 a1).f1).length c212_1), .int .i64 ((aT l0 a1).f2), .int .i64 ((aT l0 a1).f3)] 66 (0, 0))) ∧ Aside0 (Below w.heap.size w wc))
     case first =>
      have H := HC36.out
      clear HC36
      obtain ⟨t222, A38, H⟩ := bs_ H
      by_cases c39 : t222 = true
      · subst c39
        rw [if_pos rfl] at H
        obtain ⟨t223, A40, H⟩ := bs_ H
        replace H := am_ H
        have bz41 := bc4_ BK213
        go_wp2_with (first | (go_at_call 38; refine (aZ.calls ((aT l0 a1).f2) true _ (gw_ HG.out) A38.out).mono ?_; rintro e w' ⟨rfl, ⟨nd, rfl⟩⟩; (try first | exact ⟨rfl, _, World.drewN_drewN _ _ _⟩ | exact ⟨rfl, _, Eq.trans (World.drewN_drewN _ _ _) (congrArg (World.drewN _) (Nat.add_assoc _ _ _))⟩)) | (go_at_call 38; refine (aZ.calls ((aT l0 a1).f3) t223 _ (gw_ HG.out) A40.out).mono ?_; rintro e w' ⟨rfl, ⟨nd, rfl⟩⟩; (try first | exact ⟨rfl, _, World.drewN_drewN _ _ _⟩ | exact ⟨rfl, _, Eq.trans (World.drewN_drewN _ _ _) (congrArg (World.drewN _) (Nat.add_assoc _ _ _))⟩)))
        repeat (go_quiet (first | (go_at_call 38; refine (aZ.calls ((aT l0 a1).f2) true _ (gw_ HG.out) A38.out).mono ?_; rintro e w' ⟨rfl, ⟨nd, rfl⟩⟩; (try first | exact ⟨rfl, _, World.drewN_drewN _ _ _⟩ | exact ⟨rfl, _, Eq.trans (World.drewN_drewN _ _ _) (congrArg (World.drewN _) (Nat.add_assoc _ _ _))⟩)) | (go_at_call 38; refine (aZ.calls ((aT l0 a1).f3) t223 _ (gw_ HG.out) A40.out).mono ?_; rintro e w' ⟨rfl, ⟨nd, rfl⟩⟩; (try first | exact ⟨rfl, _, World.drewN_drewN _ _ _⟩ | exact ⟨rfl, _, Eq.trans (World.drewN_drewN _ _ _) (congrArg (World.drewN _) (Nat.add_assoc _ _ _))⟩))); try go_wp2_with (first | (go_at_call 38; refine (aZ.calls ((aT l0 a1).f2) true _ (gw_ HG.out) A38.out).mono ?_; rintro e w' ⟨rfl, ⟨nd, rfl⟩⟩; (try first | exact ⟨rfl, _, World.drewN_drewN _ _ _⟩ | exact ⟨rfl, _, Eq.trans (World.drewN_drewN _ _ _) (congrArg (World.drewN _) (Nat.add_assoc _ _ _))⟩)) | (go_at_call 38; refine (aZ.calls ((aT l0 a1).f3) t223 _ (gw_ HG.out) A40.out).mono ?_; rintro e w' ⟨rfl, ⟨nd, rfl⟩⟩; (try first | exact ⟨rfl, _, World.drewN_drewN _ _ _⟩ | exact ⟨rfl, _, Eq.trans (World.drewN_drewN _ _ _) (congrArg (World.drewN _) (Nat.add_assoc _ _ _))⟩))))
        go_meet
        case rel => exact ⟨_, (!t223), (by first | rfl | exact congrArg Value.bool (fV _ _) | (simp; done) | (simp [*]; done)), H, ⟨by have := HK1.out; first | omega | exact Nat.le_refl _⟩, ⟨bk_ BK213⟩, ⟨bl_⟩⟩
      obtain rfl := bf_ c39
      clear c39
      rw [if_neg ft_] at H
      replace H := am_ H
      have bz42 := bc4_ BK213
      go_wp2_with (first | (go_at_call 38; refine (aZ.calls ((aT l0 a1).f2) false _ (gw_ HG.out) A38.out).mono ?_; rintro e w' ⟨rfl, ⟨nd, rfl⟩⟩; (try first | exact ⟨rfl, _, World.drewN_drewN _ _ _⟩ | exact ⟨rfl, _, Eq.trans (World.drewN_drewN _ _ _) (congrArg (World.drewN _) (Nat.add_assoc _ _ _))⟩)))
      repeat (go_quiet (first | (go_at_call 38; refine (aZ.calls ((aT l0 a1).f2) false _ (gw_ HG.out) A38.out).mono ?_; rintro e w' ⟨rfl, ⟨nd, rfl⟩⟩; (try first | exact ⟨rfl, _, World.drewN_drewN _ _ _⟩ | exact ⟨rfl, _, Eq.trans (World.drewN_drewN _ _ _) (congrArg (World.drewN _) (Nat.add_assoc _ _ _))⟩))); try go_wp2_with (first | (go_at_call 38; refine (aZ.calls ((aT l0 a1).f2) false _ (gw_ HG.out) A38.out).mono ?_; rintro e w' ⟨rfl, ⟨nd, rfl⟩⟩; (try first | exact ⟨rfl, _, World.drewN_drewN _ _ _⟩ | exact ⟨rfl, _, Eq.trans (World.drewN_drewN _ _ _) (congrArg (World.drewN _) (Nat.add_assoc _ _ _))⟩))))
      go_meet
      case rel => exact ⟨_, (true), (by first | rfl | exact congrArg Value.bool (fV _ _) | (simp; done) | (simp [*]; done)), H, ⟨by have := HK1.out; first | omega | exact Nat.le_refl _⟩, ⟨bk_ BK213⟩, ⟨bl_⟩⟩
     case rest =>
      clear HC36
      try clear c1
      try clear c2
      try clear p2
      try clear q2
      try clear hx2
      try clear c3
      try clear c3b0
      try clear c4
      try clear c4b0
      try clear c6
      try clear p6
      try clear c7
      try clear c7b0
      try clear c7b1
      try clear c12
      try clear c12b0
      try clear c13
      try clear c13b0
      try clear c15
      try clear c19
      try clear c19b0
      try clear c21
      try clear c21b0
      try clear p21
      try clear q21
      try clear hx21
      try clear c22
      try clear c22b0
      try clear p22
      try clear q22
      try clear hx22
      try clear c24
      try clear c25
      try clear c25b0
      try clear c26
      try clear c26b0
      try clear c27
      try clear c27b0
      try clear c28
      try clear c28b0
      try clear c29
      try clear c29b0
      try clear c31
      try clear c39
      try clear bz11
      try clear bz17
      try clear bz23
      try clear bz32
      try clear bz33
      try clear bz34
      try clear bz37
      try clear bz41
      try clear bz42
      try clear bz9
      try clear hx212_0
      try clear hx212_1
      try clear hx212_2
      try clear hx212_3
      try clear hx215_0
      try clear hx217_0
      try clear hx218_0
      try clear hx219_0
      try clear hx219_1
      try clear hx219_2
      try clear hx219_3
      try clear hx220_0
      try clear p2
      try clear p21
      try clear p212
      try clear p215
      try clear p217
      try clear p218
      try clear p219
      try clear p220
      try clear p6
      try clear q2
      try clear q21
      try clear q212
      try clear q215
      try clear q217
      try clear q218
      try clear q219
      try clear q220
      obtain ⟨kq, x75_35, rfl, HA, HJ35, BK213, HB⟩ := hcut
      cases kq with
      | zero => exact absurd HA.out (by simp [aU.j3])
      | succ kj35 =>
       have H := HA.out
       clear HA
       simp only [aU.j3] at H
       by_cases c43 : x75_35 = true
       · subst c43
         rw [if_pos rfl] at H
         obtain rfl := sj_ H
         go_wp2
         repeat (go_quiet (fail); try go_wp2)
         go_ret
         exact ⟨er_, bl_⟩
       obtain rfl := bf_ c43
       clear c43
       rw [if_neg ft_] at H
       by_cases c44 : a1 > 0
       rotate_left
       · rw [if_neg c44] at H
         have c44b0 : decide (0 < a1) = false := decide_eq_false c44
         clear c44
         obtain rfl := sj_ H
         go_wp2
         repeat (go_quiet (fail); try go_wp2)
         go_ret
         exact ⟨er_, bl_⟩
       rw [if_pos c44] at H
       have c44b0 : decide (0 < a1) = true := decide_eq_true c44
       clear c44
       obtain ⟨ji45, hji45⟩ : ∃ j_ : Int, (wrap64 (a1 - 1)) = j_ := ⟨_, rfl⟩
       first | rw [hji45] at H | simp only [hji45] at H
       have hji45w : (IntKind.i64.wrap (a1 - 1)) = ji45 := (i64_w _).trans hji45
       obtain ⟨c46b0, H⟩ := ifd_ H
       obtain ⟨c47b0, H⟩ := ifd_ H
       have le_ := fV
       by_cases c48 : ((Op.bytesLess (((aT l0 (ji45)).f0).toList) ((aT l0 a1).f0).toList) = true)
       · rw [if_pos c48] at H
         have c48b0 : (Op.bytesLess (((aT l0 (ji45)).f0).toList) ((aT l0 a1).f0).toList) = true := c48
         clear c48
         obtain rfl := sj_ H
         have bz49 := bc4_ BK213
         have p224 := pt_ (ji45)
         have q224 := qt_ (ji45) l0.length
         obtain ⟨ad224, A224_1, c224_1, e224, hx224_0, hx224_1, hx224_2, hx224_3, hl224_1, hi224_1⟩ := iI HR0.out (ji45) (oe_ p224) (oe_ q224)
         obtain rfl : ad212 = ad224 := (by injection e224)
         replace hx224_0 := ce_ HB hx224_0
         replace hx224_1 := ce_ HB hx224_1
         replace hx224_2 := ce_ HB hx224_2
         replace hx224_3 := ce_ HB hx224_3
         have HR224_1 := am_ hi224_1
         have HC224_1 := am_ hl224_1
         clear hi224_1 hl224_1
         go_wp2
         repeat (go_quiet (fail); try go_wp2)
         go_ret
         exact ⟨by first | rfl | (simp [dK, dL] <;> rfl) | (simp only [← hji45]; first | rfl | (simp [dK, dL] <;> rfl)) | (simp [*, dK, dL] <;> rfl), bl_⟩
       rw [if_neg c48] at H
       have c48b0 : (Op.bytesLess (((aT l0 (ji45)).f0).toList) ((aT l0 a1).f0).toList) = false := by simpa using c48
       clear c48
       obtain rfl := sj_ H
       have bz50 := bc4_ BK213
       have p224 := pt_ (ji45)
       have q224 := qt_ (ji45) l0.length
       obtain ⟨ad224, A224_1, c224_1, e224, hx224_0, hx224_1, hx224_2, hx224_3, hl224_1, hi224_1⟩ := iI HR0.out (ji45) (oe_ p224) (oe_ q224)
       obtain rfl : ad212 = ad224 := (by injection e224)
       replace hx224_0 := ce_ HB hx224_0
       replace hx224_1 := ce_ HB hx224_1
       replace hx224_2 := ce_ HB hx224_2
       replace hx224_3 := ce_ HB hx224_3
       have HR224_1 := am_ hi224_1
       have HC224_1 := am_ hl224_1
       clear hi224_1 hl224_1
       go_wp2
       repeat (go_quiet (fail); try go_wp2)
       go_ret
       exact ⟨by first | rfl | (simp [dK, dL] <;> rfl) | (simp only [← hji45]; first | rfl | (simp [dK, dL] <;> rfl)) | (simp [*, dK, dL] <;> rfl), bl_⟩
   rw [if_pos c12] at H
   have c12b0 := decide_eq_true c12
   clear c12
   obtain ⟨c13b0, H⟩ := ifd_ H
   obtain ⟨t216, A14, H⟩ := bs_ H
   by_cases c15 : t216 = true
   rotate_left
   · obtain rfl := bf_ c15
     clear c15
     rw [if_neg ft_] at H
     obtain rfl := sj_ H
     have bz34 := bc4_ BK213
     have p215 := pt_ x6_1
     have q215 : x6_1 < (((aT l0 a1).f1).length : Int) := dt_
     obtain ⟨ad215, e215, hx215_0⟩ := Kd.at_string HR212_1.out x6_1 (oe_ p215) q215
     cases e215
     replace hx215_0 := ce_ HB hx215_0
     replace q215 := eq_true q215
     go_wp2_with (first | (go_at_call 71; refine (cZ.calls k1 (rdOf ByteArray.empty ((aT l0 a1).f1) x6_1) false _ (gw_ HG.out) A14.out).mono ?_; rintro e w35 ⟨rfl, hb⟩; replace BK213 := bb_ BK213 hb; replace HB := bp_ hb; (try clear hb)))
     repeat (go_quiet (first | (go_at_call 71; refine (cZ.calls k1 (rdOf ByteArray.empty ((aT l0 a1).f1) x6_1) false _ (gw_ HG.out) A14.out).mono ?_; rintro e w35 ⟨rfl, hb⟩; replace BK213 := bb_ BK213 hb; replace HB := bp_ hb; (try clear hb))); try go_wp2_with (first | (go_at_call 71; refine (cZ.calls k1 (rdOf ByteArray.empty ((aT l0 a1).f1) x6_1) false _ (gw_ HG.out) A14.out).mono ?_; rintro e w35 ⟨rfl, hb⟩; have n0_ := bb_ BK213 hb; have n1_ := am_ (below_step bl_ hb); clear BK213; clear HB; have BK213 := n0_; have HB := n1_; clear n0_ n1_; (try clear hb))))
     go_ret
     exact ⟨er_, bl_⟩
   subst c15
   rw [if_pos rfl] at H
   have HC16 := am_ H
   clear H
   have bz17 := bc4_ BK213
   have p215 := pt_ x6_1
   have q215 : x6_1 < (((aT l0 a1).f1).length : Int) := dt_
   obtain ⟨ad215, e215, hx215_0⟩ := Kd.at_string HR212_1.out x6_1 (oe_ p215) q215
   cases e215
   replace hx215_0 := ce_ HB hx215_0
   replace q215 := eq_true q215
   go_upto_region 11 with (first | (go_at_call 71; refine (cZ.calls k1 (rdOf ByteArray.empty ((aT l0 a1).f1) x6_1) true _ (gw_ HG.out) A14.out).mono ?_; rintro e w18 ⟨rfl, hb⟩; replace BK213 := bb_ BK213 hb; replace HB := bp_ hb; (try clear hb)))
   repeat (go_quiet (first | (go_at_call 71; refine (cZ.calls k1 (rdOf ByteArray.empty ((aT l0 a1).f1) x6_1) true _ (gw_ HG.out) A14.out).mono ?_; rintro e w18 ⟨rfl, hb⟩; replace BK213 := bb_ BK213 hb; replace HB := bp_ hb; (try clear hb))); go_upto_region 11 with (first | (go_at_call 71; refine (cZ.calls k1 (rdOf ByteArray.empty ((aT l0 a1).f1) x6_1) true _ (gw_ HG.out) A14.out).mono ?_; rintro e w18 ⟨rfl, hb⟩; have n0_ := bb_ BK213 hb; have n1_ := am_ (below_step bl_ hb); clear BK213; clear HB; have BK213 := n0_; have HB := n1_; clear n0_ n1_; (try clear hb))))
   (try simp only [Act.put, List.setIfInBounds_toArray, List.set_cons_zero, List.set_cons_succ])
   go_cut [49] (fun v49 wc => ∃ (kq : Nat) (x49_15 : Bool), v49 = .bool x49_15 ∧ Aside0 (aU.j1 kq l0 a1 x6_1 x49_15 ((aT l0 a1).f0) ((aT l0 a1).f1) ((aT l0 a1).f2) ((aT l0 a1).f3) = some r) ∧ Aside0 (kq ≤ k1) ∧ Aside0 (wc.heap[gb213]? = some (.cells #[.string ((aT l0 a1).f0), (.slice (some ad215) ((aT l0 a1).f1).length c212_1), .int .i64 ((aT l0 a1).f2), .int .i64 ((aT l0 a1).f3)] 66 (0, 0))) ∧ Aside0 (Below w.heap.size w wc))
   case first =>
    have H := HC16.out
    clear HC16
    by_cases c19 : x6_1 > 0
    rotate_left
    · rw [if_neg c19] at H
      have c19b0 : decide (0 < x6_1) = false := decide_eq_false c19
      clear c19
      (first | rw [c19b0] | (simp only [i64_w, i32_w]; rw [c19b0]) | skip)
      replace H := am_ H
      go_wp2
      repeat (go_quiet (fail); try go_wp2)
      go_meet
      case rel => exact ⟨_, (false), (by first | rfl | exact congrArg Value.bool (fV _ _) | (simp; done) | (simp [*]; done)), H, ⟨by have := HK1.out; first | omega | exact Nat.le_refl _⟩, ⟨bk_ BK213⟩, ⟨bl_⟩⟩
    rw [if_pos c19] at H
    have c19b0 : decide (0 < x6_1) = true := decide_eq_true c19
    clear c19
    (first | rw [c19b0] | (simp only [i64_w, i32_w]; rw [c19b0]) | skip)
    obtain ⟨ji20, hji20⟩ : ∃ j_ : Int, (wrap64 (x6_1 - 1)) = j_ := ⟨_, rfl⟩
    first | rw [hji20] at H | simp only [hji20] at H
    have hji20w : (IntKind.i64.wrap (x6_1 - 1)) = ji20 := (i64_w _).trans hji20
    obtain ⟨c21b0, H⟩ := ifd_ H
    obtain ⟨c22b0, H⟩ := ifd_ H
    replace H := am_ H
    have bz23 := bc4_ BK213
    have p217 := pt_ x6_1
    have q217 : x6_1 < (((aT l0 a1).f1).length : Int) := dt_
    obtain ⟨ad217, e217, hx217_0⟩ := Kd.at_string HR212_1.out x6_1 (oe_ p217) q217
    obtain rfl : ad215 = ad217 := (by injection e217)
    replace hx217_0 := ce_ HB hx217_0
    replace q217 := eq_true q217
    have p218 := pt_ (ji20)
    have q218 : (ji20) < (((aT l0 a1).f1).length : Int) := dt_
    obtain ⟨ad218, e218, hx218_0⟩ := Kd.at_string HR212_1.out (ji20) (oe_ p218) q218
    obtain rfl : ad215 = ad218 := (by injection e218)
    replace hx218_0 := ce_ HB hx218_0
    replace q218 := eq_true q218
    go_wp2
    repeat (go_quiet (fail); try go_wp2)
    go_meet
    case rel => exact ⟨_, (!(Op.bytesLess ((rdOf ByteArray.empty ((aT l0 a1).f1) (ji20)).toList) ((rdOf ByteArray.empty ((aT l0 a1).f1) x6_1).toList))), (by first | rfl | exact congrArg Value.bool (fV _ _) | (simp; done) | (simp only [← hji20] <;> (first | rfl | simp)) | (simp [*]; done)), H, ⟨by have := HK1.out; first | omega | exact Nat.le_refl _⟩, ⟨bk_ BK213⟩, ⟨bl_⟩⟩
   case rest =>
    clear HC16
    try clear c1
    try clear c2
    try clear p2
    try clear q2
    try clear hx2
    try clear c3
    try clear c3b0
    try clear c4
    try clear c4b0
    try clear c6
    try clear p6
    try clear c7
    try clear c7b0
    try clear c7b1
    try clear c12
    try clear c12b0
    try clear c13
    try clear c13b0
    try clear c15
    try clear c19
    try clear c19b0
    try clear c21
    try clear c21b0
    try clear p21
    try clear q21
    try clear hx21
    try clear c22
    try clear c22b0
    try clear bz11
    try clear bz17
    try clear bz23
    try clear bz9
    try clear hx212_0
    try clear hx212_1
    try clear hx212_2
    try clear hx212_3
    try clear hx215_0
    try clear hx217_0
    try clear hx218_0
    try clear p2
    try clear p212
    try clear p215
    try clear p217
    try clear p218
    try clear q2
    try clear q212
    try clear q215
    try clear q217
    try clear q218
    obtain ⟨kq, x49_15, rfl, HA, HJ15, BK213, HB⟩ := hcut
    cases kq with
    | zero => exact absurd HA.out (by simp [aU.j1])
    | succ kj15 =>
     have H := HA.out
     clear HA
     simp only [aU.j1] at H
     by_cases c24 : x49_15 = true
     · subst c24
       rw [if_pos rfl] at H
       obtain rfl := sj_ H
       go_wp2
       repeat (go_quiet (fail); try go_wp2)
       go_ret
       exact ⟨er_, bl_⟩
     obtain rfl := bf_ c24
     clear c24
     rw [if_neg ft_] at H
     replace H := am_ H
     go_wp2
     repeat (go_quiet (fail); try go_wp2)
     go_loopg [7] kj15 (fun kq v7 w' => ∃ (x7_3 : Int), v7 = .int .i64 x7_3 ∧ Aside0 (aU.l1 kq l0 a1 x6_1 x7_3 ((aT l0 a1).f0) ((aT l0 a1).f1) ((aT l0 a1).f2) ((aT l0 a1).f3) = some r) ∧ Aside0 (kq ≤ kj15) ∧ Aside0 (w'.heap[gb213]? = some (.cells #[.string ((aT l0 a1).f0), (.slice (some ad215) ((aT l0 a1).f1).length c212_1), .int .i64 ((aT l0 a1).f2), .int .i64 ((aT l0 a1).f3)] 66 (0, 0))) ∧ Aside0 (Below w.heap.size w w'))
     case atStart => exact ⟨(0), (by first | rfl | exact congrArg Value.bool (fV _ _) | (simp; done) | (simp [*]; done)), H, ⟨Nat.le_refl _⟩, ⟨bk_ BK213⟩, ⟨bl_⟩⟩
     case round =>
      clear H
      try clear c1
      try clear c2
      try clear p2
      try clear q2
      try clear hx2
      try clear c3
      try clear c3b0
      try clear c4
      try clear c4b0
      try clear c6
      try clear p6
      try clear c7
      try clear c7b0
      try clear c7b1
      try clear c12
      try clear c12b0
      try clear c13
      try clear c13b0
      try clear c15
      try clear c19
      try clear c19b0
      try clear c21
      try clear c21b0
      try clear p21
      try clear q21
      try clear hx21
      try clear c22
      try clear c22b0
      try clear c24
      try clear bz11
      try clear bz17
      try clear bz23
      try clear bz9
      try clear hx212_0
      try clear hx212_1
      try clear hx212_2
      try clear hx212_3
      try clear hx215_0
      try clear hx217_0
      try clear hx218_0
      try clear p2
      try clear p21
      try clear p212
      try clear p215
      try clear p217
      try clear p218
      try clear p6
      try clear q2
      try clear q21
      try clear q212
      try clear q215
      try clear q217
      try clear q218
      obtain ⟨x7_3, rfl, HA, HK3, BK213, HB⟩ := hrel
      cases gk with
      | zero => exact absurd HA.out (by simp [aU.l1])
      | succ k3 =>
       have H := HA.out
       clear HA
       simp only [aU.l1] at H
       by_cases c25 : x7_3 < a1
       rotate_left
       · rw [if_neg c25] at H
         have c25b0 := decide_eq_false c25
         clear c25
         replace H := am_ H
         go_wp2
         repeat (go_quiet (fail); try go_wp2)
         go_roundg k3
         case measure => have := HK1.out; have := HJ15.out; have := HK3.out; omega
         case rel => exact ⟨(wrap64 (x6_1 + 1)), (by first | rfl | exact congrArg Value.bool (fV _ _) | (simp; done) | (simp [*]; done)), H, ⟨by have := HK1.out; have := HJ15.out; have := HK3.out; omega⟩, ⟨bk_ BK213⟩, ⟨bl_⟩⟩
       rw [if_pos c25] at H
       have c25b0 := decide_eq_true c25
       clear c25
       obtain ⟨c26b0, H⟩ := ifd_ H
       obtain ⟨c27b0, H⟩ := ifd_ H
       obtain ⟨c28b0, H⟩ := ifd_ H
       obtain ⟨c29b0, H⟩ := ifd_ H
       obtain ⟨t221, A30, H⟩ := bs_ H
       by_cases c31 : t221 = true
       · subst c31
         rw [if_pos rfl] at H
         obtain rfl := sj_ H
         have p219 := pt_ x7_3
         have q219 := qt_ x7_3 l0.length
         obtain ⟨ad219, A219_1, c219_1, e219, hx219_0, hx219_1, hx219_2, hx219_3, hl219_1, hi219_1⟩ := iI HR0.out x7_3 (oe_ p219) (oe_ q219)
         obtain rfl : ad212 = ad219 := (by injection e219)
         replace hx219_0 := ce_ HB hx219_0
         replace hx219_1 := ce_ HB hx219_1
         replace hx219_2 := ce_ HB hx219_2
         replace hx219_3 := ce_ HB hx219_3
         have HR219_1 := am_ hi219_1
         have HC219_1 := am_ hl219_1
         clear hi219_1 hl219_1
         have bz32 := bc4_ BK213
         have p220 := pt_ x6_1
         have q220 : x6_1 < (((aT l0 a1).f1).length : Int) := dt_
         obtain ⟨ad220, e220, hx220_0⟩ := Kd.at_string HR212_1.out x6_1 (oe_ p220) q220
         obtain rfl : ad215 = ad220 := (by injection e220)
         replace hx220_0 := ce_ HB hx220_0
         replace q220 := eq_true q220
         go_wp2_with (first | (go_at_call 72; refine (dD.calls k3 _ _ ((aT l0 x7_3).f1) (rdOf ByteArray.empty ((aT l0 a1).f1) x6_1) true _ (gw_ HG.out) (cb_ (Kd.C_below HR219_1.out HB.out)) HC219_1.out A30.out).mono ?_; rintro e w' ⟨rfl, ⟨nd, rfl⟩⟩; (try first | exact ⟨rfl, _, World.drewN_drewN _ _ _⟩ | exact ⟨rfl, _, Eq.trans (World.drewN_drewN _ _ _) (congrArg (World.drewN _) (Nat.add_assoc _ _ _))⟩)))
         repeat (go_quiet (first | (go_at_call 72; refine (dD.calls k3 _ _ ((aT l0 x7_3).f1) (rdOf ByteArray.empty ((aT l0 a1).f1) x6_1) true _ (gw_ HG.out) (cb_ (Kd.C_below HR219_1.out HB.out)) HC219_1.out A30.out).mono ?_; rintro e w' ⟨rfl, ⟨nd, rfl⟩⟩; (try first | exact ⟨rfl, _, World.drewN_drewN _ _ _⟩ | exact ⟨rfl, _, Eq.trans (World.drewN_drewN _ _ _) (congrArg (World.drewN _) (Nat.add_assoc _ _ _))⟩))); try go_wp2_with (first | (go_at_call 72; refine (dD.calls k3 _ _ ((aT l0 x7_3).f1) (rdOf ByteArray.empty ((aT l0 a1).f1) x6_1) true _ (gw_ HG.out) (by repeat (first | exact (Kd.C_below HR219_1.out HB.out) | (with_reducible refine Kd.C_alloc ?_ _) | (with_reducible refine Kd.C_drewN ?_ _) | (with_reducible refine Kd.C_drew ?_))) HC219_1.out A30.out).mono ?_; rintro e w' ⟨rfl, ⟨nd, rfl⟩⟩; (try first | exact ⟨rfl, _, World.drewN_drewN _ _ _⟩ | exact ⟨rfl, _, Eq.trans (World.drewN_drewN _ _ _) (congrArg (World.drewN _) (Nat.add_assoc _ _ _))⟩))))
         go_ret
         exact ⟨er_, bl_⟩
       obtain rfl := bf_ c31
       clear c31
       rw [if_neg ft_] at H
       replace H := am_ H
       have p219 := pt_ x7_3
       have q219 := qt_ x7_3 l0.length
       obtain ⟨ad219, A219_1, c219_1, e219, hx219_0, hx219_1, hx219_2, hx219_3, hl219_1, hi219_1⟩ := iI HR0.out x7_3 (oe_ p219) (oe_ q219)
       obtain rfl : ad212 = ad219 := (by injection e219)
       replace hx219_0 := ce_ HB hx219_0
       replace hx219_1 := ce_ HB hx219_1
       replace hx219_2 := ce_ HB hx219_2
       replace hx219_3 := ce_ HB hx219_3
       have HR219_1 := am_ hi219_1
       have HC219_1 := am_ hl219_1
       clear hi219_1 hl219_1
       have bz33 := bc4_ BK213
       have p220 := pt_ x6_1
       have q220 : x6_1 < (((aT l0 a1).f1).length : Int) := dt_
       obtain ⟨ad220, e220, hx220_0⟩ := Kd.at_string HR212_1.out x6_1 (oe_ p220) q220
       obtain rfl : ad215 = ad220 := (by injection e220)
       replace hx220_0 := ce_ HB hx220_0
       replace q220 := eq_true q220
       go_wp2_with (first | (go_at_call 72; refine (dD.calls k3 _ _ ((aT l0 x7_3).f1) (rdOf ByteArray.empty ((aT l0 a1).f1) x6_1) false _ (gw_ HG.out) (cb_ (Kd.C_below HR219_1.out HB.out)) HC219_1.out A30.out).mono ?_; rintro e w' ⟨rfl, ⟨nd, rfl⟩⟩; (try first | exact ⟨rfl, _, World.drewN_drewN _ _ _⟩ | exact ⟨rfl, _, Eq.trans (World.drewN_drewN _ _ _) (congrArg (World.drewN _) (Nat.add_assoc _ _ _))⟩)))
       repeat (go_quiet (first | (go_at_call 72; refine (dD.calls k3 _ _ ((aT l0 x7_3).f1) (rdOf ByteArray.empty ((aT l0 a1).f1) x6_1) false _ (gw_ HG.out) (cb_ (Kd.C_below HR219_1.out HB.out)) HC219_1.out A30.out).mono ?_; rintro e w' ⟨rfl, ⟨nd, rfl⟩⟩; (try first | exact ⟨rfl, _, World.drewN_drewN _ _ _⟩ | exact ⟨rfl, _, Eq.trans (World.drewN_drewN _ _ _) (congrArg (World.drewN _) (Nat.add_assoc _ _ _))⟩))); try go_wp2_with (first | (go_at_call 72; refine (dD.calls k3 _ _ ((aT l0 x7_3).f1) (rdOf ByteArray.empty ((aT l0 a1).f1) x6_1) false _ (gw_ HG.out) (by repeat (first | exact (Kd.C_below HR219_1.out HB.out) | (with_reducible refine Kd.C_alloc ?_ _) | (with_reducible refine Kd.C_drewN ?_ _) | (with_reducible refine Kd.C_drew ?_))) HC219_1.out A30.out).mono ?_; rintro e w' ⟨rfl, ⟨nd, rfl⟩⟩; (try first | exact ⟨rfl, _, World.drewN_drewN _ _ _⟩ | exact ⟨rfl, _, Eq.trans (World.drewN_drewN _ _ _) (congrArg (World.drewN _) (Nat.add_assoc _ _ _))⟩))))
       go_roundg k3
       case measure => have := HK1.out; have := HJ15.out; have := HK3.out; omega
       case rel => exact ⟨(wrap64 (x7_3 + 1)), (by first | rfl | exact congrArg Value.bool (fV _ _) | (simp; done) | (simp [*]; done)), H, ⟨by have := HK1.out; have := HJ15.out; have := HK3.out; omega⟩, ⟨bk_ BK213⟩, ⟨bl_⟩⟩
end Go.Proofs.YthkeonbmgcphkaaGreatDoor.PM
