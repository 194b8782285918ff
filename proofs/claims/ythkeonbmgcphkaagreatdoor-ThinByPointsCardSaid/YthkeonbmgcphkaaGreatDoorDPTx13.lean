-- Written by this session's own programs (wip/tools).
import Derived.Test.YthkeonbmgcphkaaGreatDoorDPTx0
namespace Go.Proofs.YthkeonbmgcphkaaGreatDoor.PT
open Go.RowKit Go.Proofs.YthkeonbmgcphkaaGreatDoorW.PrintWords Go.Proofs.YthkeonbmgcphkaaGreatDoorW.PrintLast Go.Proofs.YthkeonbmgcphkaaGreatDoorW.PrintMore
attribute [local go_sem] max2_int min2_int max_two min_two max_three min_three max_four min_four
set_option linter.unusedVariables false
set_option linter.unusedSimpArgs false
def shape_Set_Around.l0 : Nat → List (S118) → Int → Int → Int → Int → Int → Int → Option (Int × Int × Int × Int)
  | 0, _, _, _, _, _, _, _ => none
  | k + 1, x30, x31, x32, x570000, x570001, x570002, x570003 => if x32 < x31 then (if 0 ≤ x32 then (if x32 < (x30.length : Int) then (if 0 < (((rd_T118 x30 x32).f2).length : Int) then (if 0 ≤ (wrap64 ((((rd_T118 x30 x32).f2).length : Int) - 1)) then (if (wrap64 ((((rd_T118 x30 x32).f2).length : Int) - 1)) < (((rd_T118 x30 x32).f2).length : Int) then (shape_Set_Around.l0 k x30 x31 (wrap64 (x32 + 1)) (mn x570000 (rd ((rd_T118 x30 x32).f2) 0)) x570001 (mx x570002 (rd ((rd_T118 x30 x32).f2) (wrap64 ((((rd_T118 x30 x32).f2).length : Int) - 1)))) x570003) else (none)) else (none)) else (none)) else (none)) else (none)) else (some (x570000, x570001, x570002, x570003))
def shape_Set_Around.f (k : Nat) (l0 : List (S118)) : Option (Int × Int × Int × Int) := if 0 < (l0.length : Int) then (if 0 < (((rd_T118 l0 0).f2).length : Int) then (if 1 < (((rd_T118 l0 0).f2).length : Int) then (if 0 ≤ (wrap64 ((l0.length : Int) - 1)) then (if (wrap64 ((l0.length : Int) - 1)) < (l0.length : Int) then (shape_Set_Around.l0 k l0 (l0.length : Int) 0 (rd ((rd_T118 l0 0).f2) 0) ((rd_T118 l0 0).f0) (rd ((rd_T118 l0 0).f2) 1) ((rd_T118 l0 (wrap64 ((l0.length : Int) - 1))).f1)) else (none)) else (none)) else (none)) else (none)) else (none)
def shape_Set_Around.T1 : Bool × List (List Nat × List Nat) := (true, [([], []), ([0], [0]), ([1], [1]), ([2], [2]), ([3], [3]), ([4], [4]), ([], []), ([6], [6]), ([7], [7]), ([8], [8]), ([], []), ([10], [10]), ([11], [11]), ([12], [12]), ([13], [13]), ([14], [14]), ([], []), ([], []), ([17], [17]), ([18], [18]), ([16, 19], [16, 19]), ([20], [20]), ([21], [21]), ([5, 9, 15, 22], [5, 9, 15, 22]), ([], []), ([24, 23, 0, 1, 2, 3, 4, 5, 6, 7, 8, 9, 10, 11, 12, 13, 14, 15, 16, 17, 18, 19, 20, 21, 22, 23, 24], [23, 24])])
def shape_Set_Around.B1 : List Nat := [0, 1, 3, 7, 15, 31, 0, 64, 192, 448, 0, 1024, 3072, 7168, 15360, 31744, 0, 0, 131072, 393216, 983040, 2031616, 4128768, 8388607, 0, 33554431]
theorem shape_Set_Around.tab1 : rtab .any (opsOf Tryz.f124 1) = shape_Set_Around.T1 := by kernel_rfl
theorem shape_Set_Around.bits1 : waitsOk shape_Set_Around.T1.2 shape_Set_Around.B1 = true := by kernel_rfl
def shape_Set_Around.T5 : Bool × List (List Nat × List Nat) := (true, [([], []), ([0], [0]), ([], []), ([2], [2]), ([3], [3]), ([4], [4]), ([1, 5], [1, 5]), ([], []), ([7], [7]), ([], []), ([9], [9]), ([], []), ([11], [11]), ([12], [12]), ([13], [13]), ([10, 14], [10, 14]), ([15], [15]), ([8, 16], [8, 16]), ([0, 1, 2, 3, 4, 5, 6, 7, 8], []), ([18, 6, 0, 1, 2, 3, 4, 5, 6, 7, 8], [6, 18]), ([0, 1, 2, 3, 4, 5, 6, 7, 8, 9, 10, 11, 12, 13, 14, 15, 16, 17, 18, 19], []), ([20, 17, 19, 0, 1, 2, 3, 4, 5, 6, 7, 8, 9, 10, 11, 12, 13, 14, 15, 16, 17, 18, 19], [17, 20])])
def shape_Set_Around.B5 : List Nat := [0, 1, 0, 4, 12, 28, 63, 0, 128, 0, 512, 0, 2048, 6144, 14336, 32256, 65024, 130944, 511, 262655, 1048575, 2097151]
theorem shape_Set_Around.tab5 : rtab .any (opsOf Tryz.f124 5) = shape_Set_Around.T5 := by kernel_rfl
theorem shape_Set_Around.bits5 : waitsOk shape_Set_Around.T5.2 shape_Set_Around.B5 = true := by kernel_rfl
set_option maxHeartbeats 8000000 in
set_option maxRecDepth 100000 in
theorem shape_Set_Around.calls (k : Nat) (A0 : Option Addr) (c0 : Nat) (l0 : List (S118)) (r1 : Int) (r2 : Int) (r3 : Int) (r4 : Int) (w : World) (hG : Tryz.GW w) (hr0 : Kd.C k118 w A0 l0.length l0) (hc0 : l0.length ≤ c0) (h : shape_Set_Around.f k l0 = some (r1, r2, r3, r4)) :
    Calls Tryz.prog 124 #[.slice A0 l0.length c0] w fun e w' => e = .returned (.agg #[.int .i64 r1, .int .i64 r2, .int .i64 r3, .int .i64 r4]) ∧ Below w.heap.size w w' := by
  have hu44 := Tryz.underlying44
  have hu118 := Tryz.underlying118
  have HR0 := Aside0.mk hr0
  have HC0 := Aside0.mk hc0
  clear hr0 hc0
  have HG := Aside0.mk hG
  clear hG
  have HB := Aside0.mk (Below.refl w.heap.size w)
  have H : (if 0 < (l0.length : Int) then (if 0 < (((rd_T118 l0 0).f2).length : Int) then (if 1 < (((rd_T118 l0 0).f2).length : Int) then (if 0 ≤ (wrap64 ((l0.length : Int) - 1)) then (if (wrap64 ((l0.length : Int) - 1)) < (l0.length : Int) then (shape_Set_Around.l0 k l0 (l0.length : Int) 0 (rd ((rd_T118 l0 0).f2) 0) ((rd_T118 l0 0).f0) (rd ((rd_T118 l0 0).f2) 1) ((rd_T118 l0 (wrap64 ((l0.length : Int) - 1))).f1)) else (none)) else (none)) else (none)) else (none)) else (none)) = some (r1, r2, r3, r4) := h
  clear h
  by_cases c2 : 0 < (l0.length : Int)
  · rw [if_pos c2] at H
    have c2b0 : decide (0 < (l0.length : Int)) = true := decide_eq_true c2
    have c2b1 : decide (0 < l0.length) = true := decide_eq_true (by omega)
    clear c2
    by_cases c3 : 0 < (((rd_T118 l0 0).f2).length : Int)
    · rw [if_pos c3] at H
      have c3b0 : decide (0 < (((rd_T118 l0 0).f2).length : Int)) = true := decide_eq_true c3
      have c3b1 : decide (0 < ((rd_T118 l0 0).f2).length) = true := decide_eq_true (by omega)
      clear c3
      by_cases c4 : 1 < (((rd_T118 l0 0).f2).length : Int)
      · rw [if_pos c4] at H
        have c4b0 : decide (1 < (((rd_T118 l0 0).f2).length : Int)) = true := decide_eq_true c4
        have c4b1 : decide (1 < ((rd_T118 l0 0).f2).length) = true := decide_eq_true (by omega)
        clear c4
        obtain ⟨ji5, hji5⟩ : ∃ j_ : Int, (wrap64 ((l0.length : Int) - 1)) = j_ := ⟨_, rfl⟩
        first | rw [hji5] at H | simp only [hji5] at H
        have hji5w : (IntKind.i64.wrap ((l0.length : Int) - 1)) = ji5 := (i64_w _).trans hji5
        by_cases c6 : 0 ≤ (ji5)
        · rw [if_pos c6] at H
          have c6b0 : decide (0 ≤ (ji5)) = true := decide_eq_true c6
          clear c6
          by_cases c7 : (ji5) < (l0.length : Int)
          · rw [if_pos c7] at H
            have c7b0 : decide ((ji5) < (l0.length : Int)) = true := decide_eq_true c7
            clear c7
            have H' := Aside0.mk H
            clear H
            go_enter Tryz.func124, Tryz.ntmps124
            try go_wp2_with (first | ((with_reducible refine gate_dst (N := 2) rfl ?_); refine bx_ (N := 2) (cs := #[.int .i64 0, .int .i64 0, .int .i64 0, .int .i64 0]) (t := 44) ?_; intro gb562 hg w8 hbox hb; have BK562 := Aside0.mk (hbox); have GW562 := Aside0.mk ((gs_ hg : w.heap.size ≤ gb562)); have GE562 := Aside0.mk ((gs_ hg : w.heap.size ≤ gb562)); replace HB := Aside0.mk (below_step bl_ hb); clear hb hbox hg))
            replace BK562 := Aside0.mk (blk_drew BK562.out)
            replace HB := Aside0.mk (below_drew1 HB.out)
            have p563 : 0 ≤ (0 : Int) := (by omega)
            have q563 : 0 < (l0.length : Int) := dt_
            obtain ⟨ad563, A563_2, c563_2, e563, hx563_0, hx563_1, hx563_2, hl563_2, hi563_2⟩ := at_T118 HR0.out 0 p563 q563
            have hw563_2 := hx563_2
            (try rw [show ((0 : Int)).toNat = 0 from rfl] at hw563_2)
            (try rw [show 0 * 3 = 0 from rfl] at hw563_2)
            (try rw [Addr.add_zero'] at hw563_2)
            have hw563_1 := hx563_1
            (try rw [show ((0 : Int)).toNat = 0 from rfl] at hw563_1)
            (try rw [show 0 * 3 = 0 from rfl] at hw563_1)
            (try rw [Addr.add_zero'] at hw563_1)
            have hw563_0 := hx563_0
            (try rw [show ((0 : Int)).toNat = 0 from rfl] at hw563_0)
            (try rw [show 0 * 3 = 0 from rfl] at hw563_0)
            (try rw [Addr.add_zero'] at hw563_0)
            cases e563
            have qi563 : (0 < l0.length) = True := eq_true (by omega)
            (try rw [show ((0 : Int)).toNat = 0 from rfl] at hx563_0)
            (try rw [show 0 * 3 = 0 from rfl] at hx563_0)
            (try rw [Addr.add_zero'] at hx563_0)
            (try rw [show ((0 : Int)).toNat = 0 from rfl] at hx563_1)
            (try rw [show 0 * 3 = 0 from rfl] at hx563_1)
            (try rw [Addr.add_zero'] at hx563_1)
            (try rw [show ((0 : Int)).toNat = 0 from rfl] at hx563_2)
            (try rw [show 0 * 3 = 0 from rfl] at hx563_2)
            (try rw [Addr.add_zero'] at hx563_2)
            replace hx563_0 := (HB.out.cell (World.block_lt_of_cell? w _ hx563_0)).trans hx563_0
            replace hx563_1 := (HB.out.cell (World.block_lt_of_cell? w _ hx563_1)).trans hx563_1
            replace hx563_2 := (HB.out.cell (World.block_lt_of_cell? w _ hx563_2)).trans hx563_2
            have HR563_2 := Aside0.mk hi563_2
            have HC563_2 := Aside0.mk hl563_2
            clear hi563_2 hl563_2
            replace p563 := eq_true p563
            replace q563 := eq_true q563
            have p564 : 0 ≤ (0 : Int) := (by omega)
            have q564 : 0 < (((rd_T118 l0 0).f2).length : Int) := dt_
            obtain ⟨ad564, e564, hx564_0⟩ := Kd.at_int HR563_2.out 0 p564 q564
            have hw564_0 := hx564_0
            (try rw [show ((0 : Int)).toNat = 0 from rfl] at hw564_0)
            (try rw [show 0 * 1 = 0 from rfl] at hw564_0)
            (try rw [Addr.add_zero'] at hw564_0)
            cases e564
            have qi564 : (0 < ((rd_T118 l0 0).f2).length) = True := eq_true (by omega)
            (try rw [show ((0 : Int)).toNat = 0 from rfl] at hx564_0)
            (try rw [Addr.add_zero'] at hx564_0)
            replace hx564_0 := (HB.out.cell (World.block_lt_of_cell? w _ hx564_0)).trans hx564_0
            replace p564 := eq_true p564
            replace q564 := eq_true q564
            have p565 : 0 ≤ (0 : Int) := (by omega)
            have q565 : 0 < (l0.length : Int) := dt_
            obtain ⟨ad565, A565_2, c565_2, e565, hx565_0, hx565_1, hx565_2, hl565_2, hi565_2⟩ := at_T118 HR0.out 0 p565 q565
            have hw565_2 := hx565_2
            (try rw [show ((0 : Int)).toNat = 0 from rfl] at hw565_2)
            (try rw [show 0 * 3 = 0 from rfl] at hw565_2)
            (try rw [Addr.add_zero'] at hw565_2)
            have hw565_1 := hx565_1
            (try rw [show ((0 : Int)).toNat = 0 from rfl] at hw565_1)
            (try rw [show 0 * 3 = 0 from rfl] at hw565_1)
            (try rw [Addr.add_zero'] at hw565_1)
            have hw565_0 := hx565_0
            (try rw [show ((0 : Int)).toNat = 0 from rfl] at hw565_0)
            (try rw [show 0 * 3 = 0 from rfl] at hw565_0)
            (try rw [Addr.add_zero'] at hw565_0)
            obtain rfl : ad563 = ad565 := (by injection e565)
            have qi565 : (0 < l0.length) = True := eq_true (by omega)
            (try rw [show ((0 : Int)).toNat = 0 from rfl] at hx565_0)
            (try rw [show 0 * 3 = 0 from rfl] at hx565_0)
            (try rw [Addr.add_zero'] at hx565_0)
            (try rw [show ((0 : Int)).toNat = 0 from rfl] at hx565_1)
            (try rw [show 0 * 3 = 0 from rfl] at hx565_1)
            (try rw [Addr.add_zero'] at hx565_1)
            (try rw [show ((0 : Int)).toNat = 0 from rfl] at hx565_2)
            (try rw [show 0 * 3 = 0 from rfl] at hx565_2)
            (try rw [Addr.add_zero'] at hx565_2)
            replace hx565_0 := (HB.out.cell (World.block_lt_of_cell? w _ hx565_0)).trans hx565_0
            replace hx565_1 := (HB.out.cell (World.block_lt_of_cell? w _ hx565_1)).trans hx565_1
            replace hx565_2 := (HB.out.cell (World.block_lt_of_cell? w _ hx565_2)).trans hx565_2
            have HR565_2 := Aside0.mk hi565_2
            have HC565_2 := Aside0.mk hl565_2
            clear hi565_2 hl565_2
            replace p565 := eq_true p565
            replace q565 := eq_true q565
            have ea_ := Option.some.inj (hx563_2.symm.trans hx565_2)
            injection ea_ with ea_ en_ ec_
            subst ea_
            subst ec_
            clear en_
            have p566 : 0 ≤ (0 : Int) := (by omega)
            have q566 : 0 < (l0.length : Int) := dt_
            obtain ⟨ad566, A566_2, c566_2, e566, hx566_0, hx566_1, hx566_2, hl566_2, hi566_2⟩ := at_T118 HR0.out 0 p566 q566
            have hw566_2 := hx566_2
            (try rw [show ((0 : Int)).toNat = 0 from rfl] at hw566_2)
            (try rw [show 0 * 3 = 0 from rfl] at hw566_2)
            (try rw [Addr.add_zero'] at hw566_2)
            have hw566_1 := hx566_1
            (try rw [show ((0 : Int)).toNat = 0 from rfl] at hw566_1)
            (try rw [show 0 * 3 = 0 from rfl] at hw566_1)
            (try rw [Addr.add_zero'] at hw566_1)
            have hw566_0 := hx566_0
            (try rw [show ((0 : Int)).toNat = 0 from rfl] at hw566_0)
            (try rw [show 0 * 3 = 0 from rfl] at hw566_0)
            (try rw [Addr.add_zero'] at hw566_0)
            obtain rfl : ad563 = ad566 := (by injection e566)
            have qi566 : (0 < l0.length) = True := eq_true (by omega)
            (try rw [show ((0 : Int)).toNat = 0 from rfl] at hx566_0)
            (try rw [show 0 * 3 = 0 from rfl] at hx566_0)
            (try rw [Addr.add_zero'] at hx566_0)
            (try rw [show ((0 : Int)).toNat = 0 from rfl] at hx566_1)
            (try rw [show 0 * 3 = 0 from rfl] at hx566_1)
            (try rw [Addr.add_zero'] at hx566_1)
            (try rw [show ((0 : Int)).toNat = 0 from rfl] at hx566_2)
            (try rw [show 0 * 3 = 0 from rfl] at hx566_2)
            (try rw [Addr.add_zero'] at hx566_2)
            replace hx566_0 := (HB.out.cell (World.block_lt_of_cell? w _ hx566_0)).trans hx566_0
            replace hx566_1 := (HB.out.cell (World.block_lt_of_cell? w _ hx566_1)).trans hx566_1
            replace hx566_2 := (HB.out.cell (World.block_lt_of_cell? w _ hx566_2)).trans hx566_2
            have HR566_2 := Aside0.mk hi566_2
            have HC566_2 := Aside0.mk hl566_2
            clear hi566_2 hl566_2
            replace p566 := eq_true p566
            replace q566 := eq_true q566
            have ea_ := Option.some.inj (hx563_2.symm.trans hx566_2)
            injection ea_ with ea_ en_ ec_
            subst ea_
            subst ec_
            clear en_
            have p567 : 0 ≤ (1 : Int) := (by omega)
            have q567 : 1 < (((rd_T118 l0 0).f2).length : Int) := dt_
            obtain ⟨ad567, e567, hx567_0⟩ := Kd.at_int HR566_2.out 1 p567 q567
            have hw567_0 := hx567_0
            (try rw [show ((1 : Int)).toNat = 1 from rfl] at hw567_0)
            (try rw [show 1 * 1 = 1 from rfl] at hw567_0)
            (try simp only [Nat.reduceMul, Nat.reduceEqDiff, Go.Addr.add, ↓reduceIte] at hw567_0)
            cases e567
            (try simp only [show (1 : Int).toNat = 1 from rfl, Nat.reduceMul, Nat.reduceEqDiff, Go.Addr.add, ↓reduceIte] at hx567_0)
            have qi567 : (1 < ((rd_T118 l0 0).f2).length) = True := eq_true (by omega)
            (try rw [show ((1 : Int)).toNat = 1 from rfl] at hx567_0)
            replace hx567_0 := (HB.out.cell (World.block_lt_of_cell? w _ hx567_0)).trans hx567_0
            replace p567 := eq_true p567
            replace q567 := eq_true q567
            have p568 : 0 ≤ ((ji5) : Int) := dt_
            have q568 : (ji5) < (l0.length : Int) := dt_
            obtain ⟨ad568, A568_2, c568_2, e568, hx568_0, hx568_1, hx568_2, hl568_2, hi568_2⟩ := at_T118 HR0.out (ji5) p568 q568
            have hw568_2 := hx568_2
            have hw568_1 := hx568_1
            have hw568_0 := hx568_0
            obtain rfl : ad563 = ad568 := (by injection e568)
            replace hx568_0 := (HB.out.cell (World.block_lt_of_cell? w _ hx568_0)).trans hx568_0
            replace hx568_1 := (HB.out.cell (World.block_lt_of_cell? w _ hx568_1)).trans hx568_1
            replace hx568_2 := (HB.out.cell (World.block_lt_of_cell? w _ hx568_2)).trans hx568_2
            have HR568_2 := Aside0.mk hi568_2
            have HC568_2 := Aside0.mk hl568_2
            clear hi568_2 hl568_2
            replace p568 := eq_true p568
            replace q568 := eq_true q568
            refine start_ (n := 26) (S := fun w' => w'.cell? ad563 = some (.int .i64 ((rd_T118 l0 0).f0)) ∧ w'.cell? ⟨ad563.block, ad563.off + 1, none⟩ = some (.int .i64 ((rd_T118 l0 0).f1)) ∧ w'.cell? ⟨ad563.block, ad563.off + 2, none⟩ = some (.slice (some ad564) ((rd_T118 l0 0).f2).length c563_2) ∧ w'.cell? ad564 = some (.int .i64 (rd ((rd_T118 l0 0).f2) 0)) ∧ w'.cell? ad563 = some (.int .i64 ((rd_T118 l0 0).f0)) ∧ w'.cell? ⟨ad563.block, ad563.off + 1, none⟩ = some (.int .i64 ((rd_T118 l0 0).f1)) ∧ w'.cell? ⟨ad563.block, ad563.off + 2, none⟩ = some (.slice (some ad564) ((rd_T118 l0 0).f2).length c563_2) ∧ w'.cell? ad563 = some (.int .i64 ((rd_T118 l0 0).f0)) ∧ w'.cell? ⟨ad563.block, ad563.off + 1, none⟩ = some (.int .i64 ((rd_T118 l0 0).f1)) ∧ w'.cell? ⟨ad563.block, ad563.off + 2, none⟩ = some (.slice (some ad564) ((rd_T118 l0 0).f2).length c563_2) ∧ w'.cell? ⟨ad564.block, ad564.off + 1, none⟩ = some (.int .i64 (rd ((rd_T118 l0 0).f2) 1)) ∧ w'.cell? (ad563.add (((ji5)).toNat * 3)) = some (.int .i64 ((rd_T118 l0 (ji5)).f0)) ∧ w'.cell? ⟨(ad563.add (((ji5)).toNat * 3)).block, (ad563.add (((ji5)).toNat * 3)).off + 1, none⟩ = some (.int .i64 ((rd_T118 l0 (ji5)).f1)) ∧ w'.cell? ⟨(ad563.add (((ji5)).toNat * 3)).block, (ad563.add (((ji5)).toNat * 3)).off + 2, none⟩ = some (.slice A568_2 ((rd_T118 l0 (ji5)).f2).length c568_2)) (ds := []) (bv 26 0) (by kernel_rfl) rfl rfl ⟨((HB.out.cell (World.block_lt_of_cell? w _ hw563_0)).trans hw563_0), ((HB.out.cell (World.block_lt_of_cell? w _ hw563_1)).trans hw563_1), ((HB.out.cell (World.block_lt_of_cell? w _ hw563_2)).trans hw563_2), ((HB.out.cell (World.block_lt_of_cell? w _ hw564_0)).trans hw564_0), ((HB.out.cell (World.block_lt_of_cell? w _ hw565_0)).trans hw565_0), ((HB.out.cell (World.block_lt_of_cell? w _ hw565_1)).trans hw565_1), ((HB.out.cell (World.block_lt_of_cell? w _ hw565_2)).trans hw565_2), ((HB.out.cell (World.block_lt_of_cell? w _ hw566_0)).trans hw566_0), ((HB.out.cell (World.block_lt_of_cell? w _ hw566_1)).trans hw566_1), ((HB.out.cell (World.block_lt_of_cell? w _ hw566_2)).trans hw566_2), ((HB.out.cell (World.block_lt_of_cell? w _ hw567_0)).trans hw567_0), ((HB.out.cell (World.block_lt_of_cell? w _ hw568_0)).trans hw568_0), ((HB.out.cell (World.block_lt_of_cell? w _ hw568_1)).trans hw568_1), ((HB.out.cell (World.block_lt_of_cell? w _ hw568_2)).trans hw568_2)⟩ (fun hHeld => ?_); refine with_tabW shape_Set_Around.tab1 shape_Set_Around.bits1 (fun HT_ HW_ => ?_)
            generalize w8.drew = w9 at BK562 HB HR563_2 HR565_2 HR566_2 HR568_2 hx563_0 hx563_1 hx563_2 hx564_0 hx565_0 hx565_1 hx565_2 hx566_0 hx566_1 hx566_2 hx567_0 hx568_0 hx568_1 hx568_2 hHeld ⊢
            refine pu_ 0 6 (bv 26 1) ?_
            refine pu_ 1 7 (bv 26 3) ?_
            refine pu_ 2 8 (bv 26 7) ?_
            refine pu_ 6 12 (bv 26 71) ?_
            refine pu_ 7 13 (bv 26 199) ?_
            refine pu_ 8 14 (bv 26 455) ?_
            refine pu_ 10 16 (bv 26 1479) ?_
            refine pu_ 11 17 (bv 26 3527) ?_
            refine pu_ 12 18 (bv 26 7623) ?_
            refine pu_ 16 22 (bv 26 73159) ?_
            refine pu_ 17 23 (bv 26 204231) ?_
            refine pu_ 18 24 (bv 26 466375) ?_
            refine pu_ 19 25 (bv 26 990663) ?_
            refine pu_ 20 26 (bv 26 2039239) ?_
            refine pu_ 21 27 (bv 26 4136391) ?_
            refine tk_ 3 9 (bv 26 4136399) hHeld ?_
            refine pu_ 4 10 (bv 26 4136415) ?_
            refine tk_ 5 11 (bv 26 4136447) hHeld ?_
            refine tk_ 9 15 (bv 26 4136959) hHeld ?_
            refine tk_ 13 19 (bv 26 4145151) hHeld ?_
            refine pu_ 14 20 (bv 26 4161535) ?_
            refine tk_ 15 21 (bv 26 4194303) hHeld ?_
            refine tk_ 22 28 (bv 26 8388607) hHeld ?_
            refine pu_ 23 29 (bv 26 16777215) ?_
            refine one_ (i := 24) (N := some 3) (bv 26 33554431) rfl rfl (one_of HT_.out (by kernel_rfl)) (by decide) (fun K hK => ?_)
            refine box_step ?hg (N := 3) ?hd (cs := #[.int .i64 0, .int .i64 0, .int .i64 0, .int .i64 0]) (t := 44) ?hr ?_; (case hd => rfl); (case hg => rfl); (case hr => first | (go_simp; done) | (go_simp; rfl))
            intro gb569 hg w10 hbox hb
            have BK569 := Aside0.mk (hbox)
            have GW569 := Aside0.mk ((gs_ hg : w.heap.size ≤ gb569))
            have GE569 := Aside0.mk ((gs_ hg : w.heap.size ≤ gb569))
            have NB562_569 := Aside0.mk ((nl_ hg BK562 : gb562 ≠ gb569))
            have NB569_562 := Aside0.mk ((ng_ hg BK562 : gb569 ≠ gb562))
            replace BK562 := bb_ BK562 hb
            replace HB := Aside0.mk (below_step bl_ hb)
            clear hb hbox hg
            refine hK.out _ _ ⟨((HB.out.cell (World.block_lt_of_cell? w _ hw563_0)).trans hw563_0), ((HB.out.cell (World.block_lt_of_cell? w _ hw563_1)).trans hw563_1), ((HB.out.cell (World.block_lt_of_cell? w _ hw563_2)).trans hw563_2), ((HB.out.cell (World.block_lt_of_cell? w _ hw564_0)).trans hw564_0), ((HB.out.cell (World.block_lt_of_cell? w _ hw565_0)).trans hw565_0), ((HB.out.cell (World.block_lt_of_cell? w _ hw565_1)).trans hw565_1), ((HB.out.cell (World.block_lt_of_cell? w _ hw565_2)).trans hw565_2), ((HB.out.cell (World.block_lt_of_cell? w _ hw566_0)).trans hw566_0), ((HB.out.cell (World.block_lt_of_cell? w _ hw566_1)).trans hw566_1), ((HB.out.cell (World.block_lt_of_cell? w _ hw566_2)).trans hw566_2), ((HB.out.cell (World.block_lt_of_cell? w _ hw567_0)).trans hw567_0), ((HB.out.cell (World.block_lt_of_cell? w _ hw568_0)).trans hw568_0), ((HB.out.cell (World.block_lt_of_cell? w _ hw568_1)).trans hw568_1), ((HB.out.cell (World.block_lt_of_cell? w _ hw568_2)).trans hw568_2)⟩ (fun hHeld => ?_)
            clear hK K
            refine norm_ (a' := ?_) ?_ ?_
            rotate_left
            · show Act.put _ (some 3) _ = _
              simp only [Act.put, List.setIfInBounds_toArray, List.set_cons_zero, List.set_cons_succ, i64_w, i32_w]
              rfl
            refine one_ (i := 25) (N := none) (bv 26 67108863) rfl rfl (one_of HT_.out (by kernel_rfl)) (by decide) (fun K hK => ?_)
            have hs11 : w10.cell? ⟨gb569, 0, none⟩ = some (.int .i64 0) := (blk_cell BK569.out 0).trans rfl
            have hfs11 := blk_frozen BK569.out 0
            have hns11_0 := NB562_569.out
            have hms11_0 := NB569_562.out
            have hs12 : w10.cell? ⟨gb569, 1, none⟩ = some (.int .i64 0) := (blk_cell BK569.out 1).trans rfl
            have hfs12 := blk_frozen BK569.out 1
            have hns12_0 := NB562_569.out
            have hms12_0 := NB569_562.out
            have hs13 : w10.cell? ⟨gb569, 2, none⟩ = some (.int .i64 0) := (blk_cell BK569.out 2).trans rfl
            have hfs13 := blk_frozen BK569.out 2
            have hns13_0 := NB562_569.out
            have hms13_0 := NB569_562.out
            have hs14 : w10.cell? ⟨gb569, 3, none⟩ = some (.int .i64 0) := (blk_cell BK569.out 3).trans rfl
            have hfs14 := blk_frozen BK569.out 3
            have hns14_0 := NB562_569.out
            have hms14_0 := NB569_562.out
            refine skip_ (w1 := ?_) (by rfl) rfl ?_ ?_
            rotate_left
            · go_simp
              rfl
            refine hK.out _ _ ⟨((cell_far (p := ⟨gb569, _, none⟩) (fb_ hw563_0 GW569) _).trans (((cell_far (p := ⟨gb569, _, none⟩) (fb_ hw563_0 GW569) _).trans (((cell_far (p := ⟨gb569, _, none⟩) (fb_ hw563_0 GW569) _).trans (((cell_far (p := ⟨gb569, _, none⟩) (fb_ hw563_0 GW569) _).trans (hHeld.1)))))))), ((cell_far (p := ⟨gb569, _, none⟩) (fb_ hw563_1 GW569) _).trans (((cell_far (p := ⟨gb569, _, none⟩) (fb_ hw563_1 GW569) _).trans (((cell_far (p := ⟨gb569, _, none⟩) (fb_ hw563_1 GW569) _).trans (((cell_far (p := ⟨gb569, _, none⟩) (fb_ hw563_1 GW569) _).trans (hHeld.2.1)))))))), ((cell_far (p := ⟨gb569, _, none⟩) (fb_ hw563_2 GW569) _).trans (((cell_far (p := ⟨gb569, _, none⟩) (fb_ hw563_2 GW569) _).trans (((cell_far (p := ⟨gb569, _, none⟩) (fb_ hw563_2 GW569) _).trans (((cell_far (p := ⟨gb569, _, none⟩) (fb_ hw563_2 GW569) _).trans (hHeld.2.2.1)))))))), ((cell_far (p := ⟨gb569, _, none⟩) (fb_ hw564_0 GW569) _).trans (((cell_far (p := ⟨gb569, _, none⟩) (fb_ hw564_0 GW569) _).trans (((cell_far (p := ⟨gb569, _, none⟩) (fb_ hw564_0 GW569) _).trans (((cell_far (p := ⟨gb569, _, none⟩) (fb_ hw564_0 GW569) _).trans (hHeld.2.2.2.1)))))))), ((cell_far (p := ⟨gb569, _, none⟩) (fb_ hw565_0 GW569) _).trans (((cell_far (p := ⟨gb569, _, none⟩) (fb_ hw565_0 GW569) _).trans (((cell_far (p := ⟨gb569, _, none⟩) (fb_ hw565_0 GW569) _).trans (((cell_far (p := ⟨gb569, _, none⟩) (fb_ hw565_0 GW569) _).trans (hHeld.2.2.2.2.1)))))))), ((cell_far (p := ⟨gb569, _, none⟩) (fb_ hw565_1 GW569) _).trans (((cell_far (p := ⟨gb569, _, none⟩) (fb_ hw565_1 GW569) _).trans (((cell_far (p := ⟨gb569, _, none⟩) (fb_ hw565_1 GW569) _).trans (((cell_far (p := ⟨gb569, _, none⟩) (fb_ hw565_1 GW569) _).trans (hHeld.2.2.2.2.2.1)))))))), ((cell_far (p := ⟨gb569, _, none⟩) (fb_ hw565_2 GW569) _).trans (((cell_far (p := ⟨gb569, _, none⟩) (fb_ hw565_2 GW569) _).trans (((cell_far (p := ⟨gb569, _, none⟩) (fb_ hw565_2 GW569) _).trans (((cell_far (p := ⟨gb569, _, none⟩) (fb_ hw565_2 GW569) _).trans (hHeld.2.2.2.2.2.2.1)))))))), ((cell_far (p := ⟨gb569, _, none⟩) (fb_ hw566_0 GW569) _).trans (((cell_far (p := ⟨gb569, _, none⟩) (fb_ hw566_0 GW569) _).trans (((cell_far (p := ⟨gb569, _, none⟩) (fb_ hw566_0 GW569) _).trans (((cell_far (p := ⟨gb569, _, none⟩) (fb_ hw566_0 GW569) _).trans (hHeld.2.2.2.2.2.2.2.1)))))))), ((cell_far (p := ⟨gb569, _, none⟩) (fb_ hw566_1 GW569) _).trans (((cell_far (p := ⟨gb569, _, none⟩) (fb_ hw566_1 GW569) _).trans (((cell_far (p := ⟨gb569, _, none⟩) (fb_ hw566_1 GW569) _).trans (((cell_far (p := ⟨gb569, _, none⟩) (fb_ hw566_1 GW569) _).trans (hHeld.2.2.2.2.2.2.2.2.1)))))))), ((cell_far (p := ⟨gb569, _, none⟩) (fb_ hw566_2 GW569) _).trans (((cell_far (p := ⟨gb569, _, none⟩) (fb_ hw566_2 GW569) _).trans (((cell_far (p := ⟨gb569, _, none⟩) (fb_ hw566_2 GW569) _).trans (((cell_far (p := ⟨gb569, _, none⟩) (fb_ hw566_2 GW569) _).trans (hHeld.2.2.2.2.2.2.2.2.2.1)))))))), ((cell_far (p := ⟨gb569, _, none⟩) (fb_ hw567_0 GW569) _).trans (((cell_far (p := ⟨gb569, _, none⟩) (fb_ hw567_0 GW569) _).trans (((cell_far (p := ⟨gb569, _, none⟩) (fb_ hw567_0 GW569) _).trans (((cell_far (p := ⟨gb569, _, none⟩) (fb_ hw567_0 GW569) _).trans (hHeld.2.2.2.2.2.2.2.2.2.2.1)))))))), ((cell_far (p := ⟨gb569, _, none⟩) (fb_ hw568_0 GW569) _).trans (((cell_far (p := ⟨gb569, _, none⟩) (fb_ hw568_0 GW569) _).trans (((cell_far (p := ⟨gb569, _, none⟩) (fb_ hw568_0 GW569) _).trans (((cell_far (p := ⟨gb569, _, none⟩) (fb_ hw568_0 GW569) _).trans (hHeld.2.2.2.2.2.2.2.2.2.2.2.1)))))))), ((cell_far (p := ⟨gb569, _, none⟩) (fb_ hw568_1 GW569) _).trans (((cell_far (p := ⟨gb569, _, none⟩) (fb_ hw568_1 GW569) _).trans (((cell_far (p := ⟨gb569, _, none⟩) (fb_ hw568_1 GW569) _).trans (((cell_far (p := ⟨gb569, _, none⟩) (fb_ hw568_1 GW569) _).trans (hHeld.2.2.2.2.2.2.2.2.2.2.2.2.1)))))))), ((cell_far (p := ⟨gb569, _, none⟩) (fb_ hw568_2 GW569) _).trans (((cell_far (p := ⟨gb569, _, none⟩) (fb_ hw568_2 GW569) _).trans (((cell_far (p := ⟨gb569, _, none⟩) (fb_ hw568_2 GW569) _).trans (((cell_far (p := ⟨gb569, _, none⟩) (fb_ hw568_2 GW569) _).trans (hHeld.2.2.2.2.2.2.2.2.2.2.2.2.2))))))))⟩ (fun hHeld => ?_)
            clear hK K
            refine done_ (done_of HT_.out (by kernel_rfl)) ?_
            try go_wp2
            go_loopg [32] k (fun kq v32 w' => ∃ (x32_1 : Int) (x570000_1 : Int) (x570002_1 : Int), v32 = .int .i64 x32_1 ∧ Aside0 (shape_Set_Around.l0 kq l0 (l0.length : Int) x32_1 x570000_1 ((rd_T118 l0 0).f0) x570002_1 ((rd_T118 l0 (ji5)).f1) = some (r1, r2, r3, r4)) ∧ Aside0 (kq ≤ k) ∧ Aside0 (w'.heap[gb562]? = some (.cells #[.int .i64 0, .int .i64 0, .int .i64 0, .int .i64 0] 44 (0, 0))) ∧ Aside0 (w'.heap[gb569]? = some (.cells #[.int .i64 x570000_1, .int .i64 ((rd_T118 l0 0).f0), .int .i64 x570002_1, .int .i64 ((rd_T118 l0 (ji5)).f1)] 44 (0, 0))) ∧ Aside0 (Below w.heap.size w w'))
            case atStart => exact ⟨(0), (rd ((rd_T118 l0 0).f2) 0), (rd ((rd_T118 l0 0).f2) 1), (by first | rfl | (simp; done) | (simp [*]; done)), H', ⟨Nat.le_refl _⟩, ⟨by (with_reducible repeat (first | refine blk_drewN ?_ _ | refine blk_drew ?_ | refine blk_alloc ?_ _)); refine blk_far ?_ NB562_569.out _; (with_reducible repeat (first | refine blk_drewN ?_ _ | refine blk_drew ?_ | refine blk_alloc ?_ _)); refine blk_far ?_ NB562_569.out _; (with_reducible repeat (first | refine blk_drewN ?_ _ | refine blk_drew ?_ | refine blk_alloc ?_ _)); refine blk_far ?_ NB562_569.out _; (with_reducible repeat (first | refine blk_drewN ?_ _ | refine blk_drew ?_ | refine blk_alloc ?_ _)); refine blk_far ?_ NB562_569.out _; (with_reducible repeat (first | refine blk_drewN ?_ _ | refine blk_drew ?_ | refine blk_alloc ?_ _)); exact BK562.out⟩, ⟨by (with_reducible repeat (first | refine blk_drewN ?_ _ | refine blk_drew ?_ | refine blk_alloc ?_ _)); refine blk_put (cs := #[.int .i64 (rd ((rd_T118 l0 0).f2) 0), .int .i64 ((rd_T118 l0 0).f0), .int .i64 (rd ((rd_T118 l0 0).f2) 1), .int .i64 0]) ?_ 3 _ rfl; (with_reducible repeat (first | refine blk_drewN ?_ _ | refine blk_drew ?_ | refine blk_alloc ?_ _)); refine blk_put (cs := #[.int .i64 (rd ((rd_T118 l0 0).f2) 0), .int .i64 ((rd_T118 l0 0).f0), .int .i64 0, .int .i64 0]) ?_ 2 _ rfl; (with_reducible repeat (first | refine blk_drewN ?_ _ | refine blk_drew ?_ | refine blk_alloc ?_ _)); refine blk_put (cs := #[.int .i64 (rd ((rd_T118 l0 0).f2) 0), .int .i64 0, .int .i64 0, .int .i64 0]) ?_ 1 _ rfl; (with_reducible repeat (first | refine blk_drewN ?_ _ | refine blk_drew ?_ | refine blk_alloc ?_ _)); refine blk_put (cs := #[.int .i64 0, .int .i64 0, .int .i64 0, .int .i64 0]) ?_ 0 _ rfl; (with_reducible repeat (first | refine blk_drewN ?_ _ | refine blk_drew ?_ | refine blk_alloc ?_ _)); exact BK569.out⟩, ⟨bl_⟩⟩
            case round =>
              clear H'
              try clear c1
              try clear c2
              try clear c2b0
              try clear c2b1
              try clear p2
              try clear c3
              try clear c3b0
              try clear c3b1
              try clear c4
              try clear c4b0
              try clear c4b1
              try clear c5
              try clear p5
              try clear q5
              try clear hx5
              try clear qi5
              try clear c6
              try clear c6b0
              try clear p6
              try clear c7
              try clear c7b0
              try clear c12
              try clear hx563_0
              try clear hx563_1
              try clear hx563_2
              try clear hx564_0
              try clear hx565_0
              try clear hx565_1
              try clear hx565_2
              try clear hx566_0
              try clear hx566_1
              try clear hx566_2
              try clear hx567_0
              try clear hx568_0
              try clear hx568_1
              try clear hx568_2
              try clear p563
              try clear p564
              try clear p565
              try clear p566
              try clear p567
              try clear p568
              try clear q563
              try clear q564
              try clear q565
              try clear q566
              try clear q567
              try clear q568
              obtain ⟨x32_1, x570000_1, x570002_1, rfl, HA, HK1, BK562, BK569, HB⟩ := hrel
              cases gk with
              | zero => exact absurd HA.out (by simp [shape_Set_Around.l0])
              | succ k1 =>
                have H := HA.out
                clear HA
                simp only [shape_Set_Around.l0] at H
                by_cases c15 : x32_1 < (l0.length : Int)
                · rw [if_pos c15] at H
                  have c15b0 : decide (x32_1 < (l0.length : Int)) = true := decide_eq_true c15
                  clear c15
                  by_cases c16 : 0 ≤ x32_1
                  · rw [if_pos c16] at H
                    have c16b0 : decide (0 ≤ x32_1) = true := decide_eq_true c16
                    clear c16
                    by_cases c17 : x32_1 < (l0.length : Int)
                    · rw [if_pos c17] at H
                      have c17b0 : decide (x32_1 < (l0.length : Int)) = true := decide_eq_true c17
                      clear c17
                      by_cases c18 : 0 < (((rd_T118 l0 x32_1).f2).length : Int)
                      · rw [if_pos c18] at H
                        have c18b0 : decide (0 < (((rd_T118 l0 x32_1).f2).length : Int)) = true := decide_eq_true c18
                        have c18b1 : decide (0 < ((rd_T118 l0 x32_1).f2).length) = true := decide_eq_true (by omega)
                        clear c18
                        obtain ⟨ji19, hji19⟩ : ∃ j_ : Int, (mn x570000_1 (rd ((rd_T118 l0 x32_1).f2) 0)) = j_ := ⟨_, rfl⟩
                        first | rw [hji19] at H | simp only [hji19] at H
                        have hji19_ : (if (rd ((rd_T118 l0 x32_1).f2) 0) < x570000_1 then (rd ((rd_T118 l0 x32_1).f2) 0) else x570000_1) = ji19 := hji19
                        obtain ⟨ji20, hji20⟩ : ∃ j_ : Int, (wrap64 ((((rd_T118 l0 x32_1).f2).length : Int) - 1)) = j_ := ⟨_, rfl⟩
                        first | rw [hji20] at H | simp only [hji20] at H
                        have hji20w : (IntKind.i64.wrap ((((rd_T118 l0 x32_1).f2).length : Int) - 1)) = ji20 := (i64_w _).trans hji20
                        by_cases c21 : 0 ≤ (ji20)
                        · rw [if_pos c21] at H
                          have c21b0 : decide (0 ≤ (ji20)) = true := decide_eq_true c21
                          clear c21
                          by_cases c22 : (ji20) < (((rd_T118 l0 x32_1).f2).length : Int)
                          · rw [if_pos c22] at H
                            have c22b0 : decide ((ji20) < (((rd_T118 l0 x32_1).f2).length : Int)) = true := decide_eq_true c22
                            clear c22
                            obtain ⟨ji23, hji23⟩ : ∃ j_ : Int, (mx x570002_1 (rd ((rd_T118 l0 x32_1).f2) (ji20))) = j_ := ⟨_, rfl⟩
                            first | rw [hji23] at H | simp only [hji23] at H
                            have hji23_ : (if x570002_1 < (rd ((rd_T118 l0 x32_1).f2) (ji20)) then (rd ((rd_T118 l0 x32_1).f2) (ji20)) else x570002_1) = ji23 := hji23
                            have H' := Aside0.mk H
                            clear H
                            have p570 : 0 ≤ (x32_1 : Int) := dt_
                            have q570 : x32_1 < (l0.length : Int) := dt_
                            obtain ⟨ad570, A570_2, c570_2, e570, hx570_0, hx570_1, hx570_2, hl570_2, hi570_2⟩ := at_T118 HR0.out x32_1 p570 q570
                            obtain rfl : ad563 = ad570 := (by injection e570)
                            replace hx570_0 := (HB.out.cell (World.block_lt_of_cell? w _ hx570_0)).trans hx570_0
                            replace hx570_1 := (HB.out.cell (World.block_lt_of_cell? w _ hx570_1)).trans hx570_1
                            replace hx570_2 := (HB.out.cell (World.block_lt_of_cell? w _ hx570_2)).trans hx570_2
                            have HR570_2 := Aside0.mk hi570_2
                            have HC570_2 := Aside0.mk hl570_2
                            clear hi570_2 hl570_2
                            replace p570 := eq_true p570
                            replace q570 := eq_true q570
                            try go_wp2_with (first | ((with_reducible refine gate_dst (N := 5) rfl ?_); refine bx_ (N := 5) (cs := #[.int .i64 0, .int .i64 0, .slice none 0 0]) (t := 118) ?_; intro gb571 hg w24 hbox hb; have BK571 := Aside0.mk (hbox); have GW571 := Aside0.mk ((gs_ hg : w.heap.size ≤ gb571)); have GE571 := Aside0.mk ((gs_ hg : w.heap.size ≤ gb571)); have NB562_571 := Aside0.mk ((nl_ hg BK562 : gb562 ≠ gb571)); have NB571_562 := Aside0.mk ((ng_ hg BK562 : gb571 ≠ gb562)); have NB569_571 := Aside0.mk ((nl_ hg BK569 : gb569 ≠ gb571)); have NB571_569 := Aside0.mk ((ng_ hg BK569 : gb571 ≠ gb569)); replace BK562 := bb_ BK562 hb; replace BK569 := bb_ BK569 hb; replace HB := Aside0.mk (below_step bl_ hb); clear hb hbox hg; have hnb25 := NB571_562.out; have hnc25 := NB562_571.out; have hnb26 := NB571_569.out; have hnc26 := NB569_571.out; obtain ⟨hcz27_0, hcz27_1, hcz27_2, hfz27_0, hfz27_1, hfz27_2⟩ := bc3_ BK571))
                            have n0_ : Aside0 ((((w24.setCell ⟨gb571, 0, none⟩ (.int .i64 ((rd_T118 l0 x32_1).f0))).setCell ⟨gb571, 1, none⟩ (.int .i64 ((rd_T118 l0 x32_1).f1))).setCell ⟨gb571, 2, none⟩ (.slice A570_2 ((rd_T118 l0 x32_1).f2).length c570_2)).heap[gb562]? = some (.cells #[.int .i64 0, .int .i64 0, .int .i64 0, .int .i64 0] 44 (0, 0))) := ⟨by (with_reducible repeat (first | refine blk_drewN ?_ _ | refine blk_drew ?_ | refine blk_alloc ?_ _)); refine blk_far ?_ NB562_571.out _; (with_reducible repeat (first | refine blk_drewN ?_ _ | refine blk_drew ?_ | refine blk_alloc ?_ _)); refine blk_far ?_ NB562_571.out _; (with_reducible repeat (first | refine blk_drewN ?_ _ | refine blk_drew ?_ | refine blk_alloc ?_ _)); refine blk_far ?_ NB562_571.out _; (with_reducible repeat (first | refine blk_drewN ?_ _ | refine blk_drew ?_ | refine blk_alloc ?_ _)); exact BK562.out⟩
                            have n1_ : Aside0 ((((w24.setCell ⟨gb571, 0, none⟩ (.int .i64 ((rd_T118 l0 x32_1).f0))).setCell ⟨gb571, 1, none⟩ (.int .i64 ((rd_T118 l0 x32_1).f1))).setCell ⟨gb571, 2, none⟩ (.slice A570_2 ((rd_T118 l0 x32_1).f2).length c570_2)).heap[gb569]? = some (.cells #[.int .i64 x570000_1, .int .i64 ((rd_T118 l0 0).f0), .int .i64 x570002_1, .int .i64 ((rd_T118 l0 (ji5)).f1)] 44 (0, 0))) := ⟨by (with_reducible repeat (first | refine blk_drewN ?_ _ | refine blk_drew ?_ | refine blk_alloc ?_ _)); refine blk_far ?_ NB569_571.out _; (with_reducible repeat (first | refine blk_drewN ?_ _ | refine blk_drew ?_ | refine blk_alloc ?_ _)); refine blk_far ?_ NB569_571.out _; (with_reducible repeat (first | refine blk_drewN ?_ _ | refine blk_drew ?_ | refine blk_alloc ?_ _)); refine blk_far ?_ NB569_571.out _; (with_reducible repeat (first | refine blk_drewN ?_ _ | refine blk_drew ?_ | refine blk_alloc ?_ _)); exact BK569.out⟩
                            have n2_ : Aside0 ((((w24.setCell ⟨gb571, 0, none⟩ (.int .i64 ((rd_T118 l0 x32_1).f0))).setCell ⟨gb571, 1, none⟩ (.int .i64 ((rd_T118 l0 x32_1).f1))).setCell ⟨gb571, 2, none⟩ (.slice A570_2 ((rd_T118 l0 x32_1).f2).length c570_2)).heap[gb571]? = some (.cells #[.int .i64 ((rd_T118 l0 x32_1).f0), .int .i64 ((rd_T118 l0 x32_1).f1), .slice A570_2 ((rd_T118 l0 x32_1).f2).length c570_2] 118 (0, 0))) := ⟨by (with_reducible repeat (first | refine blk_drewN ?_ _ | refine blk_drew ?_ | refine blk_alloc ?_ _)); refine blk_put (cs := #[.int .i64 ((rd_T118 l0 x32_1).f0), .int .i64 ((rd_T118 l0 x32_1).f1), .slice none 0 0]) ?_ 2 _ rfl; (with_reducible repeat (first | refine blk_drewN ?_ _ | refine blk_drew ?_ | refine blk_alloc ?_ _)); refine blk_put (cs := #[.int .i64 ((rd_T118 l0 x32_1).f0), .int .i64 0, .slice none 0 0]) ?_ 1 _ rfl; (with_reducible repeat (first | refine blk_drewN ?_ _ | refine blk_drew ?_ | refine blk_alloc ?_ _)); refine blk_put (cs := #[.int .i64 0, .int .i64 0, .slice none 0 0]) ?_ 0 _ rfl; (with_reducible repeat (first | refine blk_drewN ?_ _ | refine blk_drew ?_ | refine blk_alloc ?_ _)); exact BK571.out⟩
                            have n3_ : Aside0 (Below w.heap.size w (((w24.setCell ⟨gb571, 0, none⟩ (.int .i64 ((rd_T118 l0 x32_1).f0))).setCell ⟨gb571, 1, none⟩ (.int .i64 ((rd_T118 l0 x32_1).f1))).setCell ⟨gb571, 2, none⟩ (.slice A570_2 ((rd_T118 l0 x32_1).f2).length c570_2))) := ⟨bl_⟩
                            (try clear BK562)
                            (try clear BK569)
                            (try clear BK571)
                            (try clear HB)
                            generalize (((w24.setCell ⟨gb571, 0, none⟩ (.int .i64 ((rd_T118 l0 x32_1).f0))).setCell ⟨gb571, 1, none⟩ (.int .i64 ((rd_T118 l0 x32_1).f1))).setCell ⟨gb571, 2, none⟩ (.slice A570_2 ((rd_T118 l0 x32_1).f2).length c570_2)) = w28 at n0_ n1_ n2_ n3_ ⊢
                            have BK562 := n0_
                            have BK569 := n1_
                            have BK571 := n2_
                            have HB := n3_
                            clear n0_ n1_ n2_ n3_
                            replace BK562 := Aside0.mk (blk_drew BK562.out)
                            replace BK569 := Aside0.mk (blk_drew BK569.out)
                            replace BK571 := Aside0.mk (blk_drew BK571.out)
                            replace HB := Aside0.mk (below_drew1 HB.out)
                            have p572 : 0 ≤ (0 : Int) := (by omega)
                            have q572 : 0 < (((rd_T118 l0 x32_1).f2).length : Int) := dt_
                            obtain ⟨ad572, e572, hx572_0⟩ := Kd.at_int HR570_2.out 0 p572 q572
                            have hw572_0 := hx572_0
                            (try rw [show ((0 : Int)).toNat = 0 from rfl] at hw572_0)
                            (try rw [show 0 * 1 = 0 from rfl] at hw572_0)
                            (try rw [Addr.add_zero'] at hw572_0)
                            cases e572
                            have qi572 : (0 < ((rd_T118 l0 x32_1).f2).length) = True := eq_true (by omega)
                            (try rw [show ((0 : Int)).toNat = 0 from rfl] at hx572_0)
                            (try rw [Addr.add_zero'] at hx572_0)
                            replace hx572_0 := (HB.out.cell (World.block_lt_of_cell? w _ hx572_0)).trans hx572_0
                            replace p572 := eq_true p572
                            replace q572 := eq_true q572
                            have p573 : 0 ≤ ((ji20) : Int) := dt_
                            have q573 : (ji20) < (((rd_T118 l0 x32_1).f2).length : Int) := dt_
                            obtain ⟨ad573, e573, hx573_0⟩ := Kd.at_int HR570_2.out (ji20) p573 q573
                            have hw573_0 := hx573_0
                            obtain rfl : ad572 = ad573 := (by injection e573)
                            replace hx573_0 := (HB.out.cell (World.block_lt_of_cell? w _ hx573_0)).trans hx573_0
                            replace p573 := eq_true p573
                            replace q573 := eq_true q573
                            refine start_ (n := 22) (S := fun w' => w'.cell? ⟨gb571, 0, none⟩ = some (.int .i64 ((rd_T118 l0 x32_1).f0)) ∧ w'.cell? ⟨gb571, 1, none⟩ = some (.int .i64 ((rd_T118 l0 x32_1).f1)) ∧ w'.cell? ⟨gb571, 2, none⟩ = some (.slice (some ad572) ((rd_T118 l0 x32_1).f2).length c570_2) ∧ w'.cell? ad572 = some (.int .i64 (rd ((rd_T118 l0 x32_1).f2) 0)) ∧ w'.cell? (ad572.add ((ji20)).toNat) = some (.int .i64 (rd ((rd_T118 l0 x32_1).f2) (ji20)))) (ds := []) (bv 22 0) (by kernel_rfl) rfl rfl ⟨(blk_cell BK571.out 0).trans rfl, (blk_cell BK571.out 1).trans rfl, (blk_cell BK571.out 2).trans rfl, ((HB.out.cell (World.block_lt_of_cell? w _ hw572_0)).trans hw572_0), ((HB.out.cell (World.block_lt_of_cell? w _ hw573_0)).trans hw573_0)⟩ (fun hHeld => ?_); refine with_tabW shape_Set_Around.tab5 shape_Set_Around.bits5 (fun HT_ HW_ => ?_)
                            generalize w28.drew = w29 at BK562 BK569 BK571 HB hx572_0 hx573_0 hHeld ⊢
                            refine pu_ 0 36 (bv 22 1) ?_
                            refine pu_ 2 38 (bv 22 5) ?_
                            refine pu_ 7 43 (bv 22 133) ?_
                            refine pu_ 9 45 (bv 22 645) ?_
                            refine pu_ 11 47 (bv 22 2693) ?_
                            refine tk_ 3 39 (bv 22 2701) hHeld ?_
                            refine pu_ 4 40 (bv 22 2717) ?_
                            refine tk_ 5 41 (bv 22 2749) hHeld ?_
                            refine tk_ 10 46 (bv 22 3773) hHeld ?_
                            refine tk_ 12 48 (bv 22 7869) hHeld ?_
                            refine pu_ 13 49 (bv 22 16061) ?_
                            refine pu_ 14 50 (bv 22 32445) ?_
                            refine pu_ 15 51 (bv 22 65213) ?_
                            refine tk_ 16 52 (bv 22 130749) hHeld ?_
                            refine two_ (i := 1) (j := 8) (Ni := some 37) (Nj := some 44) (bv 22 130751) (bv 22 131005) rfl rfl rfl rfl (two_of HT_.out (by kernel_rfl)) (by decide) (by decide) (fun K hK => ?_) (fun K hK => ?_)
                            · skip
                              have hs1_ : w29.cell? ⟨gb569, 0, none⟩ = some (.int .i64 x570000_1) := (blk_cell BK569.out 0).trans rfl
                              refine value_ (w1 := ?_) (v := ?_) (by rfl) rfl ?_ ?_
                              rotate_left 2
                              · go_simp
                                constructor
                                · rfl
                                · rfl
                              refine hK.out _ _ hHeld (fun hHeld => ?_)
                              clear hK K
                              refine norm_ (a' := ?_) ?_ ?_
                              rotate_left
                              · show Act.put _ (some 37) _ = _
                                simp only [Act.put, List.setIfInBounds_toArray, List.set_cons_zero, List.set_cons_succ, i64_w, i32_w]
                                rfl
                              refine pu_ 6 42 (bv 22 130815) ?_
                              refine one_ (i := 8) (N := some 44) (bv 22 131071) rfl rfl (one_of HT_.out (by kernel_rfl)) (by decide) (fun K hK => ?_)
                              have hs8_ : w29.cell? ⟨gb569, 2, none⟩ = some (.int .i64 x570002_1) := (blk_cell BK569.out 2).trans rfl
                              refine value_ (w1 := ?_) (v := ?_) (by rfl) rfl ?_ ?_
                              rotate_left 2
                              · go_simp
                                constructor
                                · rfl
                                · rfl
                              refine hK.out _ _ hHeld (fun hHeld => ?_)
                              clear hK K
                              refine norm_ (a' := ?_) ?_ ?_
                              rotate_left
                              · show Act.put _ (some 44) _ = _
                                simp only [Act.put, List.setIfInBounds_toArray, List.set_cons_zero, List.set_cons_succ, i64_w, i32_w]
                                rfl
                              refine pu_ 17 53 (bv 22 262143) ?_
                              refine pu_ 18 54 (bv 22 524287) ?_
                              refine one_ (i := 19) (N := none) (bv 22 1048575) rfl rfl (one_of HT_.out (by kernel_rfl)) (by decide) (fun K hK => ?_)
                              have hs30 : w29.cell? ⟨gb569, 0, none⟩ = some (.int .i64 x570000_1) := (blk_cell BK569.out 0).trans rfl
                              have hfs30 := blk_frozen BK569.out 0
                              have hns30_0 := NB562_569.out
                              have hns30_2 := NB571_569.out
                              have hms30_0 := NB569_562.out
                              have hms30_2 := NB569_571.out
                              refine skip_ (w1 := ?_) (by rfl) rfl ?_ ?_
                              rotate_left
                              · go_simp
                                rfl
                              refine hK.out _ _ ⟨(cell_far (p := ⟨gb569, _, none⟩) (show _ ≠ _ from NB571_569.out) _).trans hHeld.1, (cell_far (p := ⟨gb569, _, none⟩) (show _ ≠ _ from NB571_569.out) _).trans hHeld.2.1, (cell_far (p := ⟨gb569, _, none⟩) (show _ ≠ _ from NB571_569.out) _).trans hHeld.2.2.1, (cell_far (p := ⟨gb569, _, none⟩) (fb_ hw572_0 GW569) _).trans hHeld.2.2.2.1, (cell_far (p := ⟨gb569, _, none⟩) (fb_ hw573_0 GW569) _).trans hHeld.2.2.2.2⟩ (fun hHeld => ?_)
                              clear hK K
                              refine pu_ 20 55 (bv 22 2097151) ?_
                              refine one_ (i := 21) (N := none) (bv 22 4194303) rfl rfl (one_of HT_.out (by kernel_rfl)) (by decide) (fun K hK => ?_)
                              have hs31 : w29.cell? ⟨gb569, 2, none⟩ = some (.int .i64 x570002_1) := (blk_cell BK569.out 2).trans rfl
                              have hfs31 := blk_frozen BK569.out 2
                              have hns31_0 := NB562_569.out
                              have hns31_2 := NB571_569.out
                              have hms31_0 := NB569_562.out
                              have hms31_2 := NB569_571.out
                              refine skip_ (w1 := ?_) (by rfl) rfl ?_ ?_
                              rotate_left
                              · go_simp
                                rfl
                              refine hK.out _ _ ⟨(cell_far (p := ⟨gb569, _, none⟩) (show _ ≠ _ from NB571_569.out) _).trans hHeld.1, (cell_far (p := ⟨gb569, _, none⟩) (show _ ≠ _ from NB571_569.out) _).trans hHeld.2.1, (cell_far (p := ⟨gb569, _, none⟩) (show _ ≠ _ from NB571_569.out) _).trans hHeld.2.2.1, (cell_far (p := ⟨gb569, _, none⟩) (fb_ hw572_0 GW569) _).trans hHeld.2.2.2.1, (cell_far (p := ⟨gb569, _, none⟩) (fb_ hw573_0 GW569) _).trans hHeld.2.2.2.2⟩ (fun hHeld => ?_)
                              clear hK K
                              refine done_ (done_of HT_.out (by kernel_rfl)) ?_
                              try go_wp2
                              go_roundg k1
                              case measure => have := HK1.out; omega
                              case rel => exact ⟨(wrap64 (x32_1 + 1)), (ji19), (ji23), (by first | rfl | (simp; done) | (simp [*]; done)), H', ⟨by have := HK1.out; omega⟩, ⟨by (with_reducible repeat (first | refine blk_drewN ?_ _ | refine blk_drew ?_ | refine blk_alloc ?_ _)); refine blk_far ?_ NB562_569.out _; (with_reducible repeat (first | refine blk_drewN ?_ _ | refine blk_drew ?_ | refine blk_alloc ?_ _)); refine blk_far ?_ NB562_569.out _; (with_reducible repeat (first | refine blk_drewN ?_ _ | refine blk_drew ?_ | refine blk_alloc ?_ _)); exact BK562.out⟩, ⟨by (with_reducible repeat (first | refine blk_drewN ?_ _ | refine blk_drew ?_ | refine blk_alloc ?_ _)); refine blk_put (cs := #[.int .i64 ji19, .int .i64 ((rd_T118 l0 0).f0), .int .i64 x570002_1, .int .i64 ((rd_T118 l0 (ji5)).f1)]) ?_ 2 _ rfl; (with_reducible repeat (first | refine blk_drewN ?_ _ | refine blk_drew ?_ | refine blk_alloc ?_ _)); refine blk_put (cs := #[.int .i64 x570000_1, .int .i64 ((rd_T118 l0 0).f0), .int .i64 x570002_1, .int .i64 ((rd_T118 l0 (ji5)).f1)]) ?_ 0 _ rfl; (with_reducible repeat (first | refine blk_drewN ?_ _ | refine blk_drew ?_ | refine blk_alloc ?_ _)); exact BK569.out⟩, ⟨bl_⟩⟩
                            · skip
                              have hs8_ : w29.cell? ⟨gb569, 2, none⟩ = some (.int .i64 x570002_1) := (blk_cell BK569.out 2).trans rfl
                              refine value_ (w1 := ?_) (v := ?_) (by rfl) rfl ?_ ?_
                              rotate_left 2
                              · go_simp
                                constructor
                                · rfl
                                · rfl
                              refine hK.out _ _ hHeld (fun hHeld => ?_)
                              clear hK K
                              refine norm_ (a' := ?_) ?_ ?_
                              rotate_left
                              · show Act.put _ (some 44) _ = _
                                simp only [Act.put, List.setIfInBounds_toArray, List.set_cons_zero, List.set_cons_succ, i64_w, i32_w]
                                rfl
                              refine pu_ 17 53 (bv 22 262077) ?_
                              refine one_ (i := 1) (N := some 37) (bv 22 262079) rfl rfl (one_of HT_.out (by kernel_rfl)) (by decide) (fun K hK => ?_)
                              have hs1_ : w29.cell? ⟨gb569, 0, none⟩ = some (.int .i64 x570000_1) := (blk_cell BK569.out 0).trans rfl
                              refine value_ (w1 := ?_) (v := ?_) (by rfl) rfl ?_ ?_
                              rotate_left 2
                              · go_simp
                                constructor
                                · rfl
                                · rfl
                              refine hK.out _ _ hHeld (fun hHeld => ?_)
                              clear hK K
                              refine norm_ (a' := ?_) ?_ ?_
                              rotate_left
                              · show Act.put _ (some 37) _ = _
                                simp only [Act.put, List.setIfInBounds_toArray, List.set_cons_zero, List.set_cons_succ, i64_w, i32_w]
                                rfl
                              refine pu_ 6 42 (bv 22 262143) ?_
                              refine pu_ 18 54 (bv 22 524287) ?_
                              refine one_ (i := 19) (N := none) (bv 22 1048575) rfl rfl (one_of HT_.out (by kernel_rfl)) (by decide) (fun K hK => ?_)
                              have hs30 : w29.cell? ⟨gb569, 0, none⟩ = some (.int .i64 x570000_1) := (blk_cell BK569.out 0).trans rfl
                              have hfs30 := blk_frozen BK569.out 0
                              have hns30_0 := NB562_569.out
                              have hns30_2 := NB571_569.out
                              have hms30_0 := NB569_562.out
                              have hms30_2 := NB569_571.out
                              refine skip_ (w1 := ?_) (by rfl) rfl ?_ ?_
                              rotate_left
                              · go_simp
                                rfl
                              refine hK.out _ _ ⟨(cell_far (p := ⟨gb569, _, none⟩) (show _ ≠ _ from NB571_569.out) _).trans hHeld.1, (cell_far (p := ⟨gb569, _, none⟩) (show _ ≠ _ from NB571_569.out) _).trans hHeld.2.1, (cell_far (p := ⟨gb569, _, none⟩) (show _ ≠ _ from NB571_569.out) _).trans hHeld.2.2.1, (cell_far (p := ⟨gb569, _, none⟩) (fb_ hw572_0 GW569) _).trans hHeld.2.2.2.1, (cell_far (p := ⟨gb569, _, none⟩) (fb_ hw573_0 GW569) _).trans hHeld.2.2.2.2⟩ (fun hHeld => ?_)
                              clear hK K
                              refine pu_ 20 55 (bv 22 2097151) ?_
                              refine one_ (i := 21) (N := none) (bv 22 4194303) rfl rfl (one_of HT_.out (by kernel_rfl)) (by decide) (fun K hK => ?_)
                              have hs31 : w29.cell? ⟨gb569, 2, none⟩ = some (.int .i64 x570002_1) := (blk_cell BK569.out 2).trans rfl
                              have hfs31 := blk_frozen BK569.out 2
                              have hns31_0 := NB562_569.out
                              have hns31_2 := NB571_569.out
                              have hms31_0 := NB569_562.out
                              have hms31_2 := NB569_571.out
                              refine skip_ (w1 := ?_) (by rfl) rfl ?_ ?_
                              rotate_left
                              · go_simp
                                rfl
                              refine hK.out _ _ ⟨(cell_far (p := ⟨gb569, _, none⟩) (show _ ≠ _ from NB571_569.out) _).trans hHeld.1, (cell_far (p := ⟨gb569, _, none⟩) (show _ ≠ _ from NB571_569.out) _).trans hHeld.2.1, (cell_far (p := ⟨gb569, _, none⟩) (show _ ≠ _ from NB571_569.out) _).trans hHeld.2.2.1, (cell_far (p := ⟨gb569, _, none⟩) (fb_ hw572_0 GW569) _).trans hHeld.2.2.2.1, (cell_far (p := ⟨gb569, _, none⟩) (fb_ hw573_0 GW569) _).trans hHeld.2.2.2.2⟩ (fun hHeld => ?_)
                              clear hK K
                              refine done_ (done_of HT_.out (by kernel_rfl)) ?_
                              try go_wp2
                              go_roundg k1
                              case measure => have := HK1.out; omega
                              case rel => exact ⟨(wrap64 (x32_1 + 1)), (ji19), (ji23), (by first | rfl | (simp; done) | (simp [*]; done)), H', ⟨by have := HK1.out; omega⟩, ⟨by (with_reducible repeat (first | refine blk_drewN ?_ _ | refine blk_drew ?_ | refine blk_alloc ?_ _)); refine blk_far ?_ NB562_569.out _; (with_reducible repeat (first | refine blk_drewN ?_ _ | refine blk_drew ?_ | refine blk_alloc ?_ _)); refine blk_far ?_ NB562_569.out _; (with_reducible repeat (first | refine blk_drewN ?_ _ | refine blk_drew ?_ | refine blk_alloc ?_ _)); exact BK562.out⟩, ⟨by (with_reducible repeat (first | refine blk_drewN ?_ _ | refine blk_drew ?_ | refine blk_alloc ?_ _)); refine blk_put (cs := #[.int .i64 ji19, .int .i64 ((rd_T118 l0 0).f0), .int .i64 x570002_1, .int .i64 ((rd_T118 l0 (ji5)).f1)]) ?_ 2 _ rfl; (with_reducible repeat (first | refine blk_drewN ?_ _ | refine blk_drew ?_ | refine blk_alloc ?_ _)); refine blk_put (cs := #[.int .i64 x570000_1, .int .i64 ((rd_T118 l0 0).f0), .int .i64 x570002_1, .int .i64 ((rd_T118 l0 (ji5)).f1)]) ?_ 0 _ rfl; (with_reducible repeat (first | refine blk_drewN ?_ _ | refine blk_drew ?_ | refine blk_alloc ?_ _)); exact BK569.out⟩, ⟨bl_⟩⟩
                          · rw [if_neg c22] at H
                            exact absurd H (by simp)
                        · rw [if_neg c21] at H
                          exact absurd H (by simp)
                      · rw [if_neg c18] at H
                        exact absurd H (by simp)
                    · rw [if_neg c17] at H
                      exact absurd H (by simp)
                  · rw [if_neg c16] at H
                    exact absurd H (by simp)
                · rw [if_neg c15] at H
                  have c15b0 : decide (x32_1 < (l0.length : Int)) = false := decide_eq_false c15
                  clear c15
                  simp only [Option.some.injEq, Prod.mk.injEq] at H
                  obtain ⟨rfl, rfl, rfl, rfl⟩ := H
                  have hnb32 := NB569_562.out
                  have hnc32 := NB562_569.out
                  obtain ⟨hcz33_0, hcz33_1, hcz33_2, hcz33_3, hfz33_0, hfz33_1, hfz33_2, hfz33_3⟩ := bc4_ BK569
                  obtain ⟨hcz34_0, hcz34_1, hcz34_2, hcz34_3, hfz34_0, hfz34_1, hfz34_2, hfz34_3⟩ := bc4_ BK562
                  go_wp2
                  refine bodyPost_ret (results_cell_row rfl _ _ gb562 44 #[.int .i64 x570000_1, .int .i64 ((rd_T118 l0 0).f0), .int .i64 x570002_1, .int .i64 ((rd_T118 l0 (ji5)).f1)] (0, 0) _ rfl (by (with_reducible repeat (first | refine blk_drewN ?_ _ | refine blk_drew ?_ | refine blk_alloc ?_ _)); refine blk_put (cs := #[.int .i64 x570000_1, .int .i64 ((rd_T118 l0 0).f0), .int .i64 x570002_1, .int .i64 0]) ?_ 3 _ rfl; (with_reducible repeat (first | refine blk_drewN ?_ _ | refine blk_drew ?_ | refine blk_alloc ?_ _)); refine blk_put (cs := #[.int .i64 x570000_1, .int .i64 ((rd_T118 l0 0).f0), .int .i64 0, .int .i64 0]) ?_ 2 _ rfl; (with_reducible repeat (first | refine blk_drewN ?_ _ | refine blk_drew ?_ | refine blk_alloc ?_ _)); refine blk_put (cs := #[.int .i64 x570000_1, .int .i64 0, .int .i64 0, .int .i64 0]) ?_ 1 _ rfl; (with_reducible repeat (first | refine blk_drewN ?_ _ | refine blk_drew ?_ | refine blk_alloc ?_ _)); refine blk_put (cs := #[.int .i64 0, .int .i64 0, .int .i64 0, .int .i64 0]) ?_ 0 _ rfl; (with_reducible repeat (first | refine blk_drewN ?_ _ | refine blk_drew ?_ | refine blk_alloc ?_ _)); exact BK562.out) Tryz.underlying44 rfl (by kernel_rfl)) rfl ?_
                  exact ⟨by first | rfl | (simp [errW_none, errW_some] <;> rfl) | (simp only [← hji5]; first | rfl | (simp [errW_none, errW_some] <;> rfl)) | (simp [*, errW_none, errW_some] <;> rfl), bl_⟩
          · rw [if_neg c7] at H
            exact absurd H (by simp)
        · rw [if_neg c6] at H
          exact absurd H (by simp)
      · rw [if_neg c4] at H
        exact absurd H (by simp)
    · rw [if_neg c3] at H
      exact absurd H (by simp)
  · rw [if_neg c2] at H
    exact absurd H (by simp)
end Go.Proofs.YthkeonbmgcphkaaGreatDoor.PT
