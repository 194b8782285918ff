-- Written by this session's own programs (wip/tools).
import Derived.Test.YthkeonbmgcphkaaGreatDoorDPTx0
import Derived.Test.YthkeonbmgcphkaaGreatDoorDPTx4
import Derived.Test.YthkeonbmgcphkaaGreatDoorDPTx6
import Derived.Test.YthkeonbmgcphkaaGreatDoorDPTx8
import Derived.Test.YthkeonbmgcphkaaGreatDoorDPTx10
import Derived.Test.YthkeonbmgcphkaaGreatDoorDPTx11
namespace Go.Proofs.YthkeonbmgcphkaaGreatDoor.PT
open Go.RowKit Go.Proofs.YthkeonbmgcphkaaGreatDoorW.PrintWords Go.Proofs.YthkeonbmgcphkaaGreatDoorW.PrintLast Go.Proofs.YthkeonbmgcphkaaGreatDoorW.PrintMore
attribute [local go_sem] max2_int min2_int max_two min_two max_three min_three max_four min_four
set_option linter.unusedVariables false
set_option linter.unusedSimpArgs false
def shape_Merge_with_shape_Set_Less_1.drop (y : Int) (a : List S118) : List S118 := a.dropWhile fun b => decide (b.f1 ≤ y)
def shape_Merge_with_shape_Set_Less_1.l0 : Nat → List S118 → List S118 → Int → Int → List S118 → Option (List S118)
  | 0, _, _, _, _, _ => none
  | k + 1, a, b, y, e, out =>
    if y < e then
      ((shape_Set_at.f (shape_Merge_with_shape_Set_Less_1.drop y a) y e).bind fun p => (shape_Set_at.f (shape_Merge_with_shape_Set_Less_1.drop y b) y e).bind fun q =>
        (shape_line_with_shape_Set_Less_1.f k p.1 q.1).bind fun xs => (shape_Set_push.f k out y (mn p.2 q.2) xs).bind fun out1 =>
          shape_Merge_with_shape_Set_Less_1.l0 k (shape_Merge_with_shape_Set_Less_1.drop y a) (shape_Merge_with_shape_Set_Less_1.drop y b) (mn p.2 q.2) e out1)
    else some out
def shape_Merge_with_shape_Set_Less_1.lo (a b : List S118) : Int := if a.length = 0 then (rd_T118 b 0).f0 else if b.length = 0 then (rd_T118 a 0).f0 else mn (rd_T118 a 0).f0 (rd_T118 b 0).f0
def shape_Merge_with_shape_Set_Less_1.top (a : List S118) : Int := (rd_T118 a ((a.length - 1 : Nat) : Int)).f1
def shape_Merge_with_shape_Set_Less_1.hi (a b : List S118) : Int := if a.length = 0 then shape_Merge_with_shape_Set_Less_1.top b else if b.length = 0 then shape_Merge_with_shape_Set_Less_1.top a else mx (shape_Merge_with_shape_Set_Less_1.top a) (shape_Merge_with_shape_Set_Less_1.top b)
def shape_Merge_with_shape_Set_Less_1.f (k : Nat) (l0 : List (S118)) (l1 : List (S118)) : Option (List (S118)) := if l0.length + l1.length = 0 then some [] else shape_Merge_with_shape_Set_Less_1.l0 k l0 l1 (shape_Merge_with_shape_Set_Less_1.lo l0 l1) (shape_Merge_with_shape_Set_Less_1.hi l0 l1) []
def shape_Merge_with_shape_Set_Less_1.loI (a b : List S118) (i : Nat) : Int := if i = 0 then 0 else if i = 1 then (if a.length = 0 then 0 else (rd_T118 a 0).f0) else shape_Merge_with_shape_Set_Less_1.lo a b
def shape_Merge_with_shape_Set_Less_1.hiI (a b : List S118) (i : Nat) : Int := if i = 0 then 0 else if i = 1 then (if a.length = 0 then 0 else shape_Merge_with_shape_Set_Less_1.top a) else shape_Merge_with_shape_Set_Less_1.hi a b
theorem shape_Merge_with_shape_Set_Less_1.hi1 {a : List S118} {n : Nat} (h : a.length = n + 1) : shape_Merge_with_shape_Set_Less_1.top a = (rd_T118 a (n : Int)).f1 := by unfold shape_Merge_with_shape_Set_Less_1.top; rw [h]; rfl
theorem shape_Merge_with_shape_Set_Less_1.e1 {a b : List S118} (h : ¬ a.length = 0) : shape_Merge_with_shape_Set_Less_1.loI a b 1 = (rd_T118 a 0).f0 ∧ shape_Merge_with_shape_Set_Less_1.hiI a b 1 = shape_Merge_with_shape_Set_Less_1.top a := by
  unfold shape_Merge_with_shape_Set_Less_1.loI shape_Merge_with_shape_Set_Less_1.hiI
  rw [if_neg (by decide), if_pos rfl, if_neg h, if_neg (by decide), if_pos rfl, if_neg h]
  exact ⟨rfl, rfl⟩
theorem shape_Merge_with_shape_Set_Less_1.e2 {a b : List S118} (h : ¬ a.length = 0) (hb : ¬ b.length = 0) : shape_Merge_with_shape_Set_Less_1.loI a b 2 = mn (shape_Merge_with_shape_Set_Less_1.loI a b 1) (rd_T118 b 0).f0 ∧ shape_Merge_with_shape_Set_Less_1.hiI a b 2 = mx (shape_Merge_with_shape_Set_Less_1.hiI a b 1) (shape_Merge_with_shape_Set_Less_1.top b) := by
  rw [(shape_Merge_with_shape_Set_Less_1.e1 h).1, (shape_Merge_with_shape_Set_Less_1.e1 h).2]
  unfold shape_Merge_with_shape_Set_Less_1.loI shape_Merge_with_shape_Set_Less_1.hiI shape_Merge_with_shape_Set_Less_1.lo shape_Merge_with_shape_Set_Less_1.hi
  rw [if_neg (by decide), if_neg (by decide), if_neg h, if_neg hb, if_neg (by decide), if_neg (by decide), if_neg h, if_neg hb]
  exact ⟨rfl, rfl⟩
theorem shape_Merge_with_shape_Set_Less_1.e3 {a b : List S118} (h : a.length = 0) : shape_Merge_with_shape_Set_Less_1.loI a b 2 = (rd_T118 b 0).f0 ∧ shape_Merge_with_shape_Set_Less_1.hiI a b 2 = shape_Merge_with_shape_Set_Less_1.top b := by
  unfold shape_Merge_with_shape_Set_Less_1.loI shape_Merge_with_shape_Set_Less_1.hiI shape_Merge_with_shape_Set_Less_1.lo shape_Merge_with_shape_Set_Less_1.hi
  rw [if_neg (by decide), if_neg (by decide), if_pos h, if_neg (by decide), if_neg (by decide), if_pos h]
  exact ⟨rfl, rfl⟩
theorem shape_Merge_with_shape_Set_Less_1.heap : Kd.Heap k118 := Kd.heap_iso _ (Kd.heap_pair (Kd.heap_int _) (Kd.heap_pair (Kd.heap_int _) (Kd.heap_slice _ (Kd.heap_int _))))
set_option maxHeartbeats 8000000 in
set_option maxRecDepth 100000 in
theorem shape_Merge_with_shape_Set_Less_1.calls (k : Nat) (A0 : Option Addr) (c0 : Nat) (l0 : List (S118)) (A1 : Option Addr) (c1 : Nat) (l1 : List (S118)) (r : List (S118)) (w : World) (hG : Tryz.GW w) (hr0 : Kd.C k118 w A0 l0.length l0) (hc0 : l0.length ≤ c0) (hr1 : Kd.C k118 w A1 l1.length l1) (hc1 : l1.length ≤ c1) (h : shape_Merge_with_shape_Set_Less_1.f k l0 l1 = some r) :
    Calls Tryz.prog 96 #[.slice A0 l0.length c0, .slice A1 l1.length c1, .func (.func 97) #[] #[]] w fun e w' => ∃ v0_ : Value, e = .returned (v0_) ∧ Kd.S k118 118 w' w.heap.size (fun _ => True) v0_ r ∧ Below w.heap.size w w' := by
  have HG := Aside0.mk hG
  have HR0 := Aside0.mk hr0
  have HC0 := Aside0.mk hc0
  have HR1 := Aside0.mk hr1
  have HC1 := Aside0.mk hc1
  have hl0 : l0.length ≤ 9223372036854775807 := hr0.2.1
  have hl1 : l1.length ≤ 9223372036854775807 := hr1.2.1
  clear hG hr0 hc0 hr1 hc1
  unfold shape_Merge_with_shape_Set_Less_1.f at h
  by_cases h0 : l0.length + l1.length = 0
  · rw [if_pos h0] at h
    obtain rfl := Option.some.inj h
    obtain rfl := List.length_eq_zero_iff.1 (show l0.length = 0 by omega)
    obtain rfl := List.length_eq_zero_iff.1 (show l1.length = 0 by omega)
    go_enter Tryz.func96, Tryz.ntmps96
    go_wp2
    go_ret
    exact ⟨_, rfl, Kd.S_nil _ _ _ _ _, Below.refl _ _⟩
  · rw [if_neg h0] at h
    have H := Aside0.mk h
    clear h
    have z0 : (wrap64 ((l0.length : Int) + (l1.length : Int)) == 0) = false := beq_eq_false_iff_ne.2 (by unfold wrap64; omega)
    go_enter Tryz.func96, Tryz.ntmps96
    go_wp2
    have K0 : Aside0 ((w.alloc (.cells #[.slice A0 l0.length c0, .slice A1 l1.length c1] 83 (0, 0))).heap[w.heap.size]? = some (.cells #[.slice A0 l0.length c0, .slice A1 l1.length c1] 83 (0, 0))) := ⟨by show (w.heap.push _)[w.heap.size]? = _; exact Array.getElem?_push_size⟩
    have B0 : Aside0 (Below w.heap.size w (w.alloc (.cells #[.slice A0 l0.length c0, .slice A1 l1.length c1] 83 (0, 0)))) := ⟨below_alloc (Below.refl _ _) _⟩
    generalize w.alloc (.cells #[.slice A0 l0.length c0, .slice A1 l1.length c1] 83 (0, 0)) = w1 at K0 B0 ⊢
    go_loopg [27, 8, 9] 3 (fun gg v27 v8 v9 wr => ∃ i : Nat, v27 = .int .i64 i ∧ i ≤ 2 ∧ 3 - i ≤ gg ∧ v8 = .int .i64 (shape_Merge_with_shape_Set_Less_1.loI l0 l1 i) ∧ v9 = .int .i64 (shape_Merge_with_shape_Set_Less_1.hiI l0 l1 i) ∧ Aside0 (wr.heap[w.heap.size]? = some (.cells #[.slice A0 l0.length c0, .slice A1 l1.length c1] 83 (0, 0))) ∧ Aside0 (Below w.heap.size w wr))
    case atStart => exact ⟨0, rfl, by omega, by omega, rfl, rfl, K0, B0⟩
    case round =>
      clear K0 B0
      obtain ⟨i, rfl, hi, hg, rfl, rfl, K0, B0⟩ := hrel
      rcases (show i = 0 ∨ i = 1 ∨ i = 2 by omega) with rfl | rfl | rfl
      · skip
        have hcz0 : wr.cell? ⟨w.heap.size, 0, none⟩ = some (.slice A0 l0.length c0) := (blk_cell K0.out 0).trans rfl
        have hcz1 : wr.cell? ⟨w.heap.size, 1, none⟩ = some (.slice A1 l1.length c1) := (blk_cell K0.out 1).trans rfl
        by_cases hz : l0.length = 0
        · have d1 : decide (0 < l0.length) = false := decide_eq_false (by omega)
          have d1' : decide ((0 : Int) < (l0.length : Int)) = false := decide_eq_false (by omega)
          have HZ := Aside0.mk hz
          clear hz
          go_wp2
          go_roundg (2 - 0)
          case measure => omega
          case rel => exact ⟨1, by go_num, by omega, by omega, by unfold shape_Merge_with_shape_Set_Less_1.loI; simp [HZ.out], by unfold shape_Merge_with_shape_Set_Less_1.hiI; simp [HZ.out], ⟨by repeat (first | exact K0.out | refine blk_drewN ?_ _ | refine blk_drew ?_)⟩, ⟨by repeat (first | exact B0.out | apply pw_below_drewN | apply below_drew1)⟩⟩
        · have d1 : decide (0 < l0.length) = true := decide_eq_true (by omega)
          have d1' : decide ((0 : Int) < (l0.length : Int)) = true := decide_eq_true (by omega)
          obtain ⟨n, hn⟩ : ∃ n, Aside0 (l0.length = n + 1) := ⟨l0.length - 1, ⟨by omega⟩⟩
          obtain ⟨ad, A2, c2, eA, x0, _, _, _, _⟩ := at_T118 HR0.out ((0 : Nat) : Int) (by omega) (by omega)
          subst eA
          obtain ⟨ad', A3, c3, eA, _, y1, _, _, _⟩ := at_T118 HR0.out (n : Int) (by omega) (by have := hn.out; omega)
          obtain rfl : ad = ad' := by injection eA
          rw [Int.toNat_natCast] at x0 y1
          rw [Nat.zero_mul] at x0
          replace x0 := (B0.out.cell (World.block_lt_of_cell? w _ x0)).trans x0
          replace y1 := (B0.out.cell (World.block_lt_of_cell? w _ y1)).trans y1
          obtain ⟨lo_, hlo⟩ : ∃ v, Aside0 ((rd_T118 l0 ((0 : Nat) : Int)).f0 = v) := ⟨_, ⟨rfl⟩⟩
          obtain ⟨hi_, hhi⟩ : ∃ v, Aside0 ((rd_T118 l0 (n : Int)).f1 = v) := ⟨_, ⟨rfl⟩⟩
          rw [hlo.out] at x0
          rw [hhi.out] at y1
          have m1 : (l0.length : Int) - 1 = (n : Int) := by have := hn.out; omega
          have m2 : IntKind.i64.wrap (n : Int) = (n : Int) := by rw [IntKind.wrap_i64]; have := hn.out; omega
          have p1 : (0 ≤ (n : Int)) = True := eq_true (by omega)
          have q1 : ((n : Int) < (l0.length : Int)) = True := eq_true (by have := hn.out; omega)
          have q0 : (0 < l0.length) = True := eq_true (by omega)
          have q0' : ((0 : Int) < (l0.length : Int)) = True := eq_true (by omega)
          have hu83 := Tryz.underlying83
          have hu118 := Tryz.underlying118
          go_wp2
          have x0d : wr.cell? ad = some (.int .i64 lo_) := by have h := x0; rw [Addr.add_zero'] at h; exact h
          go_quiet (fail)
          go_wp2
          have E1 := Aside0.mk ((shape_Merge_with_shape_Set_Less_1.e1 (a := l0) (b := l1) hz).1.trans hlo.out)
          have E2 := Aside0.mk ((shape_Merge_with_shape_Set_Less_1.e1 (a := l0) (b := l1) hz).2.trans ((shape_Merge_with_shape_Set_Less_1.hi1 hn.out).trans hhi.out))
          repeat (go_quiet (fail); try go_wp2)
          all_goals (go_roundg 2; (case measure => omega); (case rel => exact ⟨1, by go_num, by omega, by omega, by first | (rw [E1.out]; done) | (rw [E1.out]; congr 1; omega), by first | (rw [E2.out]; done) | (rw [E2.out]; congr 1; omega), ⟨by repeat (first | exact K0.out | refine blk_drewN ?_ _ | refine blk_drew ?_)⟩, ⟨by repeat (first | exact B0.out | apply pw_below_drewN | apply below_drew1)⟩⟩))
      · skip
        have hcz0 : wr.cell? ⟨w.heap.size, 0, none⟩ = some (.slice A0 l0.length c0) := (blk_cell K0.out 0).trans rfl
        have hcz1 : wr.cell? ⟨w.heap.size, 1, none⟩ = some (.slice A1 l1.length c1) := (blk_cell K0.out 1).trans rfl
        by_cases hz : l1.length = 0
        · have d1 : decide (0 < l1.length) = false := decide_eq_false (by omega)
          have d1' : decide ((0 : Int) < (l1.length : Int)) = false := decide_eq_false (by omega)
          have HZ := Aside0.mk hz
          clear hz
          go_wp2
          go_roundg (2 - 1)
          case measure => omega
          case rel => exact ⟨2, by go_num, by omega, by omega, by unfold shape_Merge_with_shape_Set_Less_1.loI shape_Merge_with_shape_Set_Less_1.lo; rw [if_neg (by decide : ¬ (1 : Nat) = 0), if_pos rfl, if_neg (by decide : ¬ (2 : Nat) = 0), if_neg (by decide : ¬ (2 : Nat) = 1)]; have := HZ.out; by_cases h : l0.length = 0; exact absurd (by omega) h0; rw [if_neg h, if_neg h, if_pos this], by unfold shape_Merge_with_shape_Set_Less_1.hiI shape_Merge_with_shape_Set_Less_1.hi; rw [if_neg (by decide : ¬ (1 : Nat) = 0), if_pos rfl, if_neg (by decide : ¬ (2 : Nat) = 0), if_neg (by decide : ¬ (2 : Nat) = 1)]; have := HZ.out; by_cases h : l0.length = 0; exact absurd (by omega) h0; rw [if_neg h, if_neg h, if_pos this], ⟨by repeat (first | exact K0.out | refine blk_drewN ?_ _ | refine blk_drew ?_)⟩, ⟨by repeat (first | exact B0.out | apply pw_below_drewN | apply below_drew1)⟩⟩
        · have d1 : decide (0 < l1.length) = true := decide_eq_true (by omega)
          have d1' : decide ((0 : Int) < (l1.length : Int)) = true := decide_eq_true (by omega)
          obtain ⟨n, hn⟩ : ∃ n, Aside0 (l1.length = n + 1) := ⟨l1.length - 1, ⟨by omega⟩⟩
          obtain ⟨ad, A2, c2, eA, x0, _, _, _, _⟩ := at_T118 HR1.out ((0 : Nat) : Int) (by omega) (by omega)
          subst eA
          obtain ⟨ad', A3, c3, eA, _, y1, _, _, _⟩ := at_T118 HR1.out (n : Int) (by omega) (by have := hn.out; omega)
          obtain rfl : ad = ad' := by injection eA
          rw [Int.toNat_natCast] at x0 y1
          rw [Nat.zero_mul] at x0
          replace x0 := (B0.out.cell (World.block_lt_of_cell? w _ x0)).trans x0
          replace y1 := (B0.out.cell (World.block_lt_of_cell? w _ y1)).trans y1
          obtain ⟨lo_, hlo⟩ : ∃ v, Aside0 ((rd_T118 l1 ((0 : Nat) : Int)).f0 = v) := ⟨_, ⟨rfl⟩⟩
          obtain ⟨hi_, hhi⟩ : ∃ v, Aside0 ((rd_T118 l1 (n : Int)).f1 = v) := ⟨_, ⟨rfl⟩⟩
          rw [hlo.out] at x0
          rw [hhi.out] at y1
          have m1 : (l1.length : Int) - 1 = (n : Int) := by have := hn.out; omega
          have m2 : IntKind.i64.wrap (n : Int) = (n : Int) := by rw [IntKind.wrap_i64]; have := hn.out; omega
          have p1 : (0 ≤ (n : Int)) = True := eq_true (by omega)
          have q1 : ((n : Int) < (l1.length : Int)) = True := eq_true (by have := hn.out; omega)
          have q0 : (0 < l1.length) = True := eq_true (by omega)
          have q0' : ((0 : Int) < (l1.length : Int)) = True := eq_true (by omega)
          have hu83 := Tryz.underlying83
          have hu118 := Tryz.underlying118
          by_cases hA : l0.length = 0
          · have zA : ((l0.length : Int) == 0) = true := beq_iff_eq.2 (by omega)
            have zA' : (l0.length == 0) = true := beq_iff_eq.2 hA
            have HA := Aside0.mk hA
            clear hA
            go_wp2
            have x0d : wr.cell? ad = some (.int .i64 lo_) := by have h := x0; rw [Addr.add_zero'] at h; exact h
            have E1 := Aside0.mk ((shape_Merge_with_shape_Set_Less_1.e3 (a := l0) (b := l1) HA.out).1.trans hlo.out)
            have E2 := Aside0.mk ((shape_Merge_with_shape_Set_Less_1.e3 (a := l0) (b := l1) HA.out).2.trans ((shape_Merge_with_shape_Set_Less_1.hi1 hn.out).trans hhi.out))
            repeat (go_quiet (fail); try go_wp2)
            all_goals (go_roundg 1; (case measure => omega); (case rel => exact ⟨2, by go_num, by omega, by omega, by first | (rw [E1.out]; done) | (rw [E1.out]; congr 1; omega), by first | (rw [E2.out]; done) | (rw [E2.out]; congr 1; omega), ⟨by repeat (first | exact K0.out | refine blk_drewN ?_ _ | refine blk_drew ?_)⟩, ⟨by repeat (first | exact B0.out | apply pw_below_drewN | apply below_drew1)⟩⟩))
          · have zA : ((l0.length : Int) == 0) = false := beq_eq_false_iff_ne.2 (by omega)
            have zA' : (l0.length == 0) = false := beq_eq_false_iff_ne.2 hA
            have HA := Aside0.mk hA
            clear hA
            go_wp2
            have x0d : wr.cell? ad = some (.int .i64 lo_) := by have h := x0; rw [Addr.add_zero'] at h; exact h
            have E1 := Aside0.mk ((shape_Merge_with_shape_Set_Less_1.e2 HA.out hz).1.trans (congrArg _ hlo.out))
            have E2 := Aside0.mk ((shape_Merge_with_shape_Set_Less_1.e2 HA.out hz).2.trans (congrArg _ ((shape_Merge_with_shape_Set_Less_1.hi1 hn.out).trans hhi.out)))
            repeat (go_quiet (fail); try go_wp2)
            all_goals (go_roundg 1; (case measure => omega); (case rel => exact ⟨2, by go_num, by omega, by omega, by rw [E1.out]; unfold mn; split <;> first | rfl | (exfalso; omega) | (congr 1; omega), by rw [E2.out]; unfold mx; split <;> first | rfl | (exfalso; omega) | (congr 1; omega), ⟨by repeat (first | exact K0.out | refine blk_drewN ?_ _ | refine blk_drew ?_)⟩, ⟨by repeat (first | exact B0.out | apply pw_below_drewN | apply below_drew1)⟩⟩))
      · clear K0
        have eLo : shape_Merge_with_shape_Set_Less_1.loI l0 l1 2 = shape_Merge_with_shape_Set_Less_1.lo l0 l1 := by unfold shape_Merge_with_shape_Set_Less_1.loI; rw [if_neg (by decide), if_neg (by decide)]
        have eHi : shape_Merge_with_shape_Set_Less_1.hiI l0 l1 2 = shape_Merge_with_shape_Set_Less_1.hi l0 l1 := by unfold shape_Merge_with_shape_Set_Less_1.hiI; rw [if_neg (by decide), if_neg (by decide)]
        rw [eLo, eHi]
        clear eLo eHi hi hg hl0 hl1 h0 z0
        obtain ⟨e, he⟩ : ∃ e, shape_Merge_with_shape_Set_Less_1.hi l0 l1 = e := ⟨_, rfl⟩
        obtain ⟨y0, hy0⟩ : ∃ y0, shape_Merge_with_shape_Set_Less_1.lo l0 l1 = y0 := ⟨_, rfl⟩
        rw [he, hy0] at H ⊢
        clear he hy0
        go_wp2
        go_loopg [0, 1, 7, 8] k (fun gg v0 v1 v7 v8 wm => ∃ (a b out : List S118) (Aa Ab : Option Addr) (ca cb : Nat) (y : Int), v0 = .slice Aa a.length ca ∧ v1 = .slice Ab b.length cb ∧ v8 = .int .i64 y ∧ Aside0 (shape_Merge_with_shape_Set_Less_1.l0 gg a b y e out = some r) ∧
          Aside0 (Kd.C k118 w Aa a.length a) ∧ Aside0 (a.length ≤ ca) ∧ Aside0 (Kd.C k118 w Ab b.length b) ∧ Aside0 (b.length ≤ cb) ∧ Aside0 (Kd.S k118 118 wm w.heap.size (fun _ => True) v7 out) ∧ Aside0 (Below w.heap.size w wm))
        case atStart => exact ⟨l0, l1, [], A0, A1, c0, c1, y0, rfl, rfl, rfl, H, HR0, HC0, HR1, HC1, ⟨Kd.S_nil _ _ _ _ _⟩, ⟨by first | exact B0.out | exact pw_below_drewN B0.out _ | exact below_drew1 B0.out⟩⟩
        case round =>
          clear H HR0 HC0 HR1 HC1 B0
          obtain ⟨a, b, out, Aa, Ab, ca, cb, y, rfl, rfl, rfl, HA, HRa, HCa, HRb, HCb, HS, HB⟩ := hrel
          cases gk with
          | zero => exact absurd HA.out (by simp [shape_Merge_with_shape_Set_Less_1.l0])
          | succ k1 =>
            have H := HA.out
            clear HA
            rw [shape_Merge_with_shape_Set_Less_1.l0] at H
            by_cases hlt : y < e
            · rw [if_pos hlt] at H
              have d1 : decide (y < e) = true := decide_eq_true hlt
              obtain ⟨p, hp, H1⟩ := Option.bind_eq_some_iff.1 H
              obtain ⟨q, hq, H2⟩ := Option.bind_eq_some_iff.1 H1
              obtain ⟨xs, hxs, H3⟩ := Option.bind_eq_some_iff.1 H2
              obtain ⟨out1, ho1, H4⟩ := Option.bind_eq_some_iff.1 H3
              have HP := Aside0.mk hp
              have HQ := Aside0.mk hq
              have HX := Aside0.mk hxs
              have HO := Aside0.mk ho1
              have HN := Aside0.mk H4
              clear hp hq hxs ho1 H H1 H2 H3 H4 hlt
              go_upto_block 4 with (fail)
              clear d1
              go_cut [0] (fun v0 wc => ∃ (A' : Option Addr) (c' : Nat), v0 = .slice A' (shape_Merge_with_shape_Set_Less_1.drop y a).length c' ∧ Aside0 (Kd.C k118 w A' (shape_Merge_with_shape_Set_Less_1.drop y a).length (shape_Merge_with_shape_Set_Less_1.drop y a)) ∧ Aside0 ((shape_Merge_with_shape_Set_Less_1.drop y a).length ≤ c') ∧ Aside0 (wr = wc))
              case first =>
                go_wp2
                go_loopg [0] a.length (fun gg v0 wi => ∃ (p_ a' : List S118) (A' : Option Addr) (c' : Nat), Aside0 (shape_Merge_with_shape_Set_Less_1.drop y a = shape_Merge_with_shape_Set_Less_1.drop y a') ∧ a'.length ≤ gg ∧ v0 = .slice A' a'.length c' ∧ Aside0 (Kd.C k118 w A' a'.length a') ∧ Aside0 (a'.length ≤ c') ∧ Aside0 (wi = wr))
                case atStart => exact ⟨[], a, Aa, ca, ⟨rfl⟩, Nat.le_refl _, rfl, HRa, HCa, ⟨rfl⟩⟩
                case round =>
                  obtain ⟨p_, a', A', c', hpa, hgg, rfl, HR', HC', hw⟩ := hrel
                  obtain rfl := hw.out
                  cases a' with
                  | nil =>
                    have d1 : decide (0 < ([] : List S118).length) = false := rfl
                    have d1' : decide ((0 : Int) < (([] : List S118).length : Int)) = false := rfl
                    go_wp2
                    repeat (go_quiet (fail); try go_wp2)
                    go_meet
                    exact ⟨A', c', by rw [hpa.out]; rfl, by rw [hpa.out]; exact HR', by rw [hpa.out]; exact HC', ⟨rfl⟩⟩
                  | cons b_ r_ =>
                    obtain ⟨ad, A2, c2, eA, _, x1, _, _, _⟩ := at_T118 HR'.out ((0 : Nat) : Int) (by omega) (by simp <;> omega)
                    subst eA
                    rw [Int.toNat_natCast, Nat.zero_mul, Addr.add_zero', show rd_T118 (b_ :: r_) ((0 : Nat) : Int) = b_ from rfl] at x1
                    replace x1 := (HB.out.cell (World.block_lt_of_cell? w _ x1)).trans x1
                    obtain ⟨n, hn⟩ : ∃ n, Aside0 ((b_ :: r_).length = n) := ⟨_, ⟨rfl⟩⟩
                    have hnr : Aside0 (n = r_.length + 1) := ⟨hn.out ▸ List.length_cons⟩
                    have h0n : 0 < n := by have := hnr.out; omega
                    have hgn : n ≤ gk := by have := hn.out; omega
                    have d1 : decide (0 < n) = true := decide_eq_true h0n
                    have d1' : decide ((0 : Int) < (n : Int)) = true := decide_eq_true (by omega)
                    have q0 : (0 < n) = True := eq_true h0n
                    have q0' : ((0 : Int) < (n : Int)) = True := eq_true (by omega)
                    obtain ⟨f_, hf⟩ : ∃ f_, Aside0 (b_.f1 = f_) := ⟨_, ⟨rfl⟩⟩
                    rw [hf.out] at x1
                    clear hgg
                    rw [hn.out] at HC' ⊢
                    have hu83 := Tryz.underlying83
                    have hu118 := Tryz.underlying118
                    by_cases hq_ : f_ ≤ y
                    · have d2 : decide (f_ ≤ y) = true := decide_eq_true hq_
                      obtain ⟨i0, hi0, _, hsz, _⟩ := info_parts info118
                      have hcut := cut_from (P := Tryz.prog) 83 118 .i64 Tryz.underlying83 hi0 3 hsz (some ad) n c' 1 (by omega) (by omega)
                      have HD := Aside0.mk (Kd.C_drop (m := 1) (c := c') HR'.out (by simp) (by rw [hn.out]; exact HC'.out))
                      obtain ⟨A3, hA3⟩ : ∃ A3, Aside0 ((if c' = (1 : Int).toNat then some ad else (some ad : Option Addr).map (·.add ((1 : Int).toNat * 3))) = A3) := ⟨_, ⟨rfl⟩⟩
                      obtain ⟨n3, hn3⟩ : ∃ n3, Aside0 (n - (1 : Int).toNat = n3) := ⟨_, ⟨rfl⟩⟩
                      obtain ⟨c3, hc3⟩ : ∃ c3, Aside0 (c' - (1 : Int).toNat = c3) := ⟨_, ⟨rfl⟩⟩
                      rw [hA3.out, hn3.out, hc3.out] at hcut
                      have en : Aside0 (r_.length = n3) := ⟨by have := hnr.out; have := hn3.out; rw [show (1 : Int).toNat = 1 from rfl] at this; omega⟩
                      clear hi0 hsz
                      go_wp2
                      repeat (go_quiet (fail); try go_wp2)
                      go_roundg n3
                      case measure => have := en.out; have := hnr.out; omega
                      case rel => exact ⟨[], r_, A3, c3, ⟨by rw [hpa.out]; unfold shape_Merge_with_shape_Set_Less_1.drop; rw [List.dropWhile_cons, if_pos (by rw [hf.out]; exact d2)]⟩, by have := en.out; omega, by rw [en.out], ⟨by rw [← hA3.out]; exact HD.out⟩, ⟨by have h1_ := HC'.out; have h3_ := hnr.out; have h4_ := en.out; have := hc3.out; rw [show (1 : Int).toNat = 1 from rfl] at this; omega⟩, ⟨rfl⟩⟩
                    · have d2 : decide (f_ ≤ y) = false := decide_eq_false hq_
                      go_wp2
                      repeat (go_quiet (fail); try go_wp2)
                      go_meet
                      have e_ : Aside0 (shape_Merge_with_shape_Set_Less_1.drop y a = b_ :: r_) := ⟨by rw [hpa.out]; unfold shape_Merge_with_shape_Set_Less_1.drop; rw [List.dropWhile_cons, if_neg (by rw [hf.out, d2]; decide)]⟩
                      exact ⟨some ad, c', by rw [e_.out, hn.out], by rw [e_.out]; exact HR', by rw [e_.out, hn.out]; exact HC', ⟨rfl⟩⟩
              case rest =>
                clear HRa HCa
                obtain ⟨Aa', ca', rfl, HRa, HCa, hw_⟩ := hcut
                obtain rfl := hw_.out
                clear hw_
                go_upto_block 6 with (fail)
                go_cut [1] (fun v1 wc => ∃ (A' : Option Addr) (c' : Nat), v1 = .slice A' (shape_Merge_with_shape_Set_Less_1.drop y b).length c' ∧ Aside0 (Kd.C k118 w A' (shape_Merge_with_shape_Set_Less_1.drop y b).length (shape_Merge_with_shape_Set_Less_1.drop y b)) ∧ Aside0 ((shape_Merge_with_shape_Set_Less_1.drop y b).length ≤ c') ∧ Aside0 (wr = wc))
                case first =>
                  go_wp2
                  go_loopg [1] b.length (fun gg v1 wi => ∃ (p_ a' : List S118) (A' : Option Addr) (c' : Nat), Aside0 (shape_Merge_with_shape_Set_Less_1.drop y b = shape_Merge_with_shape_Set_Less_1.drop y a') ∧ a'.length ≤ gg ∧ v1 = .slice A' a'.length c' ∧ Aside0 (Kd.C k118 w A' a'.length a') ∧ Aside0 (a'.length ≤ c') ∧ Aside0 (wi = wr))
                  case atStart => exact ⟨[], b, Ab, cb, ⟨rfl⟩, Nat.le_refl _, rfl, HRb, HCb, ⟨rfl⟩⟩
                  case round =>
                    obtain ⟨p_, a', A', c', hpa, hgg, rfl, HR', HC', hw⟩ := hrel
                    obtain rfl := hw.out
                    cases a' with
                    | nil =>
                      have d1 : decide (0 < ([] : List S118).length) = false := rfl
                      have d1' : decide ((0 : Int) < (([] : List S118).length : Int)) = false := rfl
                      go_wp2
                      repeat (go_quiet (fail); try go_wp2)
                      go_meet
                      exact ⟨A', c', by rw [hpa.out]; rfl, by rw [hpa.out]; exact HR', by rw [hpa.out]; exact HC', ⟨rfl⟩⟩
                    | cons b_ r_ =>
                      obtain ⟨ad, A2, c2, eA, _, x1, _, _, _⟩ := at_T118 HR'.out ((0 : Nat) : Int) (by omega) (by simp <;> omega)
                      subst eA
                      rw [Int.toNat_natCast, Nat.zero_mul, Addr.add_zero', show rd_T118 (b_ :: r_) ((0 : Nat) : Int) = b_ from rfl] at x1
                      replace x1 := (HB.out.cell (World.block_lt_of_cell? w _ x1)).trans x1
                      obtain ⟨n, hn⟩ : ∃ n, Aside0 ((b_ :: r_).length = n) := ⟨_, ⟨rfl⟩⟩
                      have hnr : Aside0 (n = r_.length + 1) := ⟨hn.out ▸ List.length_cons⟩
                      have h0n : 0 < n := by have := hnr.out; omega
                      have hgn : n ≤ gk := by have := hn.out; omega
                      have d1 : decide (0 < n) = true := decide_eq_true h0n
                      have d1' : decide ((0 : Int) < (n : Int)) = true := decide_eq_true (by omega)
                      have q0 : (0 < n) = True := eq_true h0n
                      have q0' : ((0 : Int) < (n : Int)) = True := eq_true (by omega)
                      obtain ⟨f_, hf⟩ : ∃ f_, Aside0 (b_.f1 = f_) := ⟨_, ⟨rfl⟩⟩
                      rw [hf.out] at x1
                      clear hgg
                      rw [hn.out] at HC' ⊢
                      have hu83 := Tryz.underlying83
                      have hu118 := Tryz.underlying118
                      by_cases hq_ : f_ ≤ y
                      · have d2 : decide (f_ ≤ y) = true := decide_eq_true hq_
                        obtain ⟨i0, hi0, _, hsz, _⟩ := info_parts info118
                        have hcut := cut_from (P := Tryz.prog) 83 118 .i64 Tryz.underlying83 hi0 3 hsz (some ad) n c' 1 (by omega) (by omega)
                        have HD := Aside0.mk (Kd.C_drop (m := 1) (c := c') HR'.out (by simp) (by rw [hn.out]; exact HC'.out))
                        obtain ⟨A3, hA3⟩ : ∃ A3, Aside0 ((if c' = (1 : Int).toNat then some ad else (some ad : Option Addr).map (·.add ((1 : Int).toNat * 3))) = A3) := ⟨_, ⟨rfl⟩⟩
                        obtain ⟨n3, hn3⟩ : ∃ n3, Aside0 (n - (1 : Int).toNat = n3) := ⟨_, ⟨rfl⟩⟩
                        obtain ⟨c3, hc3⟩ : ∃ c3, Aside0 (c' - (1 : Int).toNat = c3) := ⟨_, ⟨rfl⟩⟩
                        rw [hA3.out, hn3.out, hc3.out] at hcut
                        have en : Aside0 (r_.length = n3) := ⟨by have := hnr.out; have := hn3.out; rw [show (1 : Int).toNat = 1 from rfl] at this; omega⟩
                        clear hi0 hsz
                        go_wp2
                        repeat (go_quiet (fail); try go_wp2)
                        go_roundg n3
                        case measure => have := en.out; have := hnr.out; omega
                        case rel => exact ⟨[], r_, A3, c3, ⟨by rw [hpa.out]; unfold shape_Merge_with_shape_Set_Less_1.drop; rw [List.dropWhile_cons, if_pos (by rw [hf.out]; exact d2)]⟩, by have := en.out; omega, by rw [en.out], ⟨by rw [← hA3.out]; exact HD.out⟩, ⟨by have h1_ := HC'.out; have h3_ := hnr.out; have h4_ := en.out; have := hc3.out; rw [show (1 : Int).toNat = 1 from rfl] at this; omega⟩, ⟨rfl⟩⟩
                      · have d2 : decide (f_ ≤ y) = false := decide_eq_false hq_
                        go_wp2
                        repeat (go_quiet (fail); try go_wp2)
                        go_meet
                        have e_ : Aside0 (shape_Merge_with_shape_Set_Less_1.drop y b = b_ :: r_) := ⟨by rw [hpa.out]; unfold shape_Merge_with_shape_Set_Less_1.drop; rw [List.dropWhile_cons, if_neg (by rw [hf.out, d2]; decide)]⟩
                        exact ⟨some ad, c', by rw [e_.out, hn.out], by rw [e_.out]; exact HR', by rw [e_.out, hn.out]; exact HC', ⟨rfl⟩⟩
                case rest =>
                  clear HRb HCb
                  obtain ⟨Ab', cb', rfl, HRb, HCb, hw_⟩ := hcut
                  obtain rfl := hw_.out
                  clear hw_
                  obtain ⟨a', ha'⟩ : ∃ a', shape_Merge_with_shape_Set_Less_1.drop y a = a' := ⟨_, rfl⟩
                  obtain ⟨b', hb'⟩ : ∃ b', shape_Merge_with_shape_Set_Less_1.drop y b = b' := ⟨_, rfl⟩
                  rw [ha'] at HRa HCa HP HN ⊢
                  rw [hb'] at HRb HCb HQ HN ⊢
                  clear ha' hb'
                  obtain ⟨xa, na⟩ := p
                  obtain ⟨xb, nb⟩ := q
                  have VA := Aside0.mk (show Kd.V k118 118 wr wr.heap.size (fun k => k < wr.heap.size) (.slice Aa' a'.length ca') a' from Kd.V_mk HCa.out (Kd.C_F shape_Merge_with_shape_Set_Less_1.heap (Kd.C_below HRa.out HB.out)))
                  go_wp2_with (first
                    | (go_at_call 131; refine (shape_Set_at.calls (fun k => k < wr.heap.size) Aa' ca' a' y e xa na _ (gw_ HG.out) VA.out HP.out).mono ?_; rintro e_ w1 ⟨vA, rfl, hVA, hb1⟩; obtain ⟨AX, cX, rfl, hcX, hFX⟩ := hVA; have XA := Aside0.mk (show Kd.V (Kd.int .i64) 3 w1 w1.heap.size _ (.slice AX xa.length cX) xa from Kd.V_mk hcX hFX); have HB1 := Aside0.mk (below_step HB.out hb1); have HS1 := Aside0.mk (Kd.S_below HS.out hb1); have VB := Aside0.mk (show Kd.V k118 118 w1 w1.heap.size (fun k => k < w1.heap.size) (.slice Ab' b'.length cb') b' from Kd.V_mk HCb.out (Kd.C_F shape_Merge_with_shape_Set_Less_1.heap (Kd.C_below HRb.out HB1.out))); clear hcX hFX hb1 VA HS)
                    | (go_at_call 131; refine (shape_Set_at.calls (fun k => k < w1.heap.size) Ab' cb' b' y e xb nb _ (Tryz.gw_below HG.out HB1.out) VB.out HQ.out).mono ?_; rintro e_ w2 ⟨vB, rfl, hVB, hb2⟩; obtain ⟨BX, dX, rfl, hdX, hGX⟩ := hVB; have XB := Aside0.mk (show Kd.V (Kd.int .i64) 3 w2 w2.heap.size _ (.slice BX xb.length dX) xb from Kd.V_mk hdX hGX); have XA2 := Aside0.mk (show Kd.V (Kd.int .i64) 3 w2 w2.heap.size _ (.slice AX xa.length cX) xa from Kd.V_below XA.out hb2); have HB2 := Aside0.mk (below_step HB1.out hb2); have HS2 := Aside0.mk (Kd.S_below HS1.out hb2); clear hdX hGX hb2 VB XA HS1)
                    | (go_at_call 132; refine (shape_line_with_shape_Set_Less_1.calls k1 _ AX cX xa _ BX dX xb xs _ (Tryz.gw_below HG.out HB2.out) XA2.out XB.out HX.out).mono ?_; rintro e_ w3 ⟨vX, rfl, hRX, hb3⟩; obtain ⟨LX, eX, rfl⟩ := Kd.R_slice hRX; have HR3 := Aside0.mk (Kd.R_lower hRX HB2.out.size); have HB3 := Aside0.mk (below_step HB2.out hb3); have HS3 := Aside0.mk (Kd.S_below (Kd.S_bound HS2.out) hb3); clear hRX hb3 XA2 XB HS2)
                    | (go_at_call 93; refine (shape_Set_push.calls k1 (fun k => k < w2.heap.size) _ out y (mn na nb) (fun k => w2.heap.size ≤ k) (.slice LX xs.length eX) xs out1 w _ HG.out HB3.out (Kd.S_mono HS3.out (fun k hk => hk.2.2.1)) (fun k h1 h2 => Nat.lt_irrefl _ (Nat.lt_of_lt_of_le h1 h2)) HR3.out (fun k h1 h2 => Nat.lt_irrefl _ (Nat.lt_of_lt_of_le h2 h1)) HO.out).mono ?_; rintro e_ w4 ⟨vO, rfl, hSO, hb4, hK4⟩; have HS4 := Aside0.mk (Kd.S_mono hSO (fun _ _ => trivial)); have HB4 := Aside0.mk hb4; clear hSO hb4 hK4 HS3 HR3))
                  all_goals (go_roundg k1; (case measure => omega); (case rel => exact ⟨a', b', out1, Aa', Ab', ca', cb', mn na nb, rfl, rfl, by unfold mn; split <;> first | rfl | (exfalso; omega) | (congr 1; omega), HN, HRa, HCa, HRb, HCb, HS4, HB4⟩))
            · rw [if_neg hlt] at H
              have d1 : decide (y < e) = false := decide_eq_false hlt
              obtain rfl := Option.some.inj H
              go_wp2
              go_ret
              exact ⟨_, rfl, by first | exact HS.out | exact Kd.S_drewN HS.out _ | exact Kd.S_drew HS.out, by first | exact HB.out | exact pw_below_drewN HB.out _ | exact below_drew1 HB.out⟩
def shape_Set_Less.f (k : Nat) (l0 : List (S118)) (l1 : List (S118)) : Option ((List (S118))) := (shape_Merge_with_shape_Set_Less_1.f k l0 l1).bind fun t226 => (some t226)
set_option maxHeartbeats 8000000 in
set_option maxRecDepth 100000 in
theorem shape_Set_Less.calls (k : Nat) (A0 : Option Addr) (c0 : Nat) (l0 : List (S118)) (A1 : Option Addr) (c1 : Nat) (l1 : List (S118)) (r : List (S118)) (w : World) (hG : Tryz.GW w) (hr0 : Kd.C k118 w A0 l0.length l0) (hc0 : l0.length ≤ c0) (hr1 : Kd.C k118 w A1 l1.length l1) (hc1 : l1.length ≤ c1) (h : shape_Set_Less.f k l0 l1 = some r) :
    Calls Tryz.prog 54 #[.slice A0 l0.length c0, .slice A1 l1.length c1] w fun e w' => ∃ v0_ : Value, e = .returned (v0_) ∧ Kd.S k118 118 w' w.heap.size (fun _ => True) v0_ r ∧ Below w.heap.size w w' := by
  have HR0 := Aside0.mk hr0
  have HC0 := Aside0.mk hc0
  clear hr0 hc0
  have HR1 := Aside0.mk hr1
  have HC1 := Aside0.mk hc1
  clear hr1 hc1
  have HG := Aside0.mk hG
  clear hG
  have HB := Aside0.mk (Below.refl w.heap.size w)
  have H : ((shape_Merge_with_shape_Set_Less_1.f k l0 l1).bind fun t226 => (some t226)) = some r := h
  clear h
  replace H := Option.bind_eq_some_iff.mp H
  obtain ⟨t226, A30, H⟩ := H
  try dsimp only at H
  have A3 := Aside0.mk A30
  clear A30
  obtain rfl := Option.some.inj H
  go_enter Tryz.func54, Tryz.ntmps54
  go_wp2_with (first | ((with_reducible refine gate_callee (f := 96) rfl ?_); refine gl_ (some 7) Tryz.func96 #[.slice A0 l0.length c0, .slice A1 l1.length c1, .func (.func 97) #[] #[]] ?_; (with_reducible refine (shape_Merge_with_shape_Set_Less_1.calls k _ _ l0 _ _ l1  t226 _ ?side1 ?side2 ?side3 ?side4 ?side5 A3.out).mono ?_); (case side1 => exact gw_ HG.out); (case side2 => repeat (first | exact HR0.out | (with_reducible refine Kd.C_alloc ?_ _) | (with_reducible refine Kd.C_drewN ?_ _) | (with_reducible refine Kd.C_drew ?_))); (case side3 => exact HC0.out); (case side4 => repeat (first | exact HR1.out | (with_reducible refine Kd.C_alloc ?_ _) | (with_reducible refine Kd.C_drewN ?_ _) | (with_reducible refine Kd.C_drew ?_))); (case side5 => exact HC1.out); rintro e w4 ⟨v227, rfl, ho0, hb⟩; refine ⟨_, rfl, ?_⟩; have HO228 := Aside0.mk (Kd.S_lower ho0 (below_size bl_)); replace HB := Aside0.mk (below_step bl_ hb); (try clear hb); (try clear hb2); (try clear hk); (try clear hi); (try clear ho0)))
  go_ret
  exact ⟨_, by first | rfl | (simp [errW_none, errW_some] <;> rfl) | (simp [*, errW_none, errW_some] <;> rfl), ss_ HO228, bl_⟩
def shape_Set_Spread.l0 : Nat → Int → Int → Int → Int → List (S44) → Int → Int → Option ((List (S118)))
  | 0, _, _, _, _, _, _, _ => none
  | k + 1, x1, x2, x3, x4, x11, x17, x18 => if x18 < x17 then (if 0 ≤ x18 then (if x18 < (x11.length : Int) then (shape_Set_Spread.l0 k x1 x2 x3 x4 (x11.set (x18 : Int).toNat (⟨wrap64 (((rd_T44 x11 x18).f0) - x1), wrap64 (((rd_T44 x11 x18).f1) - x3), wrap64 (((rd_T44 x11 x18).f2) + x2), wrap64 (((rd_T44 x11 x18).f3) + x4)⟩ : S44)) x17 (wrap64 (x18 + 1))) else (none)) else (none)) else ((shape_SetOf.f k x11).bind fun t235 => (some t235))
def shape_Set_Spread.f (k : Nat) (l0 : List (S118)) (a1 : Int) (a2 : Int) (a3 : Int) (a4 : Int) : Option ((List (S118))) := (shape_Set_Rects.f k l0).bind fun t229 => (shape_Set_Spread.l0 k a1 a2 a3 a4 t229 (t229.length : Int) 0)
set_option maxHeartbeats 8000000 in
set_option maxRecDepth 100000 in
theorem shape_Set_Spread.calls (k : Nat) (A0 : Option Addr) (c0 : Nat) (l0 : List (S118)) (a1 : Int) (a2 : Int) (a3 : Int) (a4 : Int) (r : List (S118)) (w : World) (hG : Tryz.GW w) (hr0 : Kd.C k118 w A0 l0.length l0) (hc0 : l0.length ≤ c0) (h : shape_Set_Spread.f k l0 a1 a2 a3 a4 = some r) :
    Calls Tryz.prog 85 #[.slice A0 l0.length c0, .int .i64 a1, .int .i64 a2, .int .i64 a3, .int .i64 a4] w fun e w' => ∃ v0_ : Value, e = .returned (v0_) ∧ Kd.S k118 118 w' w.heap.size (fun _ => True) v0_ r ∧ Below w.heap.size w w' := by
  have hu44 := Tryz.underlying44
  have HR0 := Aside0.mk hr0
  have HC0 := Aside0.mk hc0
  clear hr0 hc0
  have HG := Aside0.mk hG
  clear hG
  have HB := Aside0.mk (Below.refl w.heap.size w)
  have H : ((shape_Set_Rects.f k l0).bind fun t229 => (shape_Set_Spread.l0 k a1 a2 a3 a4 t229 (t229.length : Int) 0)) = some r := h
  clear h
  replace H := Option.bind_eq_some_iff.mp H
  obtain ⟨t229, A60, H⟩ := H
  try dsimp only at H
  have A6 := Aside0.mk A60
  clear A60
  have H' := Aside0.mk H
  clear H
  go_enter Tryz.func85, Tryz.ntmps85
  go_wp2_with (first | ((with_reducible refine gate_callee (f := 69) rfl ?_); refine gl_ (some 15) Tryz.func69 #[.slice A0 l0.length c0] ?_; (with_reducible refine (shape_Set_Rects.calls k _ _ l0 t229 _ ?side1 ?side2 ?side3 A6.out).mono ?_); (case side1 => exact gw_ HG.out); (case side2 => repeat (first | exact HR0.out | (with_reducible refine Kd.C_alloc ?_ _) | (with_reducible refine Kd.C_drewN ?_ _) | (with_reducible refine Kd.C_drew ?_))); (case side3 => exact HC0.out); rintro e w7 ⟨v230, rfl, ho0, hb⟩; refine ⟨_, rfl, ?_⟩; have HO231 := Aside0.mk (Kd.R_lower ho0 (below_size bl_)); replace HB := Aside0.mk (below_step bl_ hb); (try clear hb); (try clear hb2); (try clear hk); (try clear hi); (try clear ho0); obtain ⟨Ao8, co8, eo8⟩ := Kd.R_slice HO231.out; subst eo8))
  go_loopg [18] k (fun kq v18 w' => ∃ (x11_1 : List (S44)) (x18_1 : Int), v18 = .int .i64 x18_1 ∧ Aside0 (shape_Set_Spread.l0 kq a1 a2 a3 a4 x11_1 (t229.length : Int) x18_1 = some r) ∧ Aside0 (kq ≤ k) ∧ Aside0 (Kd.R k44 44 w' w.heap.size (fun _ => True) (.slice Ao8 t229.length co8) x11_1) ∧ Aside0 (Below w.heap.size w w'))
  case atStart => exact ⟨(t229), (0), (by first | rfl | (simp; done) | (simp [*]; done)), H', ⟨Nat.le_refl _⟩, ⟨by (with_reducible repeat (first | apply Kd.R_alloc | apply Kd.R_drewN | apply Kd.R_drew)); exact HO231.out⟩, ⟨bl_⟩⟩
  case round =>
    clear H'
    try clear p2
    try clear c6
    try clear c8
    obtain ⟨x11_1, x18_1, rfl, HA, HK1, HO_11, HB⟩ := hrel
    have hl11_1 := (Kd.R_reads' HO_11.out).1
    rw [hl11_1] at HO_11
    (try simp only [hl11_1])
    cases gk with
    | zero => exact absurd HA.out (by simp [shape_Set_Spread.l0])
    | succ k1 =>
      have H := HA.out
      clear HA
      simp only [shape_Set_Spread.l0] at H
      by_cases c9 : x18_1 < (t229.length : Int)
      · rw [if_pos c9] at H
        have c9b0 : decide (x18_1 < (t229.length : Int)) = true := decide_eq_true c9
        clear c9
        by_cases c10 : 0 ≤ x18_1
        · rw [if_pos c10] at H
          have c10b0 : decide (0 ≤ x18_1) = true := decide_eq_true c10
          clear c10
          by_cases c11 : x18_1 < (x11_1.length : Int)
          · rw [if_pos c11] at H
            have c11b0 : decide (x18_1 < (x11_1.length : Int)) = true := decide_eq_true c11
            clear c11
            obtain ⟨y234, hy234⟩ : ∃ y_ : List (S44), y_ = (x11_1.set (x18_1 : Int).toNat (⟨wrap64 (((rd_T44 x11_1 x18_1).f0) - a1), wrap64 (((rd_T44 x11_1 x18_1).f1) - a3), wrap64 (((rd_T44 x11_1 x18_1).f2) + a2), wrap64 (((rd_T44 x11_1 x18_1).f3) + a4)⟩ : S44)) := ⟨_, rfl⟩
            replace H : (shape_Set_Spread.l0 k1 a1 a2 a3 a4 y234 (t229.length : Int) (wrap64 (x18_1 + 1))) = some r := by first | (rw [hy234]; with_reducible exact H) | (have H2_ := (Option.bind_some _ _).symm.trans H; rw [hy234]; with_reducible exact H2_) | (have H2_ := (Option.bind_some _ _).symm.trans H; with_reducible exact H2_) | with_reducible exact H | (rw [hy234]; exact H) | exact H
            have Ny234 := Aside0.mk hy234
            clear hy234
            have H' := Aside0.mk H
            clear H
            have p232 : 0 ≤ (x18_1 : Int) := dt_
            have q232 : x18_1 < (x11_1.length : Int) := dt_
            obtain ⟨ad232, e232, hx232_0, hx232_1, hx232_2, hx232_3⟩ := at_T44 (Kd.R_reads' HO_11.out).2.2 x18_1 p232 q232
            cases e232
            replace p232 := eq_true p232
            replace q232 := eq_true q232
            go_wp2_with (first | ((with_reducible refine gate_dst (N := 13) rfl ?_); refine bx_ (N := 13) (cs := #[.int .i64 0, .int .i64 0, .int .i64 0, .int .i64 0]) (t := 44) ?_; intro gb233 hg w13 hbox hb; have BK233 := Aside0.mk (hbox); have GW233 := Aside0.mk ((gs_ hg : w.heap.size ≤ gb233)); have GE233 := Aside0.mk ((gs_ hg : w.heap.size ≤ gb233)); replace HO_11 := Aside0.mk (Kd.R_below (Kd.R_elderB (rr_ HO_11) gb233 (Nat.le_of_eq hg.symm)) hb); replace HB := Aside0.mk (below_step bl_ hb); clear hb hbox hg; obtain ⟨hcz14_0, hcz14_1, hcz14_2, hcz14_3, hfz14_0, hfz14_1, hfz14_2, hfz14_3⟩ := bc4_ BK233) | ((with_reducible refine gate_store (t := 44) (p := 13) rfl ?_); refine store_event (t := 44) (p := 13) (v := ?vo_w15) (w1 := ((((w13.setCell ⟨gb233, 0, none⟩ (.int .i64 ((rd_T44 x11_1 x18_1).f0))).setCell ⟨gb233, 1, none⟩ (.int .i64 ((rd_T44 x11_1 x18_1).f1))).setCell ⟨gb233, 2, none⟩ (.int .i64 ((rd_T44 x11_1 x18_1).f2))).setCell ⟨gb233, 3, none⟩ (.int .i64 ((rd_T44 x11_1 x18_1).f3)))) ?hg ?ho ?hn ?hr ?_; (case ho => rfl); (case hg => rfl); (case hn => rfl); (case hr => first | (go_simp; done) | (go_simp; rfl)); intro w15 hw; have n0_ : Aside0 (Kd.R k44 44 w15 w.heap.size (fun k_ => k_ ≠ gb233) (.slice (some ad232) x11_1.length co8) x11_1) := ⟨(by rw [hw]; exact (by (with_reducible repeat (first | apply Kd.R_alloc | apply Kd.R_drewN | apply Kd.R_drew)); exact Kd.R_mono (Kd.R_far (p := ⟨gb233, 3, none⟩) (Kd.R_far (p := ⟨gb233, 2, none⟩) (Kd.R_far (p := ⟨gb233, 1, none⟩) (Kd.R_far (p := ⟨gb233, 0, none⟩) (Kd.R_mono HO_11.out (fun k_ hk => (⟨hk, hk.2⟩ : _ ∧ k_ ≠ gb233))) (fun _ hk => hk.2) (.int .i64 ((rd_T44 x11_1 x18_1).f0))) (fun _ hk => hk.2) (.int .i64 ((rd_T44 x11_1 x18_1).f1))) (fun _ hk => hk.2) (.int .i64 ((rd_T44 x11_1 x18_1).f2))) (fun _ hk => hk.2) (.int .i64 ((rd_T44 x11_1 x18_1).f3))) (fun _ hk => hk.1.2)))⟩; have n1_ : Aside0 (w15.heap[gb233]? = some (.cells #[.int .i64 ((rd_T44 x11_1 x18_1).f0), .int .i64 ((rd_T44 x11_1 x18_1).f1), .int .i64 ((rd_T44 x11_1 x18_1).f2), .int .i64 ((rd_T44 x11_1 x18_1).f3)] 44 (0, 0))) := ⟨(by rw [hw]; exact (by (with_reducible repeat (first | refine blk_drewN ?_ _ | refine blk_drew ?_ | refine blk_alloc ?_ _)); refine blk_put (cs := #[.int .i64 ((rd_T44 x11_1 x18_1).f0), .int .i64 ((rd_T44 x11_1 x18_1).f1), .int .i64 ((rd_T44 x11_1 x18_1).f2), .int .i64 0]) ?_ 3 _ rfl; (with_reducible repeat (first | refine blk_drewN ?_ _ | refine blk_drew ?_ | refine blk_alloc ?_ _)); refine blk_put (cs := #[.int .i64 ((rd_T44 x11_1 x18_1).f0), .int .i64 ((rd_T44 x11_1 x18_1).f1), .int .i64 0, .int .i64 0]) ?_ 2 _ rfl; (with_reducible repeat (first | refine blk_drewN ?_ _ | refine blk_drew ?_ | refine blk_alloc ?_ _)); refine blk_put (cs := #[.int .i64 ((rd_T44 x11_1 x18_1).f0), .int .i64 0, .int .i64 0, .int .i64 0]) ?_ 1 _ rfl; (with_reducible repeat (first | refine blk_drewN ?_ _ | refine blk_drew ?_ | refine blk_alloc ?_ _)); refine blk_put (cs := #[.int .i64 0, .int .i64 0, .int .i64 0, .int .i64 0]) ?_ 0 _ rfl; (with_reducible repeat (first | refine blk_drewN ?_ _ | refine blk_drew ?_ | refine blk_alloc ?_ _)); exact BK233.out))⟩; have n2_ : Aside0 (Below w.heap.size w w15) := ⟨(by rw [hw]; exact bl_)⟩; clear hw; clear HO_11; clear BK233; clear HB; have HO_11 := n0_; have BK233 := n1_; have HB := n2_; clear n0_ n1_ n2_; obtain ⟨hcz16_0, hcz16_1, hcz16_2, hcz16_3, hfz16_0, hfz16_1, hfz16_2, hfz16_3⟩ := bc4_ BK233; have p12 : 0 ≤ (x18_1 : Int) := dt_; have q12 : (x18_1 : Int) < ((x11_1.length : Int) : Int) := dt_; obtain ⟨go12, co12, eo12, gb12, gl12, cl12, HG12⟩ := Kd.R_form HO_11.out (by omega); (first | cases eo12 | (injection eo12 with ea_ en_ ec_; (first | subst ea_ | (injection ea_ with ea_; subst ea_)); subst ec_; clear en_)); have GB12 := Aside0.mk gb12; have GG12 := Aside0.mk HG12; clear gb12 gl12 HG12; (first | simp only [add_plain] at hx232_0 | skip); (first | simp only [add_plain] at hx232_1 | skip); (first | simp only [add_plain] at hx232_2 | skip); (first | simp only [add_plain] at hx232_3 | skip); obtain ⟨ce12, hcl12, hM12, hcc12, hfr12⟩ := Kd.R_elem HO_11.out z44 (x18_1 : Int) p12 q12; obtain rfl := k44_openM hM12; have hx12_0 : w15.cell? ⟨go12, (x18_1 : Int).toNat * 4, none⟩ = some (.int .i64 ((rd_T44 x11_1 x18_1).f0)) := hcc12 0 _ rfl; have hx12_1 : w15.cell? ⟨go12, (x18_1 : Int).toNat * 4 + 1, none⟩ = some (.int .i64 ((rd_T44 x11_1 x18_1).f1)) := hcc12 1 _ rfl; have hx12_2 : w15.cell? ⟨go12, (x18_1 : Int).toNat * 4 + 2, none⟩ = some (.int .i64 ((rd_T44 x11_1 x18_1).f2)) := hcc12 2 _ rfl; have hx12_3 : w15.cell? ⟨go12, (x18_1 : Int).toNat * 4 + 3, none⟩ = some (.int .i64 ((rd_T44 x11_1 x18_1).f3)) := hcc12 3 _ rfl; have hf12_0 : w15.frozen? ⟨go12, (x18_1 : Int).toNat * 4, none⟩ = false := hfr12 0; have hf12_1 : w15.frozen? ⟨go12, (x18_1 : Int).toNat * 4 + 1, none⟩ = false := hfr12 1; have hf12_2 : w15.frozen? ⟨go12, (x18_1 : Int).toNat * 4 + 2, none⟩ = false := hfr12 2; have hf12_3 : w15.frozen? ⟨go12, (x18_1 : Int).toNat * 4 + 3, none⟩ = false := hfr12 3; clear hcl12 hcc12 hfr12 hM12; replace p12 := eq_true p12; replace q12 := eq_true q12; have HX17 := Aside0.mk (show Kd.R k44 44 w15 w.heap.size (fun k_ => k_ ≠ gb233) (.slice (some ⟨go12, 0, none⟩) x11_1.length co8) x11_1 from (rr_ HO_11)); obtain ⟨ce17, hcl17, hM17, hcc17, hfr17⟩ := Kd.R_elem HX17.out z44 (x18_1 : Int) (dt_) (by have h_ : (x18_1 : Int) < ((x11_1.length : Int) : Int) := dt_; first | exact h_ | (have e_ := (Kd.R_reads' HO_11.out).1; omega) | simpa using h_); obtain rfl := k44_openM hM17; have HP17 := Kd.R_seg HX17.out (x18_1 : Int) (dt_) (by have h_ : (x18_1 : Int) < ((x11_1.length : Int) : Int) := dt_; first | exact h_ | (have e_ := (Kd.R_reads' HO_11.out).1; omega) | simpa using h_) (seg := [.int .i64 (wrap64 (((rd_T44 x11_1 x18_1).f0) - a1)), .int .i64 (wrap64 (((rd_T44 x11_1 x18_1).f1) - a3)), .int .i64 (wrap64 (((rd_T44 x11_1 x18_1).f2) + a2)), .int .i64 (wrap64 (((rd_T44 x11_1 x18_1).f3) + a4))]) (j := 0) hcl17 hcc17 (show 4 ≤ 4 from by decide) (x' := (⟨wrap64 (((rd_T44 x11_1 x18_1).f0) - a1), wrap64 (((rd_T44 x11_1 x18_1).f1) - a3), wrap64 (((rd_T44 x11_1 x18_1).f2) + a2), wrap64 (((rd_T44 x11_1 x18_1).f3) + a4)⟩ : S44)) (k44_mkM _ _ _ (⟨wrap64 (((rd_T44 x11_1 x18_1).f0) - a1), wrap64 (((rd_T44 x11_1 x18_1).f1) - a3), wrap64 (((rd_T44 x11_1 x18_1).f2) + a2), wrap64 (((rd_T44 x11_1 x18_1).f3) + a4)⟩ : S44) ) (fun _ hk => hk); have hx17_0 := hcc17 0 _ rfl; (try simp only [show (k44).sz = 4 from rfl, Nat.mul_one, Nat.add_zero] at hx17_0); have hf17_0 := hfr17 0; (try simp only [show (k44).sz = 4 from rfl, Nat.mul_one, Nat.add_zero] at hf17_0); have hx17_1 := hcc17 1 _ rfl; (try simp only [show (k44).sz = 4 from rfl, Nat.mul_one, Nat.add_zero] at hx17_1); have hf17_1 := hfr17 1; (try simp only [show (k44).sz = 4 from rfl, Nat.mul_one, Nat.add_zero] at hf17_1); have hx17_2 := hcc17 2 _ rfl; (try simp only [show (k44).sz = 4 from rfl, Nat.mul_one, Nat.add_zero] at hx17_2); have hf17_2 := hfr17 2; (try simp only [show (k44).sz = 4 from rfl, Nat.mul_one, Nat.add_zero] at hf17_2); have hx17_3 := hcc17 3 _ rfl; (try simp only [show (k44).sz = 4 from rfl, Nat.mul_one, Nat.add_zero] at hx17_3); have hf17_3 := hfr17 3; (try simp only [show (k44).sz = 4 from rfl, Nat.mul_one, Nat.add_zero] at hf17_3); clear hcl17 hcc17 hfr17 hM17) | ((with_reducible refine gate_store (t := 44) (p := 42) rfl ?_); refine store_event (t := 44) (p := 42) (v := ?vo_w18) (w1 := ((((w15.setCell ⟨go12, (x18_1 : Int).toNat * 4, none⟩ (.int .i64 (wrap64 (((rd_T44 x11_1 x18_1).f0) - a1)))).setCell ⟨go12, (x18_1 : Int).toNat * 4 + 1, none⟩ (.int .i64 (wrap64 (((rd_T44 x11_1 x18_1).f1) - a3)))).setCell ⟨go12, (x18_1 : Int).toNat * 4 + 2, none⟩ (.int .i64 (wrap64 (((rd_T44 x11_1 x18_1).f2) + a2)))).setCell ⟨go12, (x18_1 : Int).toNat * 4 + 3, none⟩ (.int .i64 (wrap64 (((rd_T44 x11_1 x18_1).f3) + a4))))) ?hg ?ho ?hn ?hr ?_; (case ho => rfl); (case hg => rfl); (case hn => rfl); (case hr => first | (go_simp; done) | (go_simp; rfl)); intro w18 hw; have hg : w15.grownBy w18 (some go12) := (by rw [hw]; exact HP17.2); have hp_ : Kd.R k44 44 w18 w.heap.size (fun k_ => k_ ≠ gb233) (.slice (some ⟨go12, 0, none⟩) x11_1.length co8) y234 := (by rw [hw, Ny234.out]; exact HP17.1); clear HP17; replace BK233 := Aside0.mk (blk_grown (g := gb233) (o := .cells #[.int .i64 ((rd_T44 x11_1 x18_1).f0), .int .i64 ((rd_T44 x11_1 x18_1).f1), .int .i64 ((rd_T44 x11_1 x18_1).f2), .int .i64 ((rd_T44 x11_1 x18_1).f3)] 44 (0, 0)) (bk_ BK233) hg (Kd.R_away HO_11.out (fun _ hk => hk))); replace HO_11 := Aside0.mk (hp_); replace HB := Aside0.mk ((by rw [hw]; exact below_set (below_set (below_set (below_set (HB.out) GB12.out) GB12.out) GB12.out) GB12.out : Below w.heap.size w w18)); clear hg hw hp_))
            (try simp only [← hl11_1])
            go_roundg k1
            case measure => have := HK1.out; omega
            case rel => exact ⟨(y234), (wrap64 (x18_1 + 1)), (by first | rfl | (simp; done) | (simp [*]; done)), H', ⟨by have := HK1.out; omega⟩, ⟨by (try simp only [hl11_1]); (with_reducible repeat (first | apply Kd.R_alloc | apply Kd.R_drewN | apply Kd.R_drew)); exact Kd.R_mono HO_11.out (fun _ hk => trivial)⟩, ⟨bl_⟩⟩
          · rw [if_neg c11] at H
            exact absurd H (by simp)
        · rw [if_neg c10] at H
          exact absurd H (by simp)
      · rw [if_neg c9] at H
        have c9b0 : decide (x18_1 < (t229.length : Int)) = false := decide_eq_false c9
        (try simp only [hl11_1] at c9b0)
        clear c9
        replace H := Option.bind_eq_some_iff.mp H
        obtain ⟨t235, A190, H⟩ := H
        try dsimp only at H
        have A19 := Aside0.mk A190
        clear A190
        obtain rfl := Option.some.inj H
        go_wp2_with (first | ((with_reducible refine gate_callee (f := 51) rfl ?_); refine gl_ (some 45) Tryz.func51 #[.slice Ao8 x11_1.length co8] ?_; (with_reducible refine (shape_SetOf.calls k1 _ _ x11_1 t235 _ ?side1 ?side2 ?side3 A19.out).mono ?_); (case side1 => exact gw_ HG.out); (case side2 => exact cb_ (Kd.R_reads' HO_11.out).2.2); (case side3 => exact (Kd.R_reads' HO_11.out).2.1); rintro e w20 ⟨v236, rfl, ho0, hb⟩; refine ⟨_, rfl, ?_⟩; have HO237 := Aside0.mk (Kd.S_lower ho0 (below_size bl_)); replace HO_11 := Aside0.mk (Kd.R_below (rr_ HO_11) hb); replace HB := Aside0.mk (below_step bl_ hb); (try clear hb); (try clear hb2); (try clear hk); (try clear hi); (try clear ho0)))
        go_ret
        exact ⟨_, by first | rfl | (simp [errW_none, errW_some] <;> rfl) | (simp [*, errW_none, errW_some] <;> rfl), ss_ HO237, bl_⟩
end Go.Proofs.YthkeonbmgcphkaaGreatDoor.PT
