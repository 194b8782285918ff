import Derived.Test.YthkeonbmgcphkaaGreatDoorHg6
import Derived.Test.YthkeonbmgcphkaaGreatDoorHg28
import Derived.Test.YthkeonbmgcphkaaGreatDoorHg29
namespace Go.Proofs.YthkeonbmgcphkaaGreatDoor.PM
open Go.RowKit Go.Proofs.YthkeonbmgcphkaaGreatDoorW.PrintWords Go.Proofs.YthkeonbmgcphkaaGreatDoorW.PrintLast Go.Proofs.YthkeonbmgcphkaaGreatDoorW.PrintMore
attribute [local go_sem] max2_int min2_int max_two min_two max_three min_three max_four min_four
set_option linter.unusedVariables false
set_option maxHeartbeats 8000000
set_option maxRecDepth 100000
set_option linter.unusedSimpArgs false
mutual
def aQ.l0 : Nat → ByteArray → Int → Int → Int → Int → Int → Int → List (S66) → List (S68) → Option (ByteArray × Int)
 | 0, _, _, _, _, _, _, _, _, _ => none
 | k + 1, x5, x6, x336000, x336001, x336002, x336003, x336004, x336005, x336006 => if x6 < (x336005.length : Int) then (if 0 ≤ x6 then (if 6 + ((aT x336005 x6).f0).size ≤ 9223372036854775807 then ((bK.f k (([(aT x336005 x6).f2, (aT x336005 x6).f3] : List Int))).bind fun t346 => (if ((⟨#[99, 108, 97, 115, 115, 32]⟩ : ByteArray) ++ ((aT x336005 x6).f0)).size + t346.size ≤ 9223372036854775807 then (if x5.size + (((⟨#[99, 108, 97, 115, 115, 32]⟩ : ByteArray) ++ ((aT x336005 x6).f0)) ++ t346).size ≤ 9223372036854775807 then (aQ.l1 k (x5 ++ (((⟨#[99, 108, 97, 115, 115, 32]⟩ : ByteArray) ++ ((aT x336005 x6).f0)) ++ t346)) x6 0 x336000 x336001 x336002 x336003 x336004 x336005 x336006 ((aT x336005 x6).f0) ((aT x336005 x6).f1) ((aT x336005 x6).f2) ((aT x336005 x6).f3)) else (none)) else (none))) else (none)) else (none)) else (aQ.l2 k x5 0 x336000 x336001 x336002 x336003 x336004 x336005 x336006)
def aQ.l1 : Nat → ByteArray → Int → Int → Int → Int → Int → Int → Int → List (S66) → List (S68) → ByteArray → List ByteArray → Int → Int → Option (ByteArray × Int)
 | 0, _, _, _, _, _, _, _, _, _, _, _, _, _, _ => none
 | k + 1, x5, x6, x8, x336000, x336001, x336002, x336003, x336004, x336005, x336006, x343000, x343001, x343002, x343003 => if x8 < (x343001.length : Int) then (if 0 ≤ x8 then (if 1 + (rdOf ByteArray.empty x343001 x8).size ≤ 9223372036854775807 then (if x5.size + ((⟨#[32]⟩ : ByteArray) ++ (rdOf ByteArray.empty x343001 x8)).size ≤ 9223372036854775807 then (aQ.l1 k (x5 ++ ((⟨#[32]⟩ : ByteArray) ++ (rdOf ByteArray.empty x343001 x8))) x6 (wrap64 (x8 + 1)) x336000 x336001 x336002 x336003 x336004 x336005 x336006 x343000 x343001 x343002 x343003) else (none)) else (none)) else (none)) else (if x5.size + 1 ≤ 9223372036854775807 then (aQ.l0 k (x5 ++ (⟨#[10]⟩ : ByteArray)) (wrap64 (x6 + 1)) x336000 x336001 x336002 x336003 x336004 x336005 x336006) else (none))
def aQ.l2 : Nat → ByteArray → Int → Int → Int → Int → Int → Int → List (S66) → List (S68) → Option (ByteArray × Int)
 | 0, _, _, _, _, _, _, _, _, _ => none
 | k + 1, x5, x9, x336000, x336001, x336002, x336003, x336004, x336005, x336006 => if x9 < (x336006.length : Int) then (if 0 ≤ x9 then ((bK.f k (([(aV x336006 x9).f0, (aV x336006 x9).f2] : List Int))).bind fun t353 => (if 4 + t353.size ≤ 9223372036854775807 then (if x5.size + ((⟨#[97, 114, 101, 97]⟩ : ByteArray) ++ t353).size ≤ 9223372036854775807 then (aQ.l3 k (x5 ++ ((⟨#[97, 114, 101, 97]⟩ : ByteArray) ++ t353)) x9 0 x336000 x336001 x336002 x336003 x336004 x336005 x336006 ((aV x336006 x9).f0) ((aV x336006 x9).f1) ((aV x336006 x9).f2)) else (none)) else (none))) else (none)) else (if (x5.size : Int) > 200000 then (some ((⟨#[]⟩ : ByteArray), 2)) else (some (x5, 0)))
def aQ.l3 : Nat → ByteArray → Int → Int → Int → Int → Int → Int → Int → List (S66) → List (S68) → Int → List (S44) → Int → Option (ByteArray × Int)
 | 0, _, _, _, _, _, _, _, _, _, _, _, _, _ => none
 | k + 1, x5, x9, x11, x336000, x336001, x336002, x336003, x336004, x336005, x336006, x350000, x350001, x350002 => if x11 < (x350001.length : Int) then (if 0 ≤ x11 then ((bK.f k (([(aI x350001 x11).f0, (aI x350001 x11).f1, (aI x350001 x11).f2, (aI x350001 x11).f3] : List Int))).bind fun t359 => (if x5.size + t359.size ≤ 9223372036854775807 then (aQ.l3 k (x5 ++ t359) x9 (wrap64 (x11 + 1)) x336000 x336001 x336002 x336003 x336004 x336005 x336006 x350000 x350001 x350002) else (none))) else (none)) else (if x5.size + 1 ≤ 9223372036854775807 then (aQ.l2 k (x5 ++ (⟨#[10]⟩ : ByteArray)) (wrap64 (x9 + 1)) x336000 x336001 x336002 x336003 x336004 x336005 x336006) else (none))
end
def aQ.f (k : Nat) (a0_0 : Int) (a0_1 : Int) (a0_2 : Int) (a0_3 : Int) (a0_4 : Int) (l0_5 : List (S66)) (l0_6 : List (S68)) : Option (ByteArray × Int) := (aN.f k a0_0 a0_1 a0_2 a0_3 a0_4 l0_5 l0_6).bind fun t336 => (if t336 = 0 then ((bK.f k (([a0_0, a0_1, a0_2, a0_3, a0_4] : List Int))).bind fun t340 => (if 5 + t340.size ≤ 9223372036854775807 then (if ((⟨#[114, 117, 108, 101, 115]⟩ : ByteArray) ++ t340).size + 1 ≤ 9223372036854775807 then (aQ.l0 k (((⟨#[114, 117, 108, 101, 115]⟩ : ByteArray) ++ t340) ++ (⟨#[10]⟩ : ByteArray)) 0 a0_0 a0_1 a0_2 a0_3 a0_4 l0_5 l0_6) else (none)) else (none))) else (some ((⟨#[]⟩ : ByteArray), t336)))
def aQ.T9 : Bool × List (List Nat × List Nat) := (true, [([], []), ([], []), ([1], [1]), ([2], [2]), ([], []), ([4], [4]), ([], []), ([6], [6]), ([5, 7], [5, 7]), ([8], [8]), ([3, 9], [3, 9]), ([0, 10], [0, 10]), ([11, 9, 0, 1, 2, 3, 4, 5, 6, 7, 8, 9, 10, 11], [0, 11])])
def aQ.B9 : List Nat := [0, 0, 2, 6, 0, 16, 0, 64, 240, 496, 1022, 2047, 4095]
theorem aQ.tab9 : rtab .any (opsOf Tryz.f11 9) = aQ.T9 := by kernel_rfl
theorem aQ.bits9 : waitsOk aQ.T9.2 aQ.B9 = true := by kernel_rfl
theorem aQ.calls (k : Nat) (a0_0 : Int) (a0_1 : Int) (a0_2 : Int) (a0_3 : Int) (a0_4 : Int) (A0_5 : Option Addr) (c0_5 : Nat) (l0_5 : List (S66)) (A0_6 : Option Addr) (c0_6 : Nat) (l0_6 : List (S68)) (r1 : ByteArray) (r2 : Int) (w : World) (hG : Tryz.GW w) (hr0_5 : Kd.C k66 w A0_5 l0_5.length l0_5) (hc0_5 : l0_5.length ≤ c0_5) (hr0_6 : Kd.C k68 w A0_6 l0_6.length l0_6) (hc0_6 : l0_6.length ≤ c0_6) (h : aQ.f k a0_0 a0_1 a0_2 a0_3 a0_4 l0_5 l0_6 = some (r1, r2)) :
 Calls Tryz.prog 11 #[.agg #[.int .i64 a0_0, .int .i64 a0_1, .int .i64 a0_2, .int .i64 a0_3, .int .i64 a0_4, .slice A0_5 l0_5.length c0_5, .slice A0_6 l0_6.length c0_6]] w fun e w' => e = .returned (.tuple #[.string r1, .int .i64 r2]) ∧ Below w.heap.size w w' := by
 have hu25 := Tryz.underlying25
 have hu66 := Tryz.underlying66
 have hu68 := Tryz.underlying68
 have hu44 := Tryz.underlying44
 have HR0_5 := am_ hr0_5
 have HC0_5 := am_ hc0_5
 clear hr0_5 hc0_5
 have HR0_6 := am_ hr0_6
 have HC0_6 := am_ hc0_6
 clear hr0_6 hc0_6
 have HG := am_ hG
 clear hG
 have HB := am_ (Below.refl w.heap.size w)
 have H : ((aN.f k a0_0 a0_1 a0_2 a0_3 a0_4 l0_5 l0_6).bind fun t336 => (if t336 = 0 then ((bK.f k (([a0_0, a0_1, a0_2, a0_3, a0_4] : List Int))).bind fun t340 => (if 5 + t340.size ≤ 9223372036854775807 then (if ((⟨#[114, 117, 108, 101, 115]⟩ : ByteArray) ++ t340).size + 1 ≤ 9223372036854775807 then (aQ.l0 k (((⟨#[114, 117, 108, 101, 115]⟩ : ByteArray) ++ t340) ++ (⟨#[10]⟩ : ByteArray)) 0 a0_0 a0_1 a0_2 a0_3 a0_4 l0_5 l0_6) else (none)) else (none))) else (some ((⟨#[]⟩ : ByteArray), t336)))) = some (r1, r2) := h
 clear h
 obtain ⟨t336, A2, H⟩ := bs_ H
 by_cases c3 : t336 = 0
 rotate_left
 · rw [if_neg c3] at H
   have c3b0 : (t336 == 0) = false := beq_eq_false_iff_ne.mpr c3
   have c3b1 : (t336 != 0) = true := bne_iff_ne.mpr c3
   simp only [Option.some.injEq, Prod.mk.injEq] at H
   obtain ⟨rfl, rfl⟩ := H
   go_enter Tryz.func11, Tryz.ntmps11
   go_wp2_with (first | ((with_reducible refine gn_ 1 rfl ?_); refine bq_ (N := 1) (cs := #[.int .i64 a0_0, .int .i64 a0_1, .int .i64 a0_2, .int .i64 a0_3, .int .i64 a0_4, .slice A0_5 l0_5.length c0_5, .slice A0_6 l0_6.length c0_6]) (t := 25) ?_; intro gb335 hg w74 BK335 hb; have GW335 := ga_ w hg; have GE335 := GW335; replace HB := bp_ hb; clear hb hg; have bz75 := bc7_ BK335) | ((with_reducible refine gf_ 13 rfl ?_); refine gl_ (some 14) Tryz.func13 #[.agg #[.int .i64 a0_0, .int .i64 a0_1, .int .i64 a0_2, .int .i64 a0_3, .int .i64 a0_4, .slice A0_5 l0_5.length c0_5, .slice A0_6 l0_6.length c0_6]] ?_; refine (aN.calls k a0_0 a0_1 a0_2 a0_3 a0_4 _ _ l0_5 _ _ l0_6 t336 _ (gw_ HG.out) (cb_ (Kd.C_below HR0_5.out HB.out)) HC0_5.out (cb_ (Kd.C_below HR0_6.out HB.out)) HC0_6.out A2.out).mono ?_; rintro e w76 ⟨rfl, hb⟩; refine ⟨_, rfl, ?_⟩; replace BK335 := bb_ BK335 hb; replace HB := bp_ hb; (try clear hb)))
   go_ret2
   exact ⟨er_, bl_⟩
 rw [if_pos c3] at H
 have c3b0 : (t336 == 0) = true := beq_iff_eq.mpr c3
 have c3b1 : (t336 != 0) = false := bne_eq_false_iff_eq.mpr c3
 clear c3
 obtain ⟨y337, hy337⟩ : ∃ y_ : List Int, y_ = (([a0_0, a0_1, a0_2, a0_3, a0_4] : List Int)) := ⟨_, rfl⟩
 replace H : ((bK.f k y337).bind fun t340 => (if 5 + t340.size ≤ 9223372036854775807 then (if ((⟨#[114, 117, 108, 101, 115]⟩ : ByteArray) ++ t340).size + 1 ≤ 9223372036854775807 then (aQ.l0 k (((⟨#[114, 117, 108, 101, 115]⟩ : ByteArray) ++ t340) ++ (⟨#[10]⟩ : ByteArray)) 0 a0_0 a0_1 a0_2 a0_3 a0_4 l0_5 l0_6) else (none)) else (none))) = some (r1, r2) := by first | (rw [hy337]; with_reducible exact H) | (have H2_ := (Option.bind_some _ _).symm.trans H; rw [hy337]; with_reducible exact H2_) | (have H2_ := (Option.bind_some _ _).symm.trans H; with_reducible exact H2_) | with_reducible exact H | (rw [hy337]; exact H) | exact H
 have Ny337 := am_ hy337
 clear hy337
 obtain ⟨t340, A4, H⟩ := bs_ H
 obtain ⟨c5, H⟩ := ifn_ H
 have c5b0 := eq_true c5
 have c5b1 := decide_eq_true c5
 try have c5b2 : (9223372036854775807 < 5 + t340.size) = False := eq_false (Nat.not_lt.2 c5)
 obtain ⟨c6, H⟩ := ifn_ H
 have c6b0 := eq_true c6
 have c6b1 := decide_eq_true c6
 try have c6b2 : (9223372036854775807 < ((⟨#[114, 117, 108, 101, 115]⟩ : ByteArray) ++ t340).size + 1) = False := eq_false (Nat.not_lt.2 c6)
 try have c6b3 : (9223372036854775807 < 5 + t340.size + 1) = False := eq_false (Nat.not_lt.2 (by have e_ : ((⟨#[114, 117, 108, 101, 115]⟩ : ByteArray) ++ t340).size + 1 = 5 + t340.size + 1 := (by simp only [ByteArray.size_append]; rfl); have h_ := c6; rw [e_] at h_; exact h_))
 replace H := am_ H
 go_enter Tryz.func11, Tryz.ntmps11
 go_wp2_with (first | ((with_reducible refine gn_ 1 rfl ?_); refine bq_ (N := 1) (cs := #[.int .i64 a0_0, .int .i64 a0_1, .int .i64 a0_2, .int .i64 a0_3, .int .i64 a0_4, .slice A0_5 l0_5.length c0_5, .slice A0_6 l0_6.length c0_6]) (t := 25) ?_; intro gb335 hg w7 BK335 hb; have GW335 := ga_ w hg; have GE335 := GW335; replace HB := bp_ hb; clear hb hg; have bz8 := bc7_ BK335) | ((with_reducible refine gf_ 13 rfl ?_); refine gl_ (some 14) Tryz.func13 #[.agg #[.int .i64 a0_0, .int .i64 a0_1, .int .i64 a0_2, .int .i64 a0_3, .int .i64 a0_4, .slice A0_5 l0_5.length c0_5, .slice A0_6 l0_6.length c0_6]] ?_; refine (aN.calls k a0_0 a0_1 a0_2 a0_3 a0_4 _ _ l0_5 _ _ l0_6 t336 _ (gw_ HG.out) (cb_ (Kd.C_below HR0_5.out HB.out)) HC0_5.out (cb_ (Kd.C_below HR0_6.out HB.out)) HC0_6.out A2.out).mono ?_; rintro e w9 ⟨rfl, hb⟩; refine ⟨_, rfl, ?_⟩; replace BK335 := bb_ BK335 hb; replace HB := bp_ hb; (try clear hb); have bz10 := bc7_ BK335) | ((with_reducible refine gn_ 28 rfl ?_); refine Kd.R_lit (Kd.int .i64) _ 3 ?hg (N := 28) ?hd (xs := ([a0_0, a0_1, a0_2, a0_3, a0_4] : List Int)) (inner := [.int .i64 a0_0, .int .i64 a0_1, .int .i64 a0_2, .int .i64 a0_3, .int .i64 a0_4]) (ok := fun _ => True) (okp := fun _ => True) ?hr ?hp (fun _ hk => hk) trivial (Below.refl _ _) (Nat.le_refl _) (by simp) ?_; (case hd => rfl); (case hg => rfl); (case hr => first | (go_simp; done) | (go_simp; rfl)); (case hp => exact (Reps.one (show Kd.M (Kd.int .i64) _ _ _ a0_0 [.int .i64 a0_0] from rfl) (Reps.one (show Kd.M (Kd.int .i64) _ _ _ a0_1 [.int .i64 a0_1] from rfl) (Reps.one (show Kd.M (Kd.int .i64) _ _ _ a0_2 [.int .i64 a0_2] from rfl) (Reps.one (show Kd.M (Kd.int .i64) _ _ _ a0_3 [.int .i64 a0_3] from rfl) (Reps.one (show Kd.M (Kd.int .i64) _ _ _ a0_4 [.int .i64 a0_4] from rfl) (Reps.none _ _))))))); intro v338 w11 ho12 hb hg_ hnew_; clear hg_ hnew_; (first | rw [← Ny337.out] at ho12 | (simp only [Int.reduceToNat] at ho12; rw [← Ny337.out] at ho12)); have HO339 := am_ (Kd.R_lower ho12 (below_size bl_)); replace BK335 := bb_ BK335 hb; replace HB := bp_ hb; clear hb ho12; obtain ⟨Ao13, co13, eo13⟩ := Kd.R_slice HO339.out; subst eo13) | ((with_reducible refine gf_ 31 rfl ?_); refine gl_ (some 29) Tryz.func31 #[.slice Ao13 y337.length co13] ?_; refine (bK.calls k _ _ y337 t340 _ (gw_ HG.out) (cb_ (Kd.R_reads' HO339.out).2.2) ((Kd.R_reads' HO339.out).2.1) A4.out).mono ?_; rintro e w14 ⟨rfl, hb⟩; refine ⟨_, rfl, ?_⟩; replace HO339 := am_ (Kd.R_below (rr_ HO339) hb); replace BK335 := bb_ BK335 hb; replace HB := bp_ hb; (try clear hb)))
 go_loopg [5, 6] k (fun kq v5 v6 w' => ∃ (x5_1 : ByteArray) (x6_1 : Int), v5 = .string x5_1 ∧ v6 = .int .i64 x6_1 ∧ Aside0 (aQ.l0 kq x5_1 x6_1 a0_0 a0_1 a0_2 a0_3 a0_4 l0_5 l0_6 = some (r1, r2)) ∧ Aside0 (kq ≤ k) ∧ Aside0 (w'.heap[gb335]? = some (.cells #[.int .i64 a0_0, .int .i64 a0_1, .int .i64 a0_2, .int .i64 a0_3, .int .i64 a0_4, (.slice A0_5 l0_5.length c0_5), (.slice A0_6 l0_6.length c0_6)] 25 (0, 0))) ∧ Aside0 (Below w.heap.size w w'))
 case atStart => exact ⟨(((⟨#[114, 117, 108, 101, 115]⟩ : ByteArray) ++ t340) ++ (⟨#[10]⟩ : ByteArray)), (0), ra_, ra_, H, ⟨Nat.le_refl _⟩, ⟨bk_ BK335⟩, ⟨bl_⟩⟩
 case round =>
  clear H
  try clear c1
  try clear p2
  try clear c3
  try clear c3b0
  try clear c3b1
  try clear c5
  try clear c5b0
  try clear c5b1
  try clear c5b2
  try clear c6
  try clear c6b0
  try clear c6b1
  try clear c6b2
  try clear c11
  try clear c13
  try clear bz10
  try clear bz8
  obtain ⟨x5_1, x6_1, rfl, rfl, HA, HK1, BK335, HB⟩ := hrel
  cases gk with
  | zero => exact absurd HA.out (by simp [aQ.l0])
  | succ k1 =>
   have H := HA.out
   clear HA
   simp only [aQ.l0] at H
   by_cases c15 : x6_1 < (l0_5.length : Int)
   · rw [if_pos c15] at H
     have c15b0 := decide_eq_true c15
     clear c15
     obtain ⟨c16b0, H⟩ := ifd_ H
     obtain ⟨c17, H⟩ := ifn_ H
     have c17b0 := eq_true c17
     have c17b1 := decide_eq_true c17
     try have c17b2 : (9223372036854775807 < 6 + ((aT l0_5 x6_1).f0).size) = False := eq_false (Nat.not_lt.2 c17)
     obtain ⟨y343, hy343⟩ : ∃ y_ : List Int, y_ = (([(aT l0_5 x6_1).f2, (aT l0_5 x6_1).f3] : List Int)) := ⟨_, rfl⟩
     replace H : ((bK.f k1 y343).bind fun t346 => (if ((⟨#[99, 108, 97, 115, 115, 32]⟩ : ByteArray) ++ ((aT l0_5 x6_1).f0)).size + t346.size ≤ 9223372036854775807 then (if x5_1.size + (((⟨#[99, 108, 97, 115, 115, 32]⟩ : ByteArray) ++ ((aT l0_5 x6_1).f0)) ++ t346).size ≤ 9223372036854775807 then (aQ.l1 k1 (x5_1 ++ (((⟨#[99, 108, 97, 115, 115, 32]⟩ : ByteArray) ++ ((aT l0_5 x6_1).f0)) ++ t346)) x6_1 0 a0_0 a0_1 a0_2 a0_3 a0_4 l0_5 l0_6 ((aT l0_5 x6_1).f0) ((aT l0_5 x6_1).f1) ((aT l0_5 x6_1).f2) ((aT l0_5 x6_1).f3)) else (none)) else (none))) = some (r1, r2) := by first | (rw [hy343]; with_reducible exact H) | (have H2_ := (Option.bind_some _ _).symm.trans H; rw [hy343]; with_reducible exact H2_) | (have H2_ := (Option.bind_some _ _).symm.trans H; with_reducible exact H2_) | with_reducible exact H | (rw [hy343]; exact H) | exact H
     have Ny343 := am_ hy343
     clear hy343
     obtain ⟨t346, A18, H⟩ := bs_ H
     obtain ⟨c19, H⟩ := ifn_ H
     have c19b0 := eq_true c19
     have c19b1 := decide_eq_true c19
     try have c19b2 : (9223372036854775807 < ((⟨#[99, 108, 97, 115, 115, 32]⟩ : ByteArray) ++ ((aT l0_5 x6_1).f0)).size + t346.size) = False := eq_false (Nat.not_lt.2 c19)
     try have c19b3 : (9223372036854775807 < 6 + ((aT l0_5 x6_1).f0).size + t346.size) = False := eq_false (Nat.not_lt.2 (by have e_ : ((⟨#[99, 108, 97, 115, 115, 32]⟩ : ByteArray) ++ ((aT l0_5 x6_1).f0)).size + t346.size = 6 + ((aT l0_5 x6_1).f0).size + t346.size := (by simp only [ByteArray.size_append]; rfl); have h_ := c19; rw [e_] at h_; exact h_))
     obtain ⟨c20, H⟩ := ifn_ H
     have c20b0 := eq_true c20
     have c20b1 := decide_eq_true c20
     try have c20b2 : (9223372036854775807 < x5_1.size + (((⟨#[99, 108, 97, 115, 115, 32]⟩ : ByteArray) ++ ((aT l0_5 x6_1).f0)) ++ t346).size) = False := eq_false (Nat.not_lt.2 c20)
     try have c20b3 : (9223372036854775807 < x5_1.size + (6 + ((aT l0_5 x6_1).f0).size + t346.size)) = False := eq_false (Nat.not_lt.2 (by have e_ : x5_1.size + (((⟨#[99, 108, 97, 115, 115, 32]⟩ : ByteArray) ++ ((aT l0_5 x6_1).f0)) ++ t346).size = x5_1.size + (6 + ((aT l0_5 x6_1).f0).size + t346.size) := (by simp only [ByteArray.size_append]; rfl); have h_ := c20; rw [e_] at h_; exact h_))
     replace H := am_ H
     have bz21 := bc7_ BK335
     have p341 := pt_ x6_1
     have q341 := qt_ x6_1 l0_5.length
     obtain ⟨ad341, A341_1, c341_1, e341, hx341_0, hx341_1, hx341_2, hx341_3, hl341_1, hi341_1⟩ := iI HR0_5.out x6_1 (oe_ p341) (oe_ q341)
     cases e341
     replace hx341_0 := ce_ HB hx341_0
     replace hx341_1 := ce_ HB hx341_1
     replace hx341_2 := ce_ HB hx341_2
     replace hx341_3 := ce_ HB hx341_3
     have HR341_1 := am_ hi341_1
     have HC341_1 := am_ hl341_1
     clear hi341_1 hl341_1
     try go_wp2_with (first | ((with_reducible refine gn_ 7 rfl ?_); refine bq_ (N := 7) (cs := #[.string (⟨#[]⟩ : ByteArray), .slice none 0 0, .int .i64 0, .int .i64 0]) (t := 66) ?_; intro gb342 hg w22 BK342 hb; have GW342 := ga_ w hg; have GE342 := GW342; have NB335_342 := am_ ((nl_ hg BK335 : gb335 ≠ gb342)); have NB342_335 := am_ ((ng_ hg BK335 : gb342 ≠ gb335)); replace BK335 := bb_ BK335 hb; replace HB := bp_ hb; clear hb hg; have hnb23 := NB342_335.out; have hnc23 := NB335_342.out; have bz24 := bc4_ BK342))
     have n0_ : Aside0 (((((w22.setCell ⟨gb342, 0, none⟩ (.string ((aT l0_5 x6_1).f0))).setCell ⟨gb342, 1, none⟩ (.slice A341_1 ((aT l0_5 x6_1).f1).length c341_1)).setCell ⟨gb342, 2, none⟩ (.int .i64 ((aT l0_5 x6_1).f2))).setCell ⟨gb342, 3, none⟩ (.int .i64 ((aT l0_5 x6_1).f3))).heap[gb335]? = some (.cells #[.int .i64 a0_0, .int .i64 a0_1, .int .i64 a0_2, .int .i64 a0_3, .int .i64 a0_4, .slice (some ad341) l0_5.length c0_5, .slice A0_6 l0_6.length c0_6] 25 (0, 0))) := ⟨by (with_reducible repeat (first | refine blk_drewN ?_ _ | refine blk_drew ?_ | refine blk_alloc ?_ _)); refine blk_far ?_ NB335_342.out _; (with_reducible repeat (first | refine blk_drewN ?_ _ | refine blk_drew ?_ | refine blk_alloc ?_ _)); refine blk_far ?_ NB335_342.out _; (with_reducible repeat (first | refine blk_drewN ?_ _ | refine blk_drew ?_ | refine blk_alloc ?_ _)); refine blk_far ?_ NB335_342.out _; (with_reducible repeat (first | refine blk_drewN ?_ _ | refine blk_drew ?_ | refine blk_alloc ?_ _)); refine blk_far ?_ NB335_342.out _; (with_reducible repeat (first | refine blk_drewN ?_ _ | refine blk_drew ?_ | refine blk_alloc ?_ _)); exact BK335.out⟩
     have n1_ : Aside0 (((((w22.setCell ⟨gb342, 0, none⟩ (.string ((aT l0_5 x6_1).f0))).setCell ⟨gb342, 1, none⟩ (.slice A341_1 ((aT l0_5 x6_1).f1).length c341_1)).setCell ⟨gb342, 2, none⟩ (.int .i64 ((aT l0_5 x6_1).f2))).setCell ⟨gb342, 3, none⟩ (.int .i64 ((aT l0_5 x6_1).f3))).heap[gb342]? = some (.cells #[.string ((aT l0_5 x6_1).f0), .slice A341_1 ((aT l0_5 x6_1).f1).length c341_1, .int .i64 ((aT l0_5 x6_1).f2), .int .i64 ((aT l0_5 x6_1).f3)] 66 (0, 0))) := ⟨by (with_reducible repeat (first | refine blk_drewN ?_ _ | refine blk_drew ?_ | refine blk_alloc ?_ _)); refine blk_put (cs := #[.string ((aT l0_5 x6_1).f0), .slice A341_1 ((aT l0_5 x6_1).f1).length c341_1, .int .i64 ((aT l0_5 x6_1).f2), .int .i64 0]) ?_ 3 _ rfl; (with_reducible repeat (first | refine blk_drewN ?_ _ | refine blk_drew ?_ | refine blk_alloc ?_ _)); refine blk_put (cs := #[.string ((aT l0_5 x6_1).f0), .slice A341_1 ((aT l0_5 x6_1).f1).length c341_1, .int .i64 0, .int .i64 0]) ?_ 2 _ rfl; (with_reducible repeat (first | refine blk_drewN ?_ _ | refine blk_drew ?_ | refine blk_alloc ?_ _)); refine blk_put (cs := #[.string ((aT l0_5 x6_1).f0), .slice none 0 0, .int .i64 0, .int .i64 0]) ?_ 1 _ rfl; (with_reducible repeat (first | refine blk_drewN ?_ _ | refine blk_drew ?_ | refine blk_alloc ?_ _)); refine blk_put (cs := #[.string (⟨#[]⟩ : ByteArray), .slice none 0 0, .int .i64 0, .int .i64 0]) ?_ 0 _ rfl; (with_reducible repeat (first | refine blk_drewN ?_ _ | refine blk_drew ?_ | refine blk_alloc ?_ _)); exact BK342.out⟩
     have n2_ : Aside0 (Below w.heap.size w ((((w22.setCell ⟨gb342, 0, none⟩ (.string ((aT l0_5 x6_1).f0))).setCell ⟨gb342, 1, none⟩ (.slice A341_1 ((aT l0_5 x6_1).f1).length c341_1)).setCell ⟨gb342, 2, none⟩ (.int .i64 ((aT l0_5 x6_1).f2))).setCell ⟨gb342, 3, none⟩ (.int .i64 ((aT l0_5 x6_1).f3)))) := ⟨bl_⟩
     (try clear BK335)
     (try clear BK342)
     (try clear HB)
     generalize ((((w22.setCell ⟨gb342, 0, none⟩ (.string ((aT l0_5 x6_1).f0))).setCell ⟨gb342, 1, none⟩ (.slice A341_1 ((aT l0_5 x6_1).f1).length c341_1)).setCell ⟨gb342, 2, none⟩ (.int .i64 ((aT l0_5 x6_1).f2))).setCell ⟨gb342, 3, none⟩ (.int .i64 ((aT l0_5 x6_1).f3))) = w25 at n0_ n1_ n2_ ⊢
     have BK335 := n0_
     have BK342 := n1_
     have HB := n2_
     clear n0_ n1_ n2_
     replace BK335 := am_ (blk_drew BK335.out)
     replace BK342 := am_ (blk_drew BK342.out)
     replace HB := am_ (below_drew1 HB.out)
     refine start_ (n := 13) (S := fun w' => w'.cell? ⟨gb342, 0, none⟩ = some (.string ((aT l0_5 x6_1).f0)) ∧ w'.cell? ⟨gb342, 1, none⟩ = some (.slice A341_1 ((aT l0_5 x6_1).f1).length c341_1) ∧ w'.cell? ⟨gb342, 2, none⟩ = some (.int .i64 ((aT l0_5 x6_1).f2)) ∧ w'.cell? ⟨gb342, 3, none⟩ = some (.int .i64 ((aT l0_5 x6_1).f3))) (ds := []) (bv 13 0) (by kernel_rfl) rfl rfl ⟨(blk_cell BK342.out 0).trans rfl, (blk_cell BK342.out 1).trans rfl, (blk_cell BK342.out 2).trans rfl, (blk_cell BK342.out 3).trans rfl⟩ (fun hHeld => ?_); refine with_tabW aQ.tab9 aQ.bits9 (fun HT_ HW_ => ?_)
     generalize w25.drew = w26 at BK335 BK342 HB hHeld ⊢
     refine pu_ 0 44 (bv 13 1) ?_
     refine pu_ 1 45 (bv 13 3) ?_
     refine pu_ 4 48 (bv 13 19) ?_
     refine pu_ 6 50 (bv 13 83) ?_
     refine tk_ 2 46 (bv 13 87) hHeld ?_
     refine pu_ 3 47 (bv 13 95) ?_
     refine tk_ 5 49 (bv 13 127) hHeld ?_
     refine tk_ 7 51 (bv 13 255) hHeld ?_
     refine one_ (i := 8) (N := some 52) (bv 13 511) rfl rfl (one_of HT_.out (by kernel_rfl)) (by decide) (fun K hK => ?_)
     refine Kd.R_lit_step (Kd.int .i64) _ 3 ?hg (N := 52) ?hd (xs := ([(aT l0_5 x6_1).f2, (aT l0_5 x6_1).f3] : List Int)) (inner := [.int .i64 ((aT l0_5 x6_1).f2), .int .i64 ((aT l0_5 x6_1).f3)]) (ok := fun _ => True) (okp := fun _ => True) ?hr ?hp (fun _ hk => hk) trivial (Below.refl _ _) (Nat.le_refl _) (by simp) ?_; (case hd => rfl); (case hg => rfl); (case hr => first | (go_simp; done) | (go_simp; rfl)); (case hp => exact (Reps.one (show Kd.M (Kd.int .i64) _ _ _ ((aT l0_5 x6_1).f2) [.int .i64 ((aT l0_5 x6_1).f2)] from rfl) (Reps.one (show Kd.M (Kd.int .i64) _ _ _ ((aT l0_5 x6_1).f3) [.int .i64 ((aT l0_5 x6_1).f3)] from rfl) (Reps.none _ _))))
     intro v344 w27 ho28 hb hg_ hnew_
     clear hg_ hnew_
     (first | rw [← Ny343.out] at ho28 | (simp only [Int.reduceToNat] at ho28; rw [← Ny343.out] at ho28))
     have HO345 := am_ (Kd.R_lower ho28 (below_size bl_))
     replace BK335 := bb_ BK335 hb
     replace BK342 := bb_ BK342 hb
     replace HB := bp_ hb
     clear hb ho28
     obtain ⟨Ao29, co29, eo29⟩ := Kd.R_slice HO345.out
     (first | subst eo29 | (injection eo29 with f1_ f2_ f3_; have f4_ := f1_.symm; have f5_ := f3_.symm; clear f1_ f2_ f3_; subst f4_; subst f5_))
     refine hK.out _ _ ⟨(blk_cell BK342.out 0).trans rfl, (blk_cell BK342.out 1).trans rfl, (blk_cell BK342.out 2).trans rfl, (blk_cell BK342.out 3).trans rfl⟩ (fun hHeld => ?_)
     clear hK K
     refine norm_ (a' := ?_) ?_ ?_
     rotate_left
     · show Act.put _ (some 52) _ = _
       simp only [Act.put, List.setIfInBounds_toArray, List.set_cons_zero, List.set_cons_succ, i64_w, i32_w]
       rfl
     refine one_ (i := 9) (N := some 53) (bv 13 1023) rfl rfl (one_of HT_.out (by kernel_rfl)) (by decide) (fun K hK => ?_)
     refine goes_ Tryz.func31 (by kernel_rfl) rfl #[.slice Ao29 y343.length co29] (by rfl) rfl rfl (by (try simp only [List.map_toArray, List.map_cons, List.map_nil]); first | done | rfl | (simp only [List.length_drop, List.length_take]; rfl)) ?_
     with_reducible refine (bK.calls k1 _ _ y343 t346 _ ?s1 ?s2 ?s3 A18.out).mono ?_
     (case s1 => exact gw_ HG.out)
     (case s2 => repeat (first | exact (Kd.R_reads' HO345.out).2.2 | (with_reducible refine Kd.C_alloc ?_ _) | (with_reducible refine Kd.C_drewN ?_ _) | (with_reducible refine Kd.C_drew ?_)))
     (case s3 => exact (Kd.R_reads' HO345.out).2.1)
     rintro e w30 ⟨rfl, hb⟩
     refine ⟨_, rfl, ?_⟩
     replace HO345 := am_ (Kd.R_below (rr_ HO345) hb)
     replace BK335 := bb_ BK335 hb
     replace BK342 := bb_ BK342 hb
     replace HB := bp_ hb
     (try clear hb)
     (try clear hb2)
     (try clear hk)
     (try clear hi)
     refine hK.out _ _ ⟨(blk_cell BK342.out 0).trans rfl, (blk_cell BK342.out 1).trans rfl, (blk_cell BK342.out 2).trans rfl, (blk_cell BK342.out 3).trans rfl⟩ (fun hHeld => ?_)
     clear hK K
     refine norm_ (a' := ?_) ?_ ?_
     rotate_left
     · show Act.put _ (some 53) _ = _
       simp only [Act.put, List.setIfInBounds_toArray, List.set_cons_zero, List.set_cons_succ, i64_w, i32_w]
       rfl
     refine pu_ 10 54 (bv 13 2047) ?_
     refine pu_ 11 55 (bv 13 4095) ?_
     refine pu_ 12 5 (bv 13 8191) ?_
     refine done_ (done_of HT_.out (by kernel_rfl)) ?_
     try go_wp2
     go_loopg [5, 8] k1 (fun kq v5 v8 w' => ∃ (x5_2 : ByteArray) (x8_2 : Int), v5 = .string x5_2 ∧ v8 = .int .i64 x8_2 ∧ Aside0 (aQ.l1 kq x5_2 x6_1 x8_2 a0_0 a0_1 a0_2 a0_3 a0_4 l0_5 l0_6 ((aT l0_5 x6_1).f0) ((aT l0_5 x6_1).f1) ((aT l0_5 x6_1).f2) ((aT l0_5 x6_1).f3) = some (r1, r2)) ∧ Aside0 (kq ≤ k1) ∧ Aside0 (w'.heap[gb335]? = some (.cells #[.int .i64 a0_0, .int .i64 a0_1, .int .i64 a0_2, .int .i64 a0_3, .int .i64 a0_4, (.slice (some ad341) l0_5.length c0_5), (.slice A0_6 l0_6.length c0_6)] 25 (0, 0))) ∧ Aside0 (w'.heap[gb342]? = some (.cells #[.string ((aT l0_5 x6_1).f0), (.slice A341_1 ((aT l0_5 x6_1).f1).length c341_1), .int .i64 ((aT l0_5 x6_1).f2), .int .i64 ((aT l0_5 x6_1).f3)] 66 (0, 0))) ∧ Aside0 (Below w.heap.size w w'))
     case atStart => exact ⟨(x5_1 ++ (((⟨#[99, 108, 97, 115, 115, 32]⟩ : ByteArray) ++ ((aT l0_5 x6_1).f0)) ++ t346)), (0), ra_, ra_, H, ⟨Nat.le_refl _⟩, ⟨bk_ BK335⟩, ⟨bk_ BK342⟩, ⟨bl_⟩⟩
     case round =>
      clear H
      try clear c1
      try clear c2
      try clear p2
      try clear c3
      try clear c3b0
      try clear c3b1
      try clear p3
      try clear q3
      try clear hx3
      try clear c5
      try clear c5b0
      try clear c5b1
      try clear c5b2
      try clear c6
      try clear c6b0
      try clear c6b1
      try clear c6b2
      try clear c11
      try clear c13
      try clear c15
      try clear c15b0
      try clear c16
      try clear c16b0
      try clear c17
      try clear c17b0
      try clear c17b1
      try clear c17b2
      try clear c19
      try clear c19b0
      try clear c19b1
      try clear c19b2
      try clear c20
      try clear c20b0
      try clear c20b1
      try clear c20b2
      try clear c23
      try clear bz10
      try clear bz21
      try clear bz24
      try clear bz8
      try clear hx341_0
      try clear hx341_1
      try clear hx341_2
      try clear hx341_3
      try clear p2
      try clear p341
      try clear q341
      obtain ⟨x5_2, x8_2, rfl, rfl, HA, HK2, BK335, BK342, HB⟩ := hrel
      cases gk with
      | zero => exact absurd HA.out (by simp [aQ.l1])
      | succ k2 =>
       have H := HA.out
       clear HA
       simp only [aQ.l1] at H
       by_cases c31 : x8_2 < (((aT l0_5 x6_1).f1).length : Int)
       rotate_left
       · rw [if_neg c31] at H
         have c31b0 := decide_eq_false c31
         clear c31
         obtain ⟨c37, H⟩ := ifn_ H
         have c37b0 := eq_true c37
         have c37b1 := decide_eq_true c37
         try have c37b2 : (9223372036854775807 < x5_2.size + 1) = False := eq_false (Nat.not_lt.2 c37)
         replace H := am_ H
         have hnb38 := NB342_335.out
         have hnc38 := NB335_342.out
         have bz39 := bc4_ BK342
         go_wp2
         go_roundg k2
         case measure => have := HK1.out; have := HK2.out; omega
         case rel => exact ⟨(x5_2 ++ (⟨#[10]⟩ : ByteArray)), (wrap64 (x6_1 + 1)), ra_, ra_, H, ⟨by have := HK1.out; have := HK2.out; omega⟩, ⟨bk_ BK335⟩, ⟨bl_⟩⟩
       rw [if_pos c31] at H
       have c31b0 := decide_eq_true c31
       clear c31
       obtain ⟨c32b0, H⟩ := ifd_ H
       obtain ⟨c33, H⟩ := ifn_ H
       have c33b0 := eq_true c33
       have c33b1 := decide_eq_true c33
       try have c33b2 : (9223372036854775807 < 1 + (rdOf ByteArray.empty ((aT l0_5 x6_1).f1) x8_2).size) = False := eq_false (Nat.not_lt.2 c33)
       obtain ⟨c34, H⟩ := ifn_ H
       have c34b0 := eq_true c34
       have c34b1 := decide_eq_true c34
       try have c34b2 : (9223372036854775807 < x5_2.size + ((⟨#[32]⟩ : ByteArray) ++ (rdOf ByteArray.empty ((aT l0_5 x6_1).f1) x8_2)).size) = False := eq_false (Nat.not_lt.2 c34)
       try have c34b3 : (9223372036854775807 < x5_2.size + (1 + (rdOf ByteArray.empty ((aT l0_5 x6_1).f1) x8_2).size)) = False := eq_false (Nat.not_lt.2 (by have e_ : x5_2.size + ((⟨#[32]⟩ : ByteArray) ++ (rdOf ByteArray.empty ((aT l0_5 x6_1).f1) x8_2)).size = x5_2.size + (1 + (rdOf ByteArray.empty ((aT l0_5 x6_1).f1) x8_2).size) := (by simp only [ByteArray.size_append]; rfl); have h_ := c34; rw [e_] at h_; exact h_))
       replace H := am_ H
       have hnb35 := NB342_335.out
       have hnc35 := NB335_342.out
       have bz36 := bc4_ BK342
       have p347 := pt_ x8_2
       have q347 : x8_2 < (((aT l0_5 x6_1).f1).length : Int) := dt_
       obtain ⟨ad347, e347, hx347_0⟩ := Kd.at_string HR341_1.out x8_2 (oe_ p347) q347
       cases e347
       replace hx347_0 := ce_ HB hx347_0
       replace q347 := eq_true q347
       go_wp2
       go_roundg k2
       case measure => have := HK1.out; have := HK2.out; omega
       case rel => exact ⟨(x5_2 ++ ((⟨#[32]⟩ : ByteArray) ++ (rdOf ByteArray.empty ((aT l0_5 x6_1).f1) x8_2))), (wrap64 (x8_2 + 1)), ra_, ra_, H, ⟨by have := HK1.out; have := HK2.out; omega⟩, ⟨bk_ BK335⟩, ⟨bk_ BK342⟩, ⟨bl_⟩⟩
   rw [if_neg c15] at H
   have c15b0 := decide_eq_false c15
   clear c15
   replace H := am_ H
   have bz40 := bc7_ BK335
   go_wp2
   go_loopg [5, 9] k1 (fun kq v5 v9 w' => ∃ (x5_2 : ByteArray) (x9_2 : Int), v5 = .string x5_2 ∧ v9 = .int .i64 x9_2 ∧ Aside0 (aQ.l2 kq x5_2 x9_2 a0_0 a0_1 a0_2 a0_3 a0_4 l0_5 l0_6 = some (r1, r2)) ∧ Aside0 (kq ≤ k1) ∧ Aside0 (w'.heap[gb335]? = some (.cells #[.int .i64 a0_0, .int .i64 a0_1, .int .i64 a0_2, .int .i64 a0_3, .int .i64 a0_4, (.slice A0_5 l0_5.length c0_5), (.slice A0_6 l0_6.length c0_6)] 25 (0, 0))) ∧ Aside0 (Below w.heap.size w w'))
   case atStart => exact ⟨(x5_1), (0), ra_, ra_, H, ⟨Nat.le_refl _⟩, ⟨bk_ BK335⟩, ⟨bl_⟩⟩
   case round =>
    clear H
    try clear c1
    try clear c2
    try clear p2
    try clear c3
    try clear c3b0
    try clear c3b1
    try clear p3
    try clear q3
    try clear hx3
    try clear c5
    try clear c5b0
    try clear c5b1
    try clear c5b2
    try clear c6
    try clear c6b0
    try clear c6b1
    try clear c6b2
    try clear p6
    try clear c11
    try clear c13
    try clear c15
    try clear c15b0
    try clear c16
    try clear c16b0
    try clear c17
    try clear c17b0
    try clear c17b1
    try clear c17b2
    try clear c19
    try clear c19b0
    try clear c19b1
    try clear c19b2
    try clear c20
    try clear c20b0
    try clear c20b1
    try clear c20b2
    try clear c23
    try clear c31
    try clear c31b0
    try clear c32
    try clear c32b0
    try clear c33
    try clear c33b0
    try clear c33b1
    try clear c33b2
    try clear c34
    try clear c34b0
    try clear c34b1
    try clear c34b2
    try clear p34
    try clear q34
    try clear hx34
    try clear c35
    try clear c37
    try clear c37b0
    try clear c37b1
    try clear c37b2
    try clear c38
    try clear bz10
    try clear bz21
    try clear bz24
    try clear bz36
    try clear bz39
    try clear bz40
    try clear bz8
    try clear hx341_0
    try clear hx341_1
    try clear hx341_2
    try clear hx341_3
    try clear hx347_0
    try clear p2
    try clear p3
    try clear p341
    try clear p347
    try clear q3
    try clear q341
    try clear q347
    obtain ⟨x5_2, x9_2, rfl, rfl, HA, HK2, BK335, HB⟩ := hrel
    cases gk with
    | zero => exact absurd HA.out (by simp [aQ.l2])
    | succ k2 =>
     have H := HA.out
     clear HA
     simp only [aQ.l2] at H
     by_cases c41 : x9_2 < (l0_6.length : Int)
     rotate_left
     · rw [if_neg c41] at H
       have c41b0 := decide_eq_false c41
       clear c41
       by_cases c71 : (x5_2.size : Int) > 200000
       · rw [if_pos c71] at H
         have c71b0 : decide (200000 < (x5_2.size : Int)) = true := decide_eq_true c71
         have c71b1 : decide (200000 < x5_2.size) = true := decide_eq_true (by omega)
         clear c71
         simp only [Option.some.injEq, Prod.mk.injEq] at H
         obtain ⟨rfl, rfl⟩ := H
         have bz72 := bc7_ BK335
         go_wp2
         go_ret2
         exact ⟨er_, bl_⟩
       rw [if_neg c71] at H
       have c71b0 : decide (200000 < (x5_2.size : Int)) = false := decide_eq_false c71
       have c71b1 : decide (200000 < x5_2.size) = false := decide_eq_false (by omega)
       clear c71
       simp only [Option.some.injEq, Prod.mk.injEq] at H
       obtain ⟨rfl, rfl⟩ := H
       have bz73 := bc7_ BK335
       go_wp2
       go_ret2
       exact ⟨er_, bl_⟩
     rw [if_pos c41] at H
     have c41b0 := decide_eq_true c41
     clear c41
     obtain ⟨c42b0, H⟩ := ifd_ H
     obtain ⟨y350, hy350⟩ : ∃ y_ : List Int, y_ = (([(aV l0_6 x9_2).f0, (aV l0_6 x9_2).f2] : List Int)) := ⟨_, rfl⟩
     replace H : ((bK.f k2 y350).bind fun t353 => (if 4 + t353.size ≤ 9223372036854775807 then (if x5_2.size + ((⟨#[97, 114, 101, 97]⟩ : ByteArray) ++ t353).size ≤ 9223372036854775807 then (aQ.l3 k2 (x5_2 ++ ((⟨#[97, 114, 101, 97]⟩ : ByteArray) ++ t353)) x9_2 0 a0_0 a0_1 a0_2 a0_3 a0_4 l0_5 l0_6 ((aV l0_6 x9_2).f0) ((aV l0_6 x9_2).f1) ((aV l0_6 x9_2).f2)) else (none)) else (none))) = some (r1, r2) := by first | (rw [hy350]; with_reducible exact H) | (have H2_ := (Option.bind_some _ _).symm.trans H; rw [hy350]; with_reducible exact H2_) | (have H2_ := (Option.bind_some _ _).symm.trans H; with_reducible exact H2_) | with_reducible exact H | (rw [hy350]; exact H) | exact H
     have Ny350 := am_ hy350
     clear hy350
     obtain ⟨t353, A43, H⟩ := bs_ H
     obtain ⟨c44, H⟩ := ifn_ H
     have c44b0 := eq_true c44
     have c44b1 := decide_eq_true c44
     try have c44b2 : (9223372036854775807 < 4 + t353.size) = False := eq_false (Nat.not_lt.2 c44)
     obtain ⟨c45, H⟩ := ifn_ H
     have c45b0 := eq_true c45
     have c45b1 := decide_eq_true c45
     try have c45b2 : (9223372036854775807 < x5_2.size + ((⟨#[97, 114, 101, 97]⟩ : ByteArray) ++ t353).size) = False := eq_false (Nat.not_lt.2 c45)
     try have c45b3 : (9223372036854775807 < x5_2.size + (4 + t353.size)) = False := eq_false (Nat.not_lt.2 (by have e_ : x5_2.size + ((⟨#[97, 114, 101, 97]⟩ : ByteArray) ++ t353).size = x5_2.size + (4 + t353.size) := (by simp only [ByteArray.size_append]; rfl); have h_ := c45; rw [e_] at h_; exact h_))
     replace H := am_ H
     have bz46 := bc7_ BK335
     have p348 := pt_ x9_2
     have q348 := qt_ x9_2 l0_6.length
     obtain ⟨ad348, A348_1, c348_1, e348, hx348_0, hx348_1, hx348_2, hl348_1, hi348_1⟩ := iQ HR0_6.out x9_2 (oe_ p348) (oe_ q348)
     cases e348
     replace hx348_0 := ce_ HB hx348_0
     replace hx348_1 := ce_ HB hx348_1
     replace hx348_2 := ce_ HB hx348_2
     have HR348_1 := am_ hi348_1
     have HC348_1 := am_ hl348_1
     clear hi348_1 hl348_1
     go_wp2_with (first | ((with_reducible refine gn_ 10 rfl ?_); refine bq_ (N := 10) (cs := #[.int .i64 0, .slice none 0 0, .int .i64 0]) (t := 68) ?_; intro gb349 hg w47 BK349 hb; have GW349 := ga_ w hg; have GE349 := GW349; have NB335_349 := am_ ((nl_ hg BK335 : gb335 ≠ gb349)); have NB349_335 := am_ ((ng_ hg BK335 : gb349 ≠ gb335)); replace BK335 := bb_ BK335 hb; replace HB := bp_ hb; clear hb hg; have hnb48 := NB349_335.out; have hnc48 := NB335_349.out; have bz49 := bc3_ BK349) | ((with_reducible refine gn_ 90 rfl ?_); refine Kd.R_lit (Kd.int .i64) _ 3 ?hg (N := 90) ?hd (xs := ([(aV l0_6 x9_2).f0, (aV l0_6 x9_2).f2] : List Int)) (inner := [.int .i64 ((aV l0_6 x9_2).f0), .int .i64 ((aV l0_6 x9_2).f2)]) (ok := fun _ => True) (okp := fun _ => True) ?hr ?hp (fun _ hk => hk) trivial (Below.refl _ _) (Nat.le_refl _) (by simp) ?_; (case hd => rfl); (case hg => rfl); (case hr => first | (go_simp; done) | (go_simp; rfl)); (case hp => exact (Reps.one (show Kd.M (Kd.int .i64) _ _ _ ((aV l0_6 x9_2).f0) [.int .i64 ((aV l0_6 x9_2).f0)] from rfl) (Reps.one (show Kd.M (Kd.int .i64) _ _ _ ((aV l0_6 x9_2).f2) [.int .i64 ((aV l0_6 x9_2).f2)] from rfl) (Reps.none _ _)))); intro v351 w50 ho51 hb hg_ hnew_; clear hg_ hnew_; (first | rw [← Ny350.out] at ho51 | (simp only [Int.reduceToNat] at ho51; rw [← Ny350.out] at ho51)); have HO352 := am_ (Kd.R_lower ho51 (below_size bl_)); replace BK335 := am_ (blk_below (g := gb335) (o := .cells #[.int .i64 a0_0, .int .i64 a0_1, .int .i64 a0_2, .int .i64 a0_3, .int .i64 a0_4, .slice A0_5 l0_5.length c0_5, .slice (some ad348) l0_6.length c0_6] 25 (0, 0)) (bw_ BK335) hb); replace BK349 := am_ (blk_below (g := gb349) (o := .cells #[.int .i64 ((aV l0_6 x9_2).f0), .slice A348_1 ((aV l0_6 x9_2).f1).length c348_1, .int .i64 ((aV l0_6 x9_2).f2)] 68 (0, 0)) (bw_ BK349) hb); replace HB := bp_ hb; clear hb ho51; obtain ⟨Ao52, co52, eo52⟩ := Kd.R_slice HO352.out; subst eo52) | ((with_reducible refine gf_ 31 rfl ?_); refine gl_ (some 91) Tryz.func31 #[.slice Ao52 y350.length co52] ?_; refine (bK.calls k2 _ _ y350 t353 _ (gw_ HG.out) (cb_ (Kd.R_reads' HO352.out).2.2) ((Kd.R_reads' HO352.out).2.1) A43.out).mono ?_; rintro e w53 ⟨rfl, hb⟩; refine ⟨_, rfl, ?_⟩; replace HO352 := am_ (Kd.R_below (rr_ HO352) hb); replace BK335 := bb_ BK335 hb; replace BK349 := bb_ BK349 hb; replace HB := bp_ hb; (try clear hb)))
     go_loopg [5, 11] k2 (fun kq v5 v11 w' => ∃ (x5_3 : ByteArray) (x11_3 : Int), v5 = .string x5_3 ∧ v11 = .int .i64 x11_3 ∧ Aside0 (aQ.l3 kq x5_3 x9_2 x11_3 a0_0 a0_1 a0_2 a0_3 a0_4 l0_5 l0_6 ((aV l0_6 x9_2).f0) ((aV l0_6 x9_2).f1) ((aV l0_6 x9_2).f2) = some (r1, r2)) ∧ Aside0 (kq ≤ k2) ∧ Aside0 (w'.heap[gb335]? = some (.cells #[.int .i64 a0_0, .int .i64 a0_1, .int .i64 a0_2, .int .i64 a0_3, .int .i64 a0_4, (.slice A0_5 l0_5.length c0_5), (.slice (some ad348) l0_6.length c0_6)] 25 (0, 0))) ∧ Aside0 (w'.heap[gb349]? = some (.cells #[.int .i64 ((aV l0_6 x9_2).f0), (.slice A348_1 ((aV l0_6 x9_2).f1).length c348_1), .int .i64 ((aV l0_6 x9_2).f2)] 68 (0, 0))) ∧ Aside0 (Below w.heap.size w w'))
     case atStart => exact ⟨(x5_2 ++ ((⟨#[97, 114, 101, 97]⟩ : ByteArray) ++ t353)), (0), ra_, ra_, H, ⟨Nat.le_refl _⟩, ⟨bk_ BK335⟩, ⟨bk_ BK349⟩, ⟨bl_⟩⟩
     case round =>
      clear H
      try clear c1
      try clear c2
      try clear p2
      try clear c3
      try clear c3b0
      try clear c3b1
      try clear p3
      try clear q3
      try clear hx3
      try clear c4
      try clear c5
      try clear c5b0
      try clear c5b1
      try clear c5b2
      try clear c6
      try clear c6b0
      try clear c6b1
      try clear c6b2
      try clear p6
      try clear c11
      try clear c13
      try clear c15
      try clear c15b0
      try clear c16
      try clear c16b0
      try clear c17
      try clear c17b0
      try clear c17b1
      try clear c17b2
      try clear c19
      try clear c19b0
      try clear c19b1
      try clear c19b2
      try clear c20
      try clear c20b0
      try clear c20b1
      try clear c20b2
      try clear c23
      try clear c31
      try clear c31b0
      try clear c32
      try clear c32b0
      try clear c33
      try clear c33b0
      try clear c33b1
      try clear c33b2
      try clear c34
      try clear c34b0
      try clear c34b1
      try clear c34b2
      try clear p34
      try clear q34
      try clear hx34
      try clear c35
      try clear c37
      try clear c37b0
      try clear c37b1
      try clear c37b2
      try clear c38
      try clear c41
      try clear c41b0
      try clear c42
      try clear c42b0
      try clear c44
      try clear c44b0
      try clear c44b1
      try clear c44b2
      try clear c45
      try clear c45b0
      try clear c45b1
      try clear c45b2
      try clear c48
      try clear bz10
      try clear bz21
      try clear bz24
      try clear bz36
      try clear bz39
      try clear bz40
      try clear bz46
      try clear bz49
      try clear bz8
      try clear hx341_0
      try clear hx341_1
      try clear hx341_2
      try clear hx341_3
      try clear hx347_0
      try clear hx348_0
      try clear hx348_1
      try clear hx348_2
      try clear p2
      try clear p3
      try clear p34
      try clear p341
      try clear p347
      try clear p348
      try clear p6
      try clear q3
      try clear q34
      try clear q341
      try clear q347
      try clear q348
      obtain ⟨x5_3, x11_3, rfl, rfl, HA, HK3, BK335, BK349, HB⟩ := hrel
      cases gk with
      | zero => exact absurd HA.out (by simp [aQ.l3])
      | succ k3 =>
       have H := HA.out
       clear HA
       simp only [aQ.l3] at H
       by_cases c54 : x11_3 < (((aV l0_6 x9_2).f1).length : Int)
       rotate_left
       · rw [if_neg c54] at H
         have c54b0 := decide_eq_false c54
         clear c54
         obtain ⟨c68, H⟩ := ifn_ H
         have c68b0 := eq_true c68
         have c68b1 := decide_eq_true c68
         try have c68b2 : (9223372036854775807 < x5_3.size + 1) = False := eq_false (Nat.not_lt.2 c68)
         replace H := am_ H
         have hnb69 := NB349_335.out
         have hnc69 := NB335_349.out
         have bz70 := bc3_ BK349
         go_wp2
         go_roundg k3
         case measure => have := HK1.out; have := HK2.out; have := HK3.out; omega
         case rel => exact ⟨(x5_3 ++ (⟨#[10]⟩ : ByteArray)), (wrap64 (x9_2 + 1)), ra_, ra_, H, ⟨by have := HK1.out; have := HK2.out; have := HK3.out; omega⟩, ⟨bk_ BK335⟩, ⟨bl_⟩⟩
       rw [if_pos c54] at H
       have c54b0 := decide_eq_true c54
       clear c54
       obtain ⟨c55b0, H⟩ := ifd_ H
       obtain ⟨y356, hy356⟩ : ∃ y_ : List Int, y_ = (([(aI ((aV l0_6 x9_2).f1) x11_3).f0, (aI ((aV l0_6 x9_2).f1) x11_3).f1, (aI ((aV l0_6 x9_2).f1) x11_3).f2, (aI ((aV l0_6 x9_2).f1) x11_3).f3] : List Int)) := ⟨_, rfl⟩
       replace H : ((bK.f k3 y356).bind fun t359 => (if x5_3.size + t359.size ≤ 9223372036854775807 then (aQ.l3 k3 (x5_3 ++ t359) x9_2 (wrap64 (x11_3 + 1)) a0_0 a0_1 a0_2 a0_3 a0_4 l0_5 l0_6 ((aV l0_6 x9_2).f0) ((aV l0_6 x9_2).f1) ((aV l0_6 x9_2).f2)) else (none))) = some (r1, r2) := by first | (rw [hy356]; with_reducible exact H) | (have H2_ := (Option.bind_some _ _).symm.trans H; rw [hy356]; with_reducible exact H2_) | (have H2_ := (Option.bind_some _ _).symm.trans H; with_reducible exact H2_) | with_reducible exact H | (rw [hy356]; exact H) | exact H
       have Ny356 := am_ hy356
       clear hy356
       obtain ⟨t359, A56, H⟩ := bs_ H
       obtain ⟨c57, H⟩ := ifn_ H
       have c57b0 := eq_true c57
       have c57b1 := decide_eq_true c57
       try have c57b2 : (9223372036854775807 < x5_3.size + t359.size) = False := eq_false (Nat.not_lt.2 c57)
       replace H := am_ H
       have hnb58 := NB349_335.out
       have hnc58 := NB335_349.out
       have bz59 := bc3_ BK349
       have p354 := pt_ x11_3
       have q354 : x11_3 < (((aV l0_6 x9_2).f1).length : Int) := dt_
       obtain ⟨ad354, e354, hx354_0, hx354_1, hx354_2, hx354_3⟩ := dS HR348_1.out x11_3 (oe_ p354) q354
       cases e354
       replace hx354_0 := ce_ HB hx354_0
       replace hx354_1 := ce_ HB hx354_1
       replace hx354_2 := ce_ HB hx354_2
       replace hx354_3 := ce_ HB hx354_3
       replace q354 := eq_true q354
       go_wp2_with (first | ((with_reducible refine gn_ 12 rfl ?_); refine bq_ (N := 12) (cs := #[.int .i64 0, .int .i64 0, .int .i64 0, .int .i64 0]) (t := 44) ?_; intro gb355 hg w60 BK355 hb; have GW355 := ga_ w hg; have GE355 := GW355; have NB335_355 := am_ ((nl_ hg BK335 : gb335 ≠ gb355)); have NB355_335 := am_ ((ng_ hg BK335 : gb355 ≠ gb335)); have NB349_355 := am_ ((nl_ hg BK349 : gb349 ≠ gb355)); have NB355_349 := am_ ((ng_ hg BK349 : gb355 ≠ gb349)); replace BK335 := bb_ BK335 hb; replace BK349 := bb_ BK349 hb; replace HB := bp_ hb; clear hb hg; have hnb61 := NB355_335.out; have hnc61 := NB335_355.out; have hnb62 := NB355_349.out; have hnc62 := NB349_355.out; have bz63 := bc4_ BK355) | ((with_reducible refine gn_ 115 rfl ?_); refine Kd.R_lit (Kd.int .i64) _ 3 ?hg (N := 115) ?hd (xs := ([(aI ((aV l0_6 x9_2).f1) x11_3).f0, (aI ((aV l0_6 x9_2).f1) x11_3).f1, (aI ((aV l0_6 x9_2).f1) x11_3).f2, (aI ((aV l0_6 x9_2).f1) x11_3).f3] : List Int)) (inner := [.int .i64 ((aI ((aV l0_6 x9_2).f1) x11_3).f0), .int .i64 ((aI ((aV l0_6 x9_2).f1) x11_3).f1), .int .i64 ((aI ((aV l0_6 x9_2).f1) x11_3).f2), .int .i64 ((aI ((aV l0_6 x9_2).f1) x11_3).f3)]) (ok := fun _ => True) (okp := fun _ => True) ?hr ?hp (fun _ hk => hk) trivial (Below.refl _ _) (Nat.le_refl _) (by simp) ?_; (case hd => rfl); (case hg => rfl); (case hr => first | (go_simp; done) | (go_simp; rfl)); (case hp => exact (Reps.one (show Kd.M (Kd.int .i64) _ _ _ ((aI ((aV l0_6 x9_2).f1) x11_3).f0) [.int .i64 ((aI ((aV l0_6 x9_2).f1) x11_3).f0)] from rfl) (Reps.one (show Kd.M (Kd.int .i64) _ _ _ ((aI ((aV l0_6 x9_2).f1) x11_3).f1) [.int .i64 ((aI ((aV l0_6 x9_2).f1) x11_3).f1)] from rfl) (Reps.one (show Kd.M (Kd.int .i64) _ _ _ ((aI ((aV l0_6 x9_2).f1) x11_3).f2) [.int .i64 ((aI ((aV l0_6 x9_2).f1) x11_3).f2)] from rfl) (Reps.one (show Kd.M (Kd.int .i64) _ _ _ ((aI ((aV l0_6 x9_2).f1) x11_3).f3) [.int .i64 ((aI ((aV l0_6 x9_2).f1) x11_3).f3)] from rfl) (Reps.none _ _)))))); intro v357 w64 ho65 hb hg_ hnew_; clear hg_ hnew_; (first | rw [← Ny356.out] at ho65 | (simp only [Int.reduceToNat] at ho65; rw [← Ny356.out] at ho65)); have HO358 := am_ (Kd.R_lower ho65 (below_size bl_)); replace BK335 := am_ (blk_below (g := gb335) (o := .cells #[.int .i64 a0_0, .int .i64 a0_1, .int .i64 a0_2, .int .i64 a0_3, .int .i64 a0_4, .slice A0_5 l0_5.length c0_5, .slice (some ad348) l0_6.length c0_6] 25 (0, 0)) (bw_ BK335) hb); replace BK349 := am_ (blk_below (g := gb349) (o := .cells #[.int .i64 ((aV l0_6 x9_2).f0), .slice (some ad354) ((aV l0_6 x9_2).f1).length c348_1, .int .i64 ((aV l0_6 x9_2).f2)] 68 (0, 0)) (bw_ BK349) hb); replace BK355 := am_ (blk_below (g := gb355) (o := .cells #[.int .i64 ((aI ((aV l0_6 x9_2).f1) x11_3).f0), .int .i64 ((aI ((aV l0_6 x9_2).f1) x11_3).f1), .int .i64 ((aI ((aV l0_6 x9_2).f1) x11_3).f2), .int .i64 ((aI ((aV l0_6 x9_2).f1) x11_3).f3)] 44 (0, 0)) (bw_ BK355) hb); replace HB := bp_ hb; clear hb ho65; obtain ⟨Ao66, co66, eo66⟩ := Kd.R_slice HO358.out; subst eo66) | ((with_reducible refine gf_ 31 rfl ?_); refine gl_ (some 116) Tryz.func31 #[.slice Ao66 y356.length co66] ?_; refine (bK.calls k3 _ _ y356 t359 _ (gw_ HG.out) (cb_ (Kd.R_reads' HO358.out).2.2) ((Kd.R_reads' HO358.out).2.1) A56.out).mono ?_; rintro e w67 ⟨rfl, hb⟩; refine ⟨_, rfl, ?_⟩; replace HO358 := am_ (Kd.R_below (rr_ HO358) hb); replace BK335 := bb_ BK335 hb; replace BK349 := bb_ BK349 hb; replace BK355 := bb_ BK355 hb; replace HB := bp_ hb; (try clear hb)))
       go_roundg k3
       case measure => have := HK1.out; have := HK2.out; have := HK3.out; omega
       case rel => exact ⟨(x5_3 ++ t359), (wrap64 (x11_3 + 1)), ra_, ra_, H, ⟨by have := HK1.out; have := HK2.out; have := HK3.out; omega⟩, ⟨bk_ BK335⟩, ⟨bk_ BK349⟩, ⟨bl_⟩⟩
end Go.Proofs.YthkeonbmgcphkaaGreatDoor.PM
