import Derived.Test.YthkeonbmgcphkaaGreatDoorHg6
import Derived.Test.YthkeonbmgcphkaaGreatDoorHg18
import Derived.Test.YthkeonbmgcphkaaGreatDoorHg19
import Derived.Test.YthkeonbmgcphkaaGreatDoorHg26
import Derived.Test.YthkeonbmgcphkaaGreatDoorHg20
import Derived.Test.YthkeonbmgcphkaaGreatDoorHg27
namespace Go.Proofs.YthkeonbmgcphkaaGreatDoor.PM
open Go.RowKit Go.Proofs.YthkeonbmgcphkaaGreatDoorW.PrintWords Go.Proofs.YthkeonbmgcphkaaGreatDoorW.PrintLast Go.Proofs.YthkeonbmgcphkaaGreatDoorW.PrintMore
attribute [local go_sem] max2_int min2_int max_two min_two max_three min_three max_four min_four
set_option linter.unusedVariables false
set_option maxHeartbeats 8000000
set_option maxRecDepth 100000
set_option linter.unusedSimpArgs false
mutual
def aN.j0 : Nat → Bool → Int → Int → Int → Int → Int → List (S66) → List (S68) → Option (Int)
 | 0, _, _, _, _, _, _, _, _ => none
 | k + 1, x36, x322000, x322001, x322002, x322003, x322004, x322005, x322006 => if x36 = true then (some 1) else (if (x322005.length : Int) > 50 then (some 2) else (aN.l0 k 0 x322000 x322001 x322002 x322003 x322004 x322005 x322006))
def aN.l0 : Nat → Int → Int → Int → Int → Int → Int → List (S66) → List (S68) → Option (Int)
 | 0, _, _, _, _, _, _, _, _ => none
 | k + 1, x3, x322000, x322001, x322002, x322003, x322004, x322005, x322006 => if x3 < (x322005.length : Int) then ((aU.f k x322005 x3).bind fun t327 => (if t327 = 0 then (aN.l0 k (wrap64 (x3 + 1)) x322000 x322001 x322002 x322003 x322004 x322005 x322006) else (some t327))) else (if (x322006.length : Int) > 50 then (some 2) else (aN.l1 k 0 0 x322000 x322001 x322002 x322003 x322004 x322005 x322006))
def aN.l1 : Nat → Int → Int → Int → Int → Int → Int → Int → List (S66) → List (S68) → Option (Int)
 | 0, _, _, _, _, _, _, _, _, _ => none
 | k + 1, x5, x6, x322000, x322001, x322002, x322003, x322004, x322005, x322006 => if x6 < (x322006.length : Int) then (if 0 ≤ x6 then ((dG.f ((aV x322006 x6).f0) (-1) 15).bind fun t330 => (if t330 = true then ((bC.f k ((aV x322006 x6).f1)).bind fun t331 => (if t331 = 0 then ((aZ.f ((aV x322006 x6).f2)).bind fun t332 => (if t332 = true then (aN.l1 k (wrap64 (x5 + (((aV x322006 x6).f1).length : Int))) (wrap64 (x6 + 1)) x322000 x322001 x322002 x322003 x322004 x322005 x322006) else (some 1))) else (some t331))) else (some 1))) else (none)) else (if x5 > 2000 then (some 2) else (some 0))
end
def aN.f (k : Nat) (a0_0 : Int) (a0_1 : Int) (a0_2 : Int) (a0_3 : Int) (a0_4 : Int) (l0_5 : List (S66)) (l0_6 : List (S68)) : Option (Int) := (aZ.f a0_0).bind fun t322 => (if t322 = true then ((aZ.f a0_1).bind fun t323 => (if t323 = true then ((aZ.f a0_2).bind fun t324 => (if t324 = true then ((aZ.f a0_3).bind fun t325 => (if t325 = true then ((aZ.f a0_4).bind fun t326 => (aN.j0 k (!t326) a0_0 a0_1 a0_2 a0_3 a0_4 l0_5 l0_6)) else (aN.j0 k true a0_0 a0_1 a0_2 a0_3 a0_4 l0_5 l0_6))) else (aN.j0 k true a0_0 a0_1 a0_2 a0_3 a0_4 l0_5 l0_6))) else (aN.j0 k true a0_0 a0_1 a0_2 a0_3 a0_4 l0_5 l0_6))) else (aN.j0 k true a0_0 a0_1 a0_2 a0_3 a0_4 l0_5 l0_6))
theorem aN.calls (k : Nat) (a0_0 : Int) (a0_1 : Int) (a0_2 : Int) (a0_3 : Int) (a0_4 : Int) (A0_5 : Option Addr) (c0_5 : Nat) (l0_5 : List (S66)) (A0_6 : Option Addr) (c0_6 : Nat) (l0_6 : List (S68)) (r : Int) (w : World) (hG : Tryz.GW w) (hr0_5 : Kd.C k66 w A0_5 l0_5.length l0_5) (hc0_5 : l0_5.length ≤ c0_5) (hr0_6 : Kd.C k68 w A0_6 l0_6.length l0_6) (hc0_6 : l0_6.length ≤ c0_6) (h : aN.f k a0_0 a0_1 a0_2 a0_3 a0_4 l0_5 l0_6 = some r) :
 Calls Tryz.prog 13 #[.agg #[.int .i64 a0_0, .int .i64 a0_1, .int .i64 a0_2, .int .i64 a0_3, .int .i64 a0_4, .slice A0_5 l0_5.length c0_5, .slice A0_6 l0_6.length c0_6]] w fun e w' => e = .returned (.int .i64 r) ∧ Below w.heap.size w w' := by
 have hu25 := Tryz.underlying25
 have hu68 := Tryz.underlying68
 have HR0_5 := am_ hr0_5
 have HC0_5 := am_ hc0_5
 clear hr0_5 hc0_5
 have HR0_6 := am_ hr0_6
 have HC0_6 := am_ hc0_6
 clear hr0_6 hc0_6
 have HG := am_ hG
 clear hG
 have HB := am_ (Below.refl w.heap.size w)
 have H : ((aZ.f a0_0).bind fun t322 => (if t322 = true then ((aZ.f a0_1).bind fun t323 => (if t323 = true then ((aZ.f a0_2).bind fun t324 => (if t324 = true then ((aZ.f a0_3).bind fun t325 => (if t325 = true then ((aZ.f a0_4).bind fun t326 => (aN.j0 k (!t326) a0_0 a0_1 a0_2 a0_3 a0_4 l0_5 l0_6)) else (aN.j0 k true a0_0 a0_1 a0_2 a0_3 a0_4 l0_5 l0_6))) else (aN.j0 k true a0_0 a0_1 a0_2 a0_3 a0_4 l0_5 l0_6))) else (aN.j0 k true a0_0 a0_1 a0_2 a0_3 a0_4 l0_5 l0_6))) else (aN.j0 k true a0_0 a0_1 a0_2 a0_3 a0_4 l0_5 l0_6))) = some r := h
 clear h
 have HC2 := am_ H
 clear H
 go_enter Tryz.func13, Tryz.ntmps13
 go_upto_region 1 with (first | ((with_reducible refine gn_ 1 rfl ?_); refine bq_ (N := 1) (cs := #[.int .i64 a0_0, .int .i64 a0_1, .int .i64 a0_2, .int .i64 a0_3, .int .i64 a0_4, .slice A0_5 l0_5.length c0_5, .slice A0_6 l0_6.length c0_6]) (t := 25) ?_; intro gb321 hg w3 BK321 hb; have GW321 := ga_ w hg; have GE321 := GW321; replace HB := bp_ hb; clear hb hg))
 (try simp only [Act.put, List.setIfInBounds_toArray, List.set_cons_zero, List.set_cons_succ])
 go_cut [36] (fun v36 wc => ∃ (kq : Nat) (x36_1 : Bool), v36 = .bool x36_1 ∧ Aside0 (aN.j0 kq x36_1 a0_0 a0_1 a0_2 a0_3 a0_4 l0_5 l0_6 = some r) ∧ Aside0 (kq ≤ k) ∧ Aside0 (wc.heap[gb321]? = some (.cells #[.int .i64 a0_0, .int .i64 a0_1, .int .i64 a0_2, .int .i64 a0_3, .int .i64 a0_4, (.slice A0_5 l0_5.length c0_5), (.slice A0_6 l0_6.length c0_6)] 25 (0, 0))) ∧ Aside0 (Below w.heap.size w wc))
 case first =>
  have H := HC2.out
  clear HC2
  obtain ⟨t322, A4, H⟩ := bs_ H
  by_cases c5 : t322 = true
  rotate_left
  · obtain rfl := bf_ c5
    clear c5
    rw [if_neg ft_] at H
    replace H := am_ H
    have bz17 := bc7_ BK321
    go_wp2_with (first | ((with_reducible refine gf_ 38 rfl ?_); refine gl_ (some 11) Tryz.func38 #[.int .i64 a0_0] ?_; refine (aZ.calls a0_0 false _ (gw_ HG.out) A4.out).mono ?_; rintro e w' ⟨rfl, ⟨nd, rfl⟩⟩; refine ⟨_, rfl, ?_⟩))
    go_meet
    case rel => exact ⟨_, (true), ra_, H, ⟨by first | omega | exact Nat.le_refl _⟩, ⟨bk_ BK321⟩, ⟨bl_⟩⟩
  subst c5
  rw [if_pos rfl] at H
  obtain ⟨t323, A6, H⟩ := bs_ H
  by_cases c7 : t323 = true
  rotate_left
  · obtain rfl := bf_ c7
    clear c7
    rw [if_neg ft_] at H
    replace H := am_ H
    have bz16 := bc7_ BK321
    go_wp2_with (first | ((with_reducible refine gf_ 38 rfl ?_); refine gl_ (some 11) Tryz.func38 #[.int .i64 a0_0] ?_; refine (aZ.calls a0_0 true _ (gw_ HG.out) A4.out).mono ?_; rintro e w' ⟨rfl, ⟨nd, rfl⟩⟩; refine ⟨_, rfl, ?_⟩) | (go_at_call 38; refine (aZ.calls a0_1 false _ (gw_ HG.out) A6.out).mono ?_; rintro e w' ⟨rfl, ⟨nd, rfl⟩⟩))
    go_meet
    case rel => exact ⟨_, (true), ra_, H, ⟨by first | omega | exact Nat.le_refl _⟩, ⟨bk_ BK321⟩, ⟨bl_⟩⟩
  subst c7
  rw [if_pos rfl] at H
  obtain ⟨t324, A8, H⟩ := bs_ H
  by_cases c9 : t324 = true
  rotate_left
  · obtain rfl := bf_ c9
    clear c9
    rw [if_neg ft_] at H
    replace H := am_ H
    have bz15 := bc7_ BK321
    go_wp2_with (first | ((with_reducible refine gf_ 38 rfl ?_); refine gl_ (some 11) Tryz.func38 #[.int .i64 a0_0] ?_; refine (aZ.calls a0_0 true _ (gw_ HG.out) A4.out).mono ?_; rintro e w' ⟨rfl, ⟨nd, rfl⟩⟩; refine ⟨_, rfl, ?_⟩) | (go_at_call 38; refine (aZ.calls a0_1 true _ (gw_ HG.out) A6.out).mono ?_; rintro e w' ⟨rfl, ⟨nd, rfl⟩⟩) | (go_at_call 38; refine (aZ.calls a0_2 false _ (gw_ HG.out) A8.out).mono ?_; rintro e w' ⟨rfl, ⟨nd, rfl⟩⟩))
    go_meet
    case rel => exact ⟨_, (true), ra_, H, ⟨by first | omega | exact Nat.le_refl _⟩, ⟨bk_ BK321⟩, ⟨bl_⟩⟩
  subst c9
  rw [if_pos rfl] at H
  obtain ⟨t325, A10, H⟩ := bs_ H
  by_cases c11 : t325 = true
  · subst c11
    rw [if_pos rfl] at H
    obtain ⟨t326, A12, H⟩ := bs_ H
    replace H := am_ H
    have bz13 := bc7_ BK321
    go_wp2_with (first | ((with_reducible refine gf_ 38 rfl ?_); refine gl_ (some 11) Tryz.func38 #[.int .i64 a0_0] ?_; refine (aZ.calls a0_0 true _ (gw_ HG.out) A4.out).mono ?_; rintro e w' ⟨rfl, ⟨nd, rfl⟩⟩; refine ⟨_, rfl, ?_⟩) | (go_at_call 38; refine (aZ.calls a0_1 true _ (gw_ HG.out) A6.out).mono ?_; rintro e w' ⟨rfl, ⟨nd, rfl⟩⟩) | (go_at_call 38; refine (aZ.calls a0_2 true _ (gw_ HG.out) A8.out).mono ?_; rintro e w' ⟨rfl, ⟨nd, rfl⟩⟩) | (go_at_call 38; refine (aZ.calls a0_3 true _ (gw_ HG.out) A10.out).mono ?_; rintro e w' ⟨rfl, ⟨nd, rfl⟩⟩) | (go_at_call 38; refine (aZ.calls a0_4 t326 _ (gw_ HG.out) A12.out).mono ?_; rintro e w' ⟨rfl, ⟨nd, rfl⟩⟩))
    go_meet
    case rel => exact ⟨_, (!t326), ra_, H, ⟨by first | omega | exact Nat.le_refl _⟩, ⟨bk_ BK321⟩, ⟨bl_⟩⟩
  obtain rfl := bf_ c11
  clear c11
  rw [if_neg ft_] at H
  replace H := am_ H
  have bz14 := bc7_ BK321
  go_wp2_with (first | ((with_reducible refine gf_ 38 rfl ?_); refine gl_ (some 11) Tryz.func38 #[.int .i64 a0_0] ?_; refine (aZ.calls a0_0 true _ (gw_ HG.out) A4.out).mono ?_; rintro e w' ⟨rfl, ⟨nd, rfl⟩⟩; refine ⟨_, rfl, ?_⟩) | (go_at_call 38; refine (aZ.calls a0_1 true _ (gw_ HG.out) A6.out).mono ?_; rintro e w' ⟨rfl, ⟨nd, rfl⟩⟩) | (go_at_call 38; refine (aZ.calls a0_2 true _ (gw_ HG.out) A8.out).mono ?_; rintro e w' ⟨rfl, ⟨nd, rfl⟩⟩) | (go_at_call 38; refine (aZ.calls a0_3 false _ (gw_ HG.out) A10.out).mono ?_; rintro e w' ⟨rfl, ⟨nd, rfl⟩⟩))
  go_meet
  case rel => exact ⟨_, (true), ra_, H, ⟨by first | omega | exact Nat.le_refl _⟩, ⟨bk_ BK321⟩, ⟨bl_⟩⟩
 case rest =>
  clear HC2
  try clear c1
  try clear p2
  try clear c3
  try clear c5
  try clear c7
  try clear c9
  try clear c11
  try clear c13
  try clear bz13
  try clear bz14
  try clear bz15
  try clear bz16
  try clear bz17
  obtain ⟨kq, x36_1, rfl, HA, HJ1, BK321, HB⟩ := hcut
  cases kq with
  | zero => exact absurd HA.out (by simp [aN.j0])
  | succ kj1 =>
   have H := HA.out
   clear HA
   simp only [aN.j0] at H
   by_cases c18 : x36_1 = true
   · subst c18
     rw [if_pos rfl] at H
     obtain rfl := sj_ H
     go_wp2
     go_ret
     exact ⟨er_, bl_⟩
   obtain rfl := bf_ c18
   clear c18
   rw [if_neg ft_] at H
   by_cases c19 : (l0_5.length : Int) > 50
   · rw [if_pos c19] at H
     have c19b0 : decide (50 < (l0_5.length : Int)) = true := decide_eq_true c19
     have c19b1 : decide (50 < l0_5.length) = true := decide_eq_true (by omega)
     clear c19
     obtain rfl := sj_ H
     have bz20 := bc7_ BK321
     go_wp2
     go_ret
     exact ⟨er_, bl_⟩
   rw [if_neg c19] at H
   have c19b0 : decide (50 < (l0_5.length : Int)) = false := decide_eq_false c19
   have c19b1 : decide (50 < l0_5.length) = false := decide_eq_false (by omega)
   clear c19
   replace H := am_ H
   have bz21 := bc7_ BK321
   go_wp2
   go_loopg [3] kj1 (fun kq v3 w' => ∃ (x3_2 : Int), v3 = .int .i64 x3_2 ∧ Aside0 (aN.l0 kq x3_2 a0_0 a0_1 a0_2 a0_3 a0_4 l0_5 l0_6 = some r) ∧ Aside0 (kq ≤ kj1) ∧ Aside0 (w'.heap[gb321]? = some (.cells #[.int .i64 a0_0, .int .i64 a0_1, .int .i64 a0_2, .int .i64 a0_3, .int .i64 a0_4, (.slice A0_5 l0_5.length c0_5), (.slice A0_6 l0_6.length c0_6)] 25 (0, 0))) ∧ Aside0 (Below w.heap.size w w'))
   case atStart => exact ⟨(0), ra_, H, ⟨Nat.le_refl _⟩, ⟨bk_ BK321⟩, ⟨bl_⟩⟩
   case round =>
    clear H
    try clear c1
    try clear p2
    try clear c3
    try clear c5
    try clear c7
    try clear c9
    try clear c11
    try clear c13
    try clear c18
    try clear c19
    try clear c19b0
    try clear c19b1
    try clear bz13
    try clear bz14
    try clear bz15
    try clear bz16
    try clear bz17
    try clear bz20
    try clear bz21
    try clear p2
    obtain ⟨x3_2, rfl, HA, HK2, BK321, HB⟩ := hrel
    cases gk with
    | zero => exact absurd HA.out (by simp [aN.l0])
    | succ k2 =>
     have H := HA.out
     clear HA
     simp only [aN.l0] at H
     by_cases c22 : x3_2 < (l0_5.length : Int)
     · rw [if_pos c22] at H
       have c22b0 := decide_eq_true c22
       clear c22
       obtain ⟨t327, A23, H⟩ := bs_ H
       by_cases c24 : t327 = 0
       · rw [if_pos c24] at H
         have c24b0 : (t327 == 0) = true := beq_iff_eq.mpr c24
         have c24b1 : (t327 != 0) = false := bne_eq_false_iff_eq.mpr c24
         clear c24
         replace H := am_ H
         have bz25 := bc7_ BK321
         go_wp2_with (first | ((with_reducible refine gf_ 39 rfl ?_); refine gl_ (some 51) Tryz.func39 #[.slice A0_5 l0_5.length c0_5, .int .i64 x3_2] ?_; refine (aU.calls k2 _ _ l0_5 x3_2 t327 _ (gw_ HG.out) (cb_ (Kd.C_below HR0_5.out HB.out)) HC0_5.out A23.out).mono ?_; rintro e w26 ⟨rfl, hb⟩; refine ⟨_, rfl, ?_⟩; replace BK321 := bb_ BK321 hb; replace HB := bp_ hb; (try clear hb)))
         go_roundg k2
         case measure => have := HJ1.out; have := HK2.out; omega
         case rel => exact ⟨(wrap64 (x3_2 + 1)), ra_, H, ⟨by have := HJ1.out; have := HK2.out; omega⟩, ⟨bk_ BK321⟩, ⟨bl_⟩⟩
       rw [if_neg c24] at H
       have c24b0 : (t327 == 0) = false := beq_eq_false_iff_ne.mpr c24
       have c24b1 : (t327 != 0) = true := bne_iff_ne.mpr c24
       obtain rfl := sj_ H
       have bz27 := bc7_ BK321
       go_wp2_with (first | ((with_reducible refine gf_ 39 rfl ?_); refine gl_ (some 51) Tryz.func39 #[.slice A0_5 l0_5.length c0_5, .int .i64 x3_2] ?_; refine (aU.calls k2 _ _ l0_5 x3_2 t327 _ (gw_ HG.out) (cb_ (Kd.C_below HR0_5.out HB.out)) HC0_5.out A23.out).mono ?_; rintro e w28 ⟨rfl, hb⟩; refine ⟨_, rfl, ?_⟩; replace BK321 := bb_ BK321 hb; replace HB := bp_ hb; (try clear hb)))
       go_ret
       exact ⟨er_, bl_⟩
     rw [if_neg c22] at H
     have c22b0 := decide_eq_false c22
     clear c22
     by_cases c29 : (l0_6.length : Int) > 50
     · rw [if_pos c29] at H
       have c29b0 : decide (50 < (l0_6.length : Int)) = true := decide_eq_true c29
       have c29b1 : decide (50 < l0_6.length) = true := decide_eq_true (by omega)
       clear c29
       obtain rfl := sj_ H
       have bz30 := bc7_ BK321
       go_wp2
       go_ret
       exact ⟨er_, bl_⟩
     rw [if_neg c29] at H
     have c29b0 : decide (50 < (l0_6.length : Int)) = false := decide_eq_false c29
     have c29b1 : decide (50 < l0_6.length) = false := decide_eq_false (by omega)
     clear c29
     replace H := am_ H
     have bz31 := bc7_ BK321
     go_wp2
     go_loopg [5, 6] k2 (fun kq v5 v6 w' => ∃ (x5_3 : Int) (x6_3 : Int), v5 = .int .i64 x5_3 ∧ v6 = .int .i64 x6_3 ∧ Aside0 (aN.l1 kq x5_3 x6_3 a0_0 a0_1 a0_2 a0_3 a0_4 l0_5 l0_6 = some r) ∧ Aside0 (kq ≤ k2) ∧ Aside0 (w'.heap[gb321]? = some (.cells #[.int .i64 a0_0, .int .i64 a0_1, .int .i64 a0_2, .int .i64 a0_3, .int .i64 a0_4, (.slice A0_5 l0_5.length c0_5), (.slice A0_6 l0_6.length c0_6)] 25 (0, 0))) ∧ Aside0 (Below w.heap.size w w'))
     case atStart => exact ⟨(0), (0), ra_, ra_, H, ⟨Nat.le_refl _⟩, ⟨bk_ BK321⟩, ⟨bl_⟩⟩
     case round =>
      clear H
      try clear c1
      try clear c2
      try clear p2
      try clear c3
      try clear c5
      try clear p6
      try clear c7
      try clear c9
      try clear c11
      try clear c13
      try clear c18
      try clear c19
      try clear c19b0
      try clear c19b1
      try clear c22
      try clear c22b0
      try clear c24
      try clear c24b0
      try clear c24b1
      try clear c29
      try clear c29b0
      try clear c29b1
      try clear bz13
      try clear bz14
      try clear bz15
      try clear bz16
      try clear bz17
      try clear bz20
      try clear bz21
      try clear bz25
      try clear bz27
      try clear bz30
      try clear bz31
      try clear p2
      obtain ⟨x5_3, x6_3, rfl, rfl, HA, HK3, BK321, HB⟩ := hrel
      cases gk with
      | zero => exact absurd HA.out (by simp [aN.l1])
      | succ k3 =>
       have H := HA.out
       clear HA
       simp only [aN.l1] at H
       by_cases c32 : x6_3 < (l0_6.length : Int)
       rotate_left
       · rw [if_neg c32] at H
         have c32b0 := decide_eq_false c32
         clear c32
         by_cases c61 : x5_3 > 2000
         · rw [if_pos c61] at H
           have c61b0 : decide (2000 < x5_3) = true := decide_eq_true c61
           clear c61
           obtain rfl := sj_ H
           have bz62 := bc7_ BK321
           go_wp2
           go_ret
           exact ⟨er_, bl_⟩
         rw [if_neg c61] at H
         have c61b0 : decide (2000 < x5_3) = false := decide_eq_false c61
         clear c61
         obtain rfl := sj_ H
         have bz63 := bc7_ BK321
         go_wp2
         go_ret
         exact ⟨er_, bl_⟩
       rw [if_pos c32] at H
       have c32b0 := decide_eq_true c32
       clear c32
       obtain ⟨c33b0, H⟩ := ifd_ H
       obtain ⟨t330, A34, H⟩ := bs_ H
       by_cases c35 : t330 = true
       rotate_left
       · obtain rfl := bf_ c35
         clear c35
         rw [if_neg ft_] at H
         obtain rfl := sj_ H
         have bz57 := bc7_ BK321
         have p328 := pt_ x6_3
         have q328 := qt_ x6_3 l0_6.length
         obtain ⟨ad328, A328_1, c328_1, e328, hx328_0, hx328_1, hx328_2, hl328_1, hi328_1⟩ := iQ HR0_6.out x6_3 (oe_ p328) (oe_ q328)
         cases e328
         replace hx328_0 := ce_ HB hx328_0
         replace hx328_1 := ce_ HB hx328_1
         replace hx328_2 := ce_ HB hx328_2
         have HR328_1 := am_ hi328_1
         have HC328_1 := am_ hl328_1
         clear hi328_1 hl328_1
         go_wp2_with (first | ((with_reducible refine gn_ 7 rfl ?_); refine bq_ (N := 7) (cs := #[.int .i64 0, .slice none 0 0, .int .i64 0]) (t := 68) ?_; intro gb329 hg w58 BK329 hb; have GW329 := ga_ w hg; have GE329 := GW329; have NB321_329 := am_ ((nl_ hg BK321 : gb321 ≠ gb329)); have NB329_321 := am_ ((ng_ hg BK321 : gb329 ≠ gb321)); replace BK321 := bb_ BK321 hb; replace HB := bp_ hb; clear hb hg; have hnb59 := NB329_321.out; have hnc59 := NB321_329.out; have bz60 := bc3_ BK329) | ((with_reducible refine gf_ 40 rfl ?_); refine gl_ (some 73) Tryz.func40 #[.int .i64 ((aV l0_6 x6_3).f0), .int .i64 (-1), .int .i64 15] ?_; refine (dG.calls ((aV l0_6 x6_3).f0) (-1) 15 false _ (gw_ HG.out) A34.out).mono ?_; rintro e w' ⟨rfl, ⟨nd, rfl⟩⟩; refine ⟨_, rfl, ?_⟩))
         go_ret
         exact ⟨er_, bl_⟩
       subst c35
       rw [if_pos rfl] at H
       obtain ⟨t331, A36, H⟩ := bs_ H
       by_cases c37 : t331 = 0
       rotate_left
       · rw [if_neg c37] at H
         have c37b0 : (t331 == 0) = false := beq_eq_false_iff_ne.mpr c37
         have c37b1 : (t331 != 0) = true := bne_iff_ne.mpr c37
         obtain rfl := sj_ H
         have bz52 := bc7_ BK321
         have p328 := pt_ x6_3
         have q328 := qt_ x6_3 l0_6.length
         obtain ⟨ad328, A328_1, c328_1, e328, hx328_0, hx328_1, hx328_2, hl328_1, hi328_1⟩ := iQ HR0_6.out x6_3 (oe_ p328) (oe_ q328)
         cases e328
         replace hx328_0 := ce_ HB hx328_0
         replace hx328_1 := ce_ HB hx328_1
         replace hx328_2 := ce_ HB hx328_2
         have HR328_1 := am_ hi328_1
         have HC328_1 := am_ hl328_1
         clear hi328_1 hl328_1
         go_wp2_with (first | ((with_reducible refine gn_ 7 rfl ?_); refine bq_ (N := 7) (cs := #[.int .i64 0, .slice none 0 0, .int .i64 0]) (t := 68) ?_; intro gb329 hg w53 BK329 hb; have GW329 := ga_ w hg; have GE329 := GW329; have NB321_329 := am_ ((nl_ hg BK321 : gb321 ≠ gb329)); have NB329_321 := am_ ((ng_ hg BK321 : gb329 ≠ gb321)); replace BK321 := bb_ BK321 hb; replace HB := bp_ hb; clear hb hg; have hnb54 := NB329_321.out; have hnc54 := NB321_329.out; have bz55 := bc3_ BK329) | ((with_reducible refine gf_ 40 rfl ?_); refine gl_ (some 73) Tryz.func40 #[.int .i64 ((aV l0_6 x6_3).f0), .int .i64 (-1), .int .i64 15] ?_; refine (dG.calls ((aV l0_6 x6_3).f0) (-1) 15 true _ (gw_ HG.out) A34.out).mono ?_; rintro e w' ⟨rfl, ⟨nd, rfl⟩⟩; refine ⟨_, rfl, ?_⟩) | ((with_reducible refine gf_ 41 rfl ?_); refine gl_ (some 77) Tryz.func41 #[.slice A328_1 ((aV l0_6 x6_3).f1).length c328_1] ?_; refine (bC.calls k3 _ _ ((aV l0_6 x6_3).f1) t331 _ (gw_ HG.out) (Kd.C_below HR328_1.out bl_) HC328_1.out A36.out).mono ?_; rintro e w56 ⟨rfl, hb⟩; refine ⟨_, rfl, ?_⟩; replace BK321 := am_ (blk_below (g := gb321) (o := .cells #[.int .i64 a0_0, .int .i64 a0_1, .int .i64 a0_2, .int .i64 a0_3, .int .i64 a0_4, .slice A0_5 l0_5.length c0_5, .slice (some ad328) l0_6.length c0_6] 25 (0, 0)) (bw_ BK321) hb); replace BK329 := am_ (blk_below (g := gb329) (o := .cells #[.int .i64 ((aV l0_6 x6_3).f0), .slice A328_1 ((aV l0_6 x6_3).f1).length c328_1, .int .i64 ((aV l0_6 x6_3).f2)] 68 (0, 0)) (bw_ BK329) hb); replace HB := bp_ hb; (try clear hb)))
         go_ret
         exact ⟨er_, bl_⟩
       rw [if_pos c37] at H
       have c37b0 : (t331 == 0) = true := beq_iff_eq.mpr c37
       have c37b1 : (t331 != 0) = false := bne_eq_false_iff_eq.mpr c37
       clear c37
       obtain ⟨t332, A38, H⟩ := bs_ H
       by_cases c39 : t332 = true
       · subst c39
         rw [if_pos rfl] at H
         replace H := am_ H
         have bz40 := bc7_ BK321
         have p328 := pt_ x6_3
         have q328 := qt_ x6_3 l0_6.length
         obtain ⟨ad328, A328_1, c328_1, e328, hx328_0, hx328_1, hx328_2, hl328_1, hi328_1⟩ := iQ HR0_6.out x6_3 (oe_ p328) (oe_ q328)
         cases e328
         replace hx328_0 := ce_ HB hx328_0
         replace hx328_1 := ce_ HB hx328_1
         replace hx328_2 := ce_ HB hx328_2
         have HR328_1 := am_ hi328_1
         have HC328_1 := am_ hl328_1
         clear hi328_1 hl328_1
         go_wp2_with (first | ((with_reducible refine gn_ 7 rfl ?_); refine bq_ (N := 7) (cs := #[.int .i64 0, .slice none 0 0, .int .i64 0]) (t := 68) ?_; intro gb329 hg w41 BK329 hb; have GW329 := ga_ w hg; have GE329 := GW329; have NB321_329 := am_ ((nl_ hg BK321 : gb321 ≠ gb329)); have NB329_321 := am_ ((ng_ hg BK321 : gb329 ≠ gb321)); replace BK321 := bb_ BK321 hb; replace HB := bp_ hb; clear hb hg; have hnb42 := NB329_321.out; have hnc42 := NB321_329.out; have bz43 := bc3_ BK329) | ((with_reducible refine gf_ 40 rfl ?_); refine gl_ (some 73) Tryz.func40 #[.int .i64 ((aV l0_6 x6_3).f0), .int .i64 (-1), .int .i64 15] ?_; refine (dG.calls ((aV l0_6 x6_3).f0) (-1) 15 true _ (gw_ HG.out) A34.out).mono ?_; rintro e w' ⟨rfl, ⟨nd, rfl⟩⟩; refine ⟨_, rfl, ?_⟩) | ((with_reducible refine gf_ 41 rfl ?_); refine gl_ (some 77) Tryz.func41 #[.slice A328_1 ((aV l0_6 x6_3).f1).length c328_1] ?_; refine (bC.calls k3 _ _ ((aV l0_6 x6_3).f1) t331 _ (gw_ HG.out) (Kd.C_below HR328_1.out bl_) HC328_1.out A36.out).mono ?_; rintro e w44 ⟨rfl, hb⟩; refine ⟨_, rfl, ?_⟩; replace BK321 := am_ (blk_below (g := gb321) (o := .cells #[.int .i64 a0_0, .int .i64 a0_1, .int .i64 a0_2, .int .i64 a0_3, .int .i64 a0_4, .slice A0_5 l0_5.length c0_5, .slice (some ad328) l0_6.length c0_6] 25 (0, 0)) (bw_ BK321) hb); replace BK329 := am_ (blk_below (g := gb329) (o := .cells #[.int .i64 ((aV l0_6 x6_3).f0), .slice A328_1 ((aV l0_6 x6_3).f1).length c328_1, .int .i64 ((aV l0_6 x6_3).f2)] 68 (0, 0)) (bw_ BK329) hb); replace HB := bp_ hb; (try clear hb); have bz45 := bc3_ BK329) | ((with_reducible refine gf_ 38 rfl ?_); refine gl_ (some 83) Tryz.func38 #[.int .i64 ((aV l0_6 x6_3).f2)] ?_; refine (aZ.calls ((aV l0_6 x6_3).f2) true _ (gw_ HG.out) A38.out).mono ?_; rintro e w' ⟨rfl, ⟨nd, rfl⟩⟩; refine ⟨_, rfl, ?_⟩))
         go_roundg k3
         case measure => have := HJ1.out; have := HK2.out; have := HK3.out; omega
         case rel => exact ⟨(wrap64 (x5_3 + (((aV l0_6 x6_3).f1).length : Int))), (wrap64 (x6_3 + 1)), ra_, ra_, H, ⟨by have := HJ1.out; have := HK2.out; have := HK3.out; omega⟩, ⟨bk_ BK321⟩, ⟨bl_⟩⟩
       obtain rfl := bf_ c39
       clear c39
       rw [if_neg ft_] at H
       obtain rfl := sj_ H
       have bz46 := bc7_ BK321
       have p328 := pt_ x6_3
       have q328 := qt_ x6_3 l0_6.length
       obtain ⟨ad328, A328_1, c328_1, e328, hx328_0, hx328_1, hx328_2, hl328_1, hi328_1⟩ := iQ HR0_6.out x6_3 (oe_ p328) (oe_ q328)
       cases e328
       replace hx328_0 := ce_ HB hx328_0
       replace hx328_1 := ce_ HB hx328_1
       replace hx328_2 := ce_ HB hx328_2
       have HR328_1 := am_ hi328_1
       have HC328_1 := am_ hl328_1
       clear hi328_1 hl328_1
       go_wp2_with (first | ((with_reducible refine gn_ 7 rfl ?_); refine bq_ (N := 7) (cs := #[.int .i64 0, .slice none 0 0, .int .i64 0]) (t := 68) ?_; intro gb329 hg w47 BK329 hb; have GW329 := ga_ w hg; have GE329 := GW329; have NB321_329 := am_ ((nl_ hg BK321 : gb321 ≠ gb329)); have NB329_321 := am_ ((ng_ hg BK321 : gb329 ≠ gb321)); replace BK321 := bb_ BK321 hb; replace HB := bp_ hb; clear hb hg; have hnb48 := NB329_321.out; have hnc48 := NB321_329.out; have bz49 := bc3_ BK329) | ((with_reducible refine gf_ 40 rfl ?_); refine gl_ (some 73) Tryz.func40 #[.int .i64 ((aV l0_6 x6_3).f0), .int .i64 (-1), .int .i64 15] ?_; refine (dG.calls ((aV l0_6 x6_3).f0) (-1) 15 true _ (gw_ HG.out) A34.out).mono ?_; rintro e w' ⟨rfl, ⟨nd, rfl⟩⟩; refine ⟨_, rfl, ?_⟩) | ((with_reducible refine gf_ 41 rfl ?_); refine gl_ (some 77) Tryz.func41 #[.slice A328_1 ((aV l0_6 x6_3).f1).length c328_1] ?_; refine (bC.calls k3 _ _ ((aV l0_6 x6_3).f1) t331 _ (gw_ HG.out) (Kd.C_below HR328_1.out bl_) HC328_1.out A36.out).mono ?_; rintro e w50 ⟨rfl, hb⟩; refine ⟨_, rfl, ?_⟩; replace BK321 := am_ (blk_below (g := gb321) (o := .cells #[.int .i64 a0_0, .int .i64 a0_1, .int .i64 a0_2, .int .i64 a0_3, .int .i64 a0_4, .slice A0_5 l0_5.length c0_5, .slice (some ad328) l0_6.length c0_6] 25 (0, 0)) (bw_ BK321) hb); replace BK329 := am_ (blk_below (g := gb329) (o := .cells #[.int .i64 ((aV l0_6 x6_3).f0), .slice A328_1 ((aV l0_6 x6_3).f1).length c328_1, .int .i64 ((aV l0_6 x6_3).f2)] 68 (0, 0)) (bw_ BK329) hb); replace HB := bp_ hb; (try clear hb); have bz51 := bc3_ BK329) | ((with_reducible refine gf_ 38 rfl ?_); refine gl_ (some 83) Tryz.func38 #[.int .i64 ((aV l0_6 x6_3).f2)] ?_; refine (aZ.calls ((aV l0_6 x6_3).f2) false _ (gw_ HG.out) A38.out).mono ?_; rintro e w' ⟨rfl, ⟨nd, rfl⟩⟩; refine ⟨_, rfl, ?_⟩))
       go_ret
       exact ⟨er_, bl_⟩
end Go.Proofs.YthkeonbmgcphkaaGreatDoor.PM
namespace Go.Proofs.YthkeonbmgcphkaaGreatDoorPlain
open Go.RowKit Go.Proofs.YthkeonbmgcphkaaGreatDoor.PM Go.Proofs.YthkeonbmgcphkaaGreatDoorW.PrintWords Go.Proofs.YthkeonbmgcphkaaGreatDoor.Bytes Go.Proofs.YthkeonbmgcphkaaGreatDoor.Plain
set_option linter.unusedVariables false
set_option linter.unusedSimpArgs false
def inL (n : Int) : Bool := decide (-1 ≤ n) && decide (n ≤ 15)
def fP : List Ar → Int → Int → Prop
  | [], s, t => t = if s > 2000 then 2 else 0
  | a :: l, s, t => (inL a.f0 = true → ∃ u, gB a.f1 u ∧ (u = 0 → (aG.isR a.f2 = true → fP l (wrap64 (s + (a.f1.length : Int))) t) ∧ (aG.isR a.f2 = false → t = 1)) ∧ (u ≠ 0 → t = u)) ∧ (inL a.f0 = false → t = 1)
theorem fP.unique : ∀ {l : List Ar} {s t u : Int}, fP l s t → fP l s u → t = u
  | [], s, t, u, h, h' => h.trans h'.symm
  | a :: l, s, t, u, ⟨h1, h2⟩, ⟨h1', h2'⟩ => by
    cases hL : inL a.f0
    · rw [h2 hL, h2' hL]
    · obtain ⟨v, hv, h3, h4⟩ := h1 hL
      obtain ⟨v', hv', h3', h4'⟩ := h1' hL
      obtain rfl := hv.unique hv'
      by_cases h0 : v = 0
      · cases hR : aG.isR a.f2
        · rw [(h3 h0).2 hR, (h3' h0).2 hR]
        · exact fP.unique ((h3 h0).1 hR) ((h3' h0).1 hR)
      · rw [h4 h0, h4' h0]
structure GoodA (a : Ar) : Prop where
  layer : -1 ≤ a.f0
  clear : 0 ≤ a.f2
  layer2 : a.f0 ≤ 15
  clear2 : a.f2 ≤ 100000
  few : a.f1.length ≤ 2000
  good : ∀ r ∈ a.f1, Good1 r
  form : IsForm a.f1
theorem fP.zero : ∀ {l : List Ar} {s : Int}, fP l s 0 → ∀ a ∈ l, GoodA a
  | [], s, h, a, ha => by cases ha
  | b :: l, s, ⟨h1, h2⟩, a, ha => by
    cases hL : inL b.f0
    · exact absurd (h2 hL) (by decide)
    · obtain ⟨v, hv, h3, h4⟩ := h1 hL
      by_cases h0 : v = 0
      · cases hR : aG.isR b.f2
        · exact absurd ((h3 h0).2 hR) (by decide)
        · rcases List.mem_cons.1 ha with rfl | ha
          · unfold inL at hL
            unfold aG.isR at hR
            simp only [Bool.and_eq_true, decide_eq_true_eq] at hL hR
            have hz := hv.zero h0
            exact ⟨hL.1, hR.1, hL.2, hR.2, hz.1, hz.2.1, hz.2.2⟩
          · exact fP.zero ((h3 h0).1 hR) a ha
      · exact absurd (h4 h0).symm h0
theorem isRule_R (n : Int) : dN.f n = some (aG.isR n) := kU n
theorem within_L (n : Int) : dQ.f n (-1) 15 = some (inL n) := within_some n (-1) 15
theorem within6_L (n : Int) : dG.f n (-1) 15 = some (inL n) := by
  unfold dG.f inL
  by_cases h : n ≥ -1
  · rw [if_pos h, show decide (-1 ≤ n) = true from decide_eq_true h, Bool.true_and]
  · rw [if_neg h, show decide (-1 ≤ n) = false from decide_eq_false (by omega), Bool.false_and]
theorem areas_spec (l : List Ar) (hl : l.length ≤ 1000000) (s : Int) : Tot (fun k => bZ.l0 k s l (l.length : Int) 0) fun t => fP l s t := by
  have key := gV (α := Int) (σ := Int) (F := fun k s j => bZ.l0 k s l (l.length : Int) (j : Int)) (n := l.length) (Q := fun s j t => fP (l.drop j) s t) (fun s j hj ih => ?_) (fun s => ?_) l.length s 0 (by omega)
  · exact key
  · simp only [bZ.l0, within_L, isRule_R, Option.bind_some, w1 hj (by omega : l.length ≤ 9223372036854775807), rdT68 hj]
    rw [List.drop_eq_getElem_cons hj]
    refine Tot.ite (fun _ => ?_) (fun _ => by exfalso; omega)
    refine Tot.ite (fun _ => ?_) (fun _ => by exfalso; omega)
    refine Tot.ite (fun _ => ?_) (fun _ => by exfalso; omega)
    refine Tot.ite (fun h1 => ?_) (fun h1 => Tot.pure _ ⟨fun h => absurd h h1, fun _ => rfl⟩)
    refine Tot.bind (kM l[j].f1) fun u hu => Tot.ite (fun h0 => ?_) fun h0 => Tot.pure _ ⟨fun _ => ⟨u, hu, fun h => absurd h h0, fun _ => rfl⟩, fun h => by rw [h1] at h; cases h⟩
    refine Tot.ite (fun h2 => ?_) (fun h2 => Tot.pure _ ⟨fun _ => ⟨u, hu, fun _ => ⟨fun h => absurd h h2, fun _ => rfl⟩, fun h => absurd h0 h⟩, fun h => absurd h (by rw [h1]; decide)⟩)
    exact (ih _).imp fun t ht => ⟨fun _ => ⟨u, hu, fun _ => ⟨fun _ => ht, fun h => by rw [h2] at h; cases h⟩, fun h => absurd h0 h⟩, fun h => by rw [h1] at h; cases h⟩
  · simp only [bZ.l0]
    rw [List.drop_length]
    refine Tot.ite (fun _ => by exfalso; omega) (fun _ => Tot.ite (fun h => Tot.pure _ (if_pos h).symm) (fun h => Tot.pure _ (if_neg h).symm))
theorem areas6_spec (a0 a1 a2 a3 a4 : Int) (l5 : List Nc) (l : List Ar) (hl : l.length ≤ 1000000) (s : Int) : Tot (fun k => aN.l1 k s 0 a0 a1 a2 a3 a4 l5 l) fun t => fP l s t := by
  have key := gV (α := Int) (σ := Int) (F := fun k s j => aN.l1 k s (j : Int) a0 a1 a2 a3 a4 l5 l) (n := l.length) (Q := fun s j t => fP (l.drop j) s t) (fun s j hj ih => ?_) (fun s => ?_) l.length s 0 (by omega)
  · exact key
  · simp only [aN.l1, within6_L, jY, Option.bind_some, w1 hj (by omega : l.length ≤ 9223372036854775807), rdT68 hj]
    rw [List.drop_eq_getElem_cons hj]
    refine Tot.ite (fun _ => ?_) (fun _ => by exfalso; omega)
    refine Tot.ite (fun _ => ?_) (fun _ => by exfalso; omega)
    refine Tot.ite (fun h1 => ?_) (fun h1 => Tot.pure _ ⟨fun h => absurd h h1, fun _ => rfl⟩)
    refine Tot.bind (refRegion_spec l[j].f1) fun u hu => Tot.ite (fun h0 => ?_) fun h0 => Tot.pure _ ⟨fun _ => ⟨u, hu, fun h => absurd h h0, fun _ => rfl⟩, fun h => by rw [h1] at h; cases h⟩
    refine Tot.ite (fun h2 => ?_) (fun h2 => Tot.pure _ ⟨fun _ => ⟨u, hu, fun _ => ⟨fun h => absurd h h2, fun _ => rfl⟩, fun h => absurd h0 h⟩, fun h => absurd h (by rw [h1]; decide)⟩)
    exact (ih _).imp fun t ht => ⟨fun _ => ⟨u, hu, fun _ => ⟨fun _ => ht, fun h => by rw [h2] at h; cases h⟩, fun h => absurd h0 h⟩, fun h => by rw [h1] at h; cases h⟩
  · simp only [aN.l1]
    rw [List.drop_length]
    refine Tot.ite (fun _ => by exfalso; omega) (fun _ => Tot.ite (fun h => Tot.pure _ (if_pos h).symm) (fun h => Tot.pure _ (if_neg h).symm))
def gG (a0 a1 a2 a3 a4 : Int) (l5 : List Nc) (l6 : List Ar) (t : Int) : Prop :=
  ([a0, a1, a2, a3, a4].all aG.isR = true → (fM l5 = 0 → (l6.length ≤ 50 → fP l6 0 t) ∧ (50 < l6.length → t = 2)) ∧ (fM l5 ≠ 0 → t = fM l5)) ∧ ([a0, a1, a2, a3, a4].all aG.isR = false → t = 1)
theorem gG.unique {a0 a1 a2 a3 a4 : Int} {l5 : List Nc} {l6 : List Ar} {t u : Int} (h : gG a0 a1 a2 a3 a4 l5 l6 t) (h' : gG a0 a1 a2 a3 a4 l5 l6 u) : t = u := by
  cases hR : [a0, a1, a2, a3, a4].all aG.isR
  · rw [h.2 hR, h'.2 hR]
  · by_cases h0 : fM l5 = 0
    · by_cases hl : l6.length ≤ 50
      · exact (((h.1 hR).1 h0).1 hl).unique (((h'.1 hR).1 h0).1 hl)
      · rw [((h.1 hR).1 h0).2 (by omega), ((h'.1 hR).1 h0).2 (by omega)]
    · rw [(h.1 hR).2 h0, (h'.1 hR).2 h0]
theorem ints_spec (l : List Int) (hl : l.length ≤ 1000) : Tot (fun k => bF.f k l) fun b => b = !(l.all aG.isR) := by
  unfold bF.f
  refine Tot.bind (Q := fun t => decide (t ≥ 0) = !(l.all aG.isR)) ?_ fun t ht => Tot.pure _ ht
  have key := gV (α := Int) (σ := Unit) (F := fun k _ j => aW.l0 k l (l.length : Int) (j : Int)) (n := l.length) (Q := fun _ j t => decide (t ≥ 0) = !((l.drop j).all aG.isR)) (fun _ j hj ih => ?_) (fun _ => ?_) l.length () 0 (by omega)
  · exact key
  · have er : rd l (j : Int) = l[j] := by
      unfold rd
      rw [Int.toNat_natCast, List.getD_eq_getElem?_getD, List.getElem?_eq_getElem hj, Option.getD_some]
    simp only [aW.l0, eF.f, isRule_R, Option.bind_some, w1 hj (by omega : l.length ≤ 9223372036854775807), er]
    refine Tot.ite (fun _ => ?_) (fun _ => by exfalso; omega)
    refine Tot.ite (fun _ => ?_) (fun _ => by exfalso; omega)
    refine Tot.ite (fun _ => ?_) (fun _ => by exfalso; omega)
    rw [List.drop_eq_getElem_cons hj, List.all_cons]
    refine Tot.ite (fun h => Tot.pure _ ?_) (fun h => (ih ()).imp fun t ht => ?_)
    · rw [show aG.isR l[j] = false by simpa using h]
      simp
    · rw [show aG.isR l[j] = true by simpa using h, Bool.true_and]
      exact ht
  · simp only [aW.l0]
    refine Tot.ite (fun _ => by exfalso; omega) (fun _ => Tot.pure _ ?_)
    simp
theorem lD (a0 a1 a2 a3 a4 : Int) (l5 : List Nc) (l6 : List Ar) (hs : ∀ c ∈ l5, c.f0.size < 9223372036854775807) : Tot (fun k => bZ.f k a0 a1 a2 a3 a4 l5 l6) (gG a0 a1 a2 a3 a4 l5 l6) := by
  unfold bZ.f
  refine Tot.bind (ints_spec _ (by simp)) fun b hb => Tot.ite (fun h => Tot.pure _ ?_) fun h => ?_
  · rw [hb] at h
    exact ⟨fun h' => (by rw [h'] at h; cases h), fun _ => rfl⟩
  · have hR : [a0, a1, a2, a3, a4].all aG.isR = true := by rw [hb] at h; simpa using h
    refine Tot.bind (classes_spec l5 hs) fun t ht => Tot.ite (fun h0 => ?_) fun h0 => Tot.pure _ ?_
    · rw [ht] at h0
      refine Tot.ite (fun h1 => Tot.pure _ ?_) fun h1 => (areas_spec l6 (by omega) 0).imp fun u hu => ?_
      · exact ⟨fun _ => ⟨fun _ => ⟨fun h2 => by omega, fun _ => rfl⟩, fun h2 => absurd h0 h2⟩, fun h2 => by rw [hR] at h2; cases h2⟩
      · exact ⟨fun _ => ⟨fun _ => ⟨fun _ => hu, fun h2 => by omega⟩, fun h2 => absurd h0 h2⟩, fun h2 => by rw [hR] at h2; cases h2⟩
    · exact ⟨fun _ => ⟨fun h2 => absurd (ht.trans h2) h0, fun _ => ht⟩, fun h2 => by rw [hR] at h2; cases h2⟩
theorem seenP_succ {l : List Nc} {i : Nat} (h : i < l.length) : (fun x => iC l i x || l[i].f1.any (fun y => decide (x = y))) = iC l (i + 1) := by
  funext x
  unfold iC
  rw [List.take_succ_eq_append_getElem h, List.any_append]
  simp
theorem kN (a0 a1 a2 a3 a4 : Int) (l5 : List Nc) (l6 : List Ar) (hs : ∀ c ∈ l5, c.f0.size < 9223372036854775807 ∧ c.f1.length ≤ 1000000000 ∧ ∀ n ∈ c.f1, n.size < 4294967281) (h6 : l6.length ≤ 1000000000000) : Tot (fun k => aN.f k a0 a1 a2 a3 a4 l5 l6) (gG a0 a1 a2 a3 a4 l5 l6) := by
  have hj0 : ∀ bad : Bool, bad = (!([a0, a1, a2, a3, a4].all aG.isR)) → Tot (fun k => aN.j0 k bad a0 a1 a2 a3 a4 l5 l6) (gG a0 a1 a2 a3 a4 l5 l6) := by
    intro bad hb
    refine Tot.succ (g := fun k => aN.j0 (k + 1) bad a0 a1 a2 a3 a4 l5 l6) ?_ fun k => rfl
    simp only [aN.j0]
    refine Tot.ite (fun h => Tot.pure _ ?_) fun h => ?_
    · rw [hb] at h
      exact ⟨fun h' => (by rw [h'] at h; cases h), fun _ => rfl⟩
    · have hR : [a0, a1, a2, a3, a4].all aG.isR = true := by rw [hb] at h; simpa using h
      refine Tot.ite (fun h1 => Tot.pure _ ?_) fun h1 => ?_
      · have e : fM l5 = 2 := by unfold fM; rw [if_pos (by omega)]
        exact ⟨fun _ => ⟨fun h2 => (by rw [e] at h2; cases h2), fun _ => e.symm⟩, fun h2 => by rw [hR] at h2; cases h2⟩
      · have e : fM l5 = clE l5 none (fun _ => false) := by unfold fM; rw [if_neg (by omega)]
        have key := gV (α := Int) (σ := Unit) (F := fun k _ j => aN.l0 k (j : Int) a0 a1 a2 a3 a4 l5 l6) (n := l5.length)
          (Q := fun _ j t => (clE (l5.drop j) (aG.prev l5 j) (iC l5 j) = 0 → (l6.length ≤ 50 → fP l6 0 t) ∧ (50 < l6.length → t = 2)) ∧ (clE (l5.drop j) (aG.prev l5 j) (iC l5 j) ≠ 0 → t = clE (l5.drop j) (aG.prev l5 j) (iC l5 j))) (fun _ j hj ih => ?_) (fun _ => ?_) l5.length () 0 (by omega)
        · refine Tot.imp key fun t ht => ⟨fun _ => ?_, fun h2 => by rw [hR] at h2; cases h2⟩
          have es : iC l5 0 = fun _ => false := by funext x; rfl
          rw [es] at ht
          rw [e]
          exact ht
        · have hc := hs _ (List.getElem_mem hj)
          simp only [aN.l0, w1 hj (by omega : l5.length ≤ 9223372036854775807)]
          rw [List.drop_eq_getElem_cons hj, clE, seenP_succ hj, ← prev_succ hj]
          refine Tot.ite (fun _ => ?_) (fun _ => by exfalso; omega)
          refine Tot.bind (lF l5 j hj (by omega) hc.1 hc.2.2 fun c h2 => (hs c h2).2.1) fun t ht => ?_
          subst ht
          refine Tot.ite (fun h2 => ?_) fun h2 => Tot.pure _ ?_
          · rw [if_pos h2]
            exact ih ()
          · rw [if_neg h2]
            exact ⟨fun h3 => absurd h3 h2, fun _ => rfl⟩
        · simp only [aN.l0]
          rw [List.drop_length, clE]
          refine Tot.ite (fun _ => by exfalso; omega) (fun _ => ?_)
          refine Tot.ite (fun h2 => Tot.pure _ ?_) fun h2 => (areas6_spec a0 a1 a2 a3 a4 l5 l6 (by omega) 0).imp fun u hu => ?_
          · exact ⟨fun _ => ⟨fun h3 => by omega, fun _ => rfl⟩, fun h3 => absurd rfl h3⟩
          · exact ⟨fun _ => ⟨fun _ => hu, fun h3 => by omega⟩, fun h3 => absurd rfl h3⟩
  unfold aN.f
  simp only [jY, Option.bind_some]
  refine Tot.ite (fun h0 => ?_) fun h0 => hj0 _ (by simp [h0])
  refine Tot.ite (fun h1 => ?_) fun h1 => hj0 _ (by simp [h1])
  refine Tot.ite (fun h2 => ?_) fun h2 => hj0 _ (by simp [h2])
  refine Tot.ite (fun h3 => ?_) fun h3 => hj0 _ (by simp [h3])
  exact hj0 _ (by simp [h0, h1, h2, h3])
end Go.Proofs.YthkeonbmgcphkaaGreatDoorPlain
namespace Go.Proofs.YthkeonbmgcphkaaGreatDoorPlain
open Go.RowKit Go.Proofs.YthkeonbmgcphkaaGreatDoor.PM Go.Proofs.YthkeonbmgcphkaaGreatDoorW.PrintWords Go.Proofs.YthkeonbmgcphkaaGreatDoor.Bytes Go.Proofs.YthkeonbmgcphkaaGreatDoor.Plain
set_option linter.unusedVariables false
set_option linter.unusedSimpArgs false
def ltB (a b : ByteArray) : Prop := a.toList < b.toList
theorem ltB_less {a b : ByteArray} : Op.bytesLess a.toList b.toList = true ↔ ltB a b := by
  rw [Go.Proofs.YthkeonbmgcphkaaGreatDoorW.PrintMore.kL, decide_eq_true_eq]
  exact Iff.rfl
theorem ltB_trans {a b c : ByteArray} (h : ltB a b) (h' : ltB b c) : ltB a c := by
  letI : Trans (α := UInt8) (β := UInt8) (γ := UInt8) (· < ·) (· < ·) (· < ·) := ⟨fun h h' => UInt8.lt_trans h h'⟩
  exact List.lt_trans h h'
theorem netsE_good (seen : ByteArray → Bool) : ∀ {l : List ByteArray} {p : Option ByteArray}, iD seen l p = 0 → (∀ n ∈ l, jJ n = true) ∧ l.Pairwise ltB ∧ ∀ q, p = some q → ∀ n ∈ l, ltB q n
  | [], p, _ => ⟨fun n hn => (by cases hn), List.Pairwise.nil, fun q _ n hn => (by cases hn)⟩
  | m :: t, p, h => by
    rw [iD] at h
    by_cases h1 : jJ m = true
    · rw [if_pos h1] at h
      by_cases h2 : aG.gQ p m = true
      · rw [if_pos h2] at h; cases h
      · rw [if_neg h2] at h
        by_cases h3 : seen m = true
        · rw [if_pos h3] at h; cases h
        · rw [if_neg h3] at h
          obtain ⟨g1, g2, g3⟩ := netsE_good seen h
          refine ⟨fun n hn => ?_, List.Pairwise.cons (fun n hn => g3 m rfl n hn) g2, fun q hq n hn => ?_⟩
          · rcases List.mem_cons.1 hn with rfl | hn
            · exact h1
            · exact g1 n hn
          · subst hq
            rw [jX] at h2
            have hm : ltB q m := ltB_less.1 (by simpa using h2)
            rcases List.mem_cons.1 hn with rfl | hn
            · exact hm
            · exact ltB_trans hm (g3 m rfl n hn)
    · rw [if_neg h1] at h; cases h
structure GoodC (c : Nc) : Prop where
  word : iM c.f0 = true
  clear : aG.isR c.f2 = true
  width : aG.isR c.f3 = true
  few : c.f1.length ≤ 1000
  paths : ∀ n ∈ c.f1, jJ n = true
  up : c.f1.Pairwise ltB
theorem clE_good : ∀ {l : List Nc} {p : Option ByteArray} {seen : ByteArray → Bool}, clE l p seen = 0 → ∀ c ∈ l, GoodC c
  | [], _, _, _, c, hc => by cases hc
  | d :: t, p, seen, h, c, hc => by
    rw [clE] at h
    by_cases h0 : oneE d p seen = 0
    · rw [if_pos h0] at h
      rcases List.mem_cons.1 hc with rfl | hc
      · unfold oneE at h0
        by_cases h1 : iM c.f0 = true
        · rw [if_pos h1] at h0
          by_cases h2 : 1000 < c.f1.length
          · rw [if_pos h2] at h0; cases h0
          · rw [if_neg h2] at h0
            by_cases h3 : iD seen c.f1 none = 0
            · obtain ⟨g1, g2, _⟩ := netsE_good seen h3
              rw [if_pos h3] at h0
              by_cases h4 : aG.isR c.f2 = true
              · rw [if_pos h4] at h0
                by_cases h5 : aG.isR c.f3 = true
                · exact ⟨h1, h4, h5, by omega, g1, g2⟩
                · rw [if_neg h5] at h0; cases h0
              · rw [if_neg h4] at h0; cases h0
            · rw [if_neg h3] at h0; exact absurd h0 h3
        · rw [if_neg h1] at h0; cases h0
      · exact clE_good h c hc
    · rw [if_neg h0] at h; exact absurd h h0
structure GoodRules (l5 : List Nc) (l6 : List Ar) : Prop where
  many : l5.length ≤ 50
  classes : ∀ c ∈ l5, GoodC c
  few : l6.length ≤ 50
  areas : ∀ a ∈ l6, GoodA a
theorem gG.zero {a0 a1 a2 a3 a4 : Int} {l5 : List Nc} {l6 : List Ar} (h : gG a0 a1 a2 a3 a4 l5 l6 0) : GoodRules l5 l6 := by
  cases hR : [a0, a1, a2, a3, a4].all aG.isR
  · exact absurd (h.2 hR) (by decide)
  · by_cases h0 : fM l5 = 0
    · by_cases hl : l6.length ≤ 50
      · have ha := ((h.1 hR).1 h0).1 hl
        unfold fM at h0
        by_cases h5 : 50 < l5.length
        · rw [if_pos h5] at h0; cases h0
        · rw [if_neg h5] at h0
          exact ⟨by omega, clE_good h0, hl, ha.zero⟩
      · exact absurd (((h.1 hR).1 h0).2 (by omega)) (by decide)
    · exact absurd ((h.1 hR).2 h0).symm h0
end Go.Proofs.YthkeonbmgcphkaaGreatDoorPlain
