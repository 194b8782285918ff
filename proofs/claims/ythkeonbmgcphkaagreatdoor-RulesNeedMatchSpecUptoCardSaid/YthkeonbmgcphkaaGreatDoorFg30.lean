import Derived.Test.YthkeonbmgcphkaaGreatDoorFg17
import Derived.Test.YthkeonbmgcphkaaGreatDoorFg19
import Derived.Test.YthkeonbmgcphkaaGreatDoorFg6
import Derived.Test.YthkeonbmgcphkaaGreatDoorFg20
import Derived.Test.YthkeonbmgcphkaaGreatDoorFg22
import Derived.Test.YthkeonbmgcphkaaGreatDoorFg26
import Derived.Test.YthkeonbmgcphkaaGreatDoorFg28
namespace Go.Proofs.YthkeonbmgcphkaaGreatDoorPlain
open Go.RowKit Go.Proofs.YthkeonbmgcphkaaGreatDoor.PN Go.Proofs.YthkeonbmgcphkaaGreatDoorW.PrintWords
set_option linter.unusedVariables false
set_option linter.unusedSimpArgs false
theorem isPoint_some (a b : Int) : gB.f a b = some ((decide (-1000000 ≤ a) && decide (a ≤ 1000000)) && (decide (-1000000 ≤ b) && decide (b ≤ 1000000))) := by
  unfold gB.f
  simp only [isAt_some, Option.bind_some]
  cases (decide (-1000000 ≤ a) && decide (a ≤ 1000000)) <;> simp
structure Fit (l5 : List S66) (l6 : List S68) : Prop where
  many : l5.length ≤ 50
  nets : ∀ c ∈ l5, c.f1.length ≤ 1000
  areas : l6.length ≤ 50
  rects : ∀ a ∈ l6, a.f1.length ≤ 2000
  good : ∀ a ∈ l6, ∀ r ∈ a.f1, mQ r
  shape : ∀ a ∈ l6, ∃ s, Shape s (covR a.f1) ∧ a.f1 = fG s
theorem less_some (a b : ByteArray) : cmp_Less_string.f a b = some (Op.bytesLess a.toList b.toList) := by
  unfold cmp_Less_string.f cmp_isNaN_string.f
  simp
theorem mid_eq (i j : Nat) (h : i + j ≤ 4000000000000000000) : wrap64 (IntKind.u64.wrap (wrap64 ((i : Int) + (j : Int))) / 2) = (((i + j) / 2 : Nat) : Int) := by
  rw [w64 (x := (i : Int) + (j : Int)) (by omega) (by omega), IntKind.wrap_u64, w64 (by omega) (by omega)]
  omega
def gJ (layer px py : Int) : List S68 → Int → Int
  | [], m => m
  | a :: t, m => if (a.f0 < 0 ∨ a.f0 = layer) ∧ a.f1.any (bY.in_ px py) = true then gJ layer px py t (mx m a.f2) else gJ layer px py t m
theorem needs_tot (a0 a1 a2 a3 a4 : Int) (l5 : List S66) (l6 : List S68) (hf : Fit l5 l6) (a b : ByteArray) (layer px py : Int) (cA cB : Int)
    (hA : Tot (fun k => eG.f k a0 a1 a2 a3 a4 l5 l6 a) fun c => c = cA) (hB : Tot (fun k => eG.f k a0 a1 a2 a3 a4 l5 l6 b) fun c => c = cB) :
    Tot (fun k => dN.f k a0 a1 a2 a3 a4 l5 l6 a b layer px py) fun r => r = if gJ layer px py l6 (-1) ≥ 0 then gJ layer px py l6 (-1) else mx cA cB := by
  unfold dN.f
  have hm := hf.areas
  have key := gX (α := Int) (σ := Int) (F := fun k s j => dN.l0 k a b layer s l6 (l6.length : Int) (j : Int) a0 a1 a2 a3 a4 l5 l6 px py) (n := l6.length) (Q := fun s j r => r = if gJ layer px py (l6.drop j) s ≥ 0 then gJ layer px py (l6.drop j) s else mx cA cB) (fun s j hj ih => ?_) (fun s => ?_) l6.length (-1) 0 (by omega)
  · simpa using key
  · have hsq : bY.f l6[j].f1 px py = some (l6[j].f1.any (bY.in_ px py)) := by
      unfold bY.f
      rw [if_pos (by have := hf.rects _ (List.getElem_mem hj); omega)]
    have hon : gV.f l6[j].f0 l6[j].f1 l6[j].f2 layer = some (decide (l6[j].f0 < 0 ∨ l6[j].f0 = layer)) := by
      unfold gV.f
      by_cases h : l6[j].f0 < 0
      · rw [if_pos h]; simp [h]
      · rw [if_neg h]
        congr 1
        rw [Bool.eq_iff_iff]
        simp [h]
    simp only [dN.l0, w1 hj (by omega : l6.length ≤ 9223372036854775807), rdT68 hj, hon, hsq, Option.bind_some]
    refine Tot.ite (fun _ => ?_) (fun _ => by exfalso; omega)
    refine Tot.ite (fun _ => ?_) (fun _ => by exfalso; omega)
    refine Tot.ite (fun _ => ?_) (fun _ => by exfalso; omega)
    rw [List.drop_eq_getElem_cons hj]
    refine Tot.ite (fun h1 => ?_) (fun h1 => ?_)
    · have h1 := of_decide_eq_true h1
      refine Tot.ite (fun h2 => ?_) (fun h2 => ?_)
      · rw [show gJ layer px py (l6[j] :: l6.drop (j + 1)) s = gJ layer px py (l6.drop (j + 1)) (mx s l6[j].f2) from if_pos ⟨h1, h2⟩]
        exact ih _
      · rw [show gJ layer px py (l6[j] :: l6.drop (j + 1)) s = gJ layer px py (l6.drop (j + 1)) s from if_neg fun h => h2 h.2]
        exact ih _
    · rw [show gJ layer px py (l6[j] :: l6.drop (j + 1)) s = gJ layer px py (l6.drop (j + 1)) s from if_neg fun h => h1 (decide_eq_true h.1)]
      exact ih _
  · simp only [dN.l0]
    refine Tot.ite (fun _ => by exfalso; omega) (fun _ => ?_)
    rw [List.drop_length, gJ]
    refine Tot.ite (fun h => Tot.pure _ (by rw [if_pos h])) (fun h => ?_)
    rw [if_neg h]
    refine Tot.bind hA fun x hx => Tot.bind hB fun y hy => Tot.pure _ ?_
    rw [hx, hy]
def mM (t : Int) (nA nB : Bool) (layer px py : Int) (l6 : List S68) (cA cB : Int) : Int × Int :=
  if t = 0 then (if nA = true ∧ nB = true then (if (decide (0 ≤ layer) && decide (layer ≤ 15)) = true then (if ((decide (-1000000 ≤ px) && decide (px ≤ 1000000)) && (decide (-1000000 ≤ py) && decide (py ≤ 1000000))) = true then ((if gJ layer px py l6 (-1) ≥ 0 then gJ layer px py l6 (-1) else mx cA cB), 0) else (0, 1)) else (0, 1)) else (0, 5)) else (0, t)
theorem Needs_tot (a0 a1 a2 a3 a4 : Int) (l5 : List S66) (l6 : List S68) (a b : ByteArray) (layer px py : Int) (t : Int) (nA nB : Bool) (cA cB : Int) (hf : t = 0 → Fit l5 l6)
    (hT : Tot (fun k => bQ.f k a0 a1 a2 a3 a4 l5 l6) fun r => r = t) (hNA : Tot (fun k => eP.f k a) fun r => r = nA) (hNB : Tot (fun k => eP.f k b) fun r => r = nB)
    (hA : t = 0 → Tot (fun k => eG.f k a0 a1 a2 a3 a4 l5 l6 a) fun c => c = cA) (hB : t = 0 → Tot (fun k => eG.f k a0 a1 a2 a3 a4 l5 l6 b) fun c => c = cB) :
    Tot (fun k => dW.f k a0 a1 a2 a3 a4 l5 l6 a b layer px py) fun p => p = mM t nA nB layer px py l6 cA cB := by
  unfold dW.f
  refine Tot.bind hT fun r hr => ?_
  subst hr
  have hj : ∀ bad : Bool, r = 0 → bad = (!(nA && nB)) → Tot (fun k => dW.j0 k a b layer bad a0 a1 a2 a3 a4 l5 l6 px py) fun p => p = mM r nA nB layer px py l6 cA cB := by
    intro bad h0 hb
    refine Tot.succ (g := fun k => dW.j0 (k + 1) a b layer bad a0 a1 a2 a3 a4 l5 l6 px py) ?_ fun k => rfl
    simp only [dW.j0, lX, isPoint_some, Option.bind_some]
    unfold mM
    rw [if_pos h0]
    refine Tot.ite (fun h => ?_) (fun h => ?_)
    · rw [if_neg (by rw [hb] at h; cases nA <;> cases nB <;> simp_all)]
      exact Tot.pure _ rfl
    · rw [if_pos (by rw [hb] at h; cases nA <;> cases nB <;> simp_all)]
      refine Tot.ite (fun h1 => ?_) (fun h1 => ?_)
      · rw [if_pos h1]
        refine Tot.ite (fun h2 => ?_) (fun h2 => ?_)
        · rw [if_pos h2]
          refine Tot.bind (needs_tot a0 a1 a2 a3 a4 l5 l6 (hf h0) a b layer px py cA cB (hA h0) (hB h0)) fun x hx => Tot.pure _ ?_
          rw [hx]
        · rw [if_neg h2]
          exact Tot.pure _ rfl
      · rw [if_neg h1]
        exact Tot.pure _ rfl
  refine Tot.ite (fun h0 => ?_) (fun h0 => Tot.pure _ ?_)
  · refine Tot.bind hNA fun x hx => ?_
    subst hx
    refine Tot.ite (fun h => ?_) (fun h => ?_)
    · refine Tot.bind hNB fun y hy => ?_
      subst hy
      exact hj _ h0 (by rw [h]; rfl)
    · exact hj _ h0 (by cases x <;> simp_all)
  · unfold mM
    rw [if_neg h0]
end Go.Proofs.YthkeonbmgcphkaaGreatDoorPlain
namespace Go.Proofs.YthkeonbmgcphkaaGreatDoor.PN
open Go.RowKit Go.Proofs.YthkeonbmgcphkaaGreatDoorW.PrintWords Go.Proofs.YthkeonbmgcphkaaGreatDoorW.PrintLast Go.Proofs.YthkeonbmgcphkaaGreatDoorW.PrintMore
attribute [local go_sem] max2_int min2_int max_two min_two max_three min_three max_four min_four
set_option linter.unusedVariables false
set_option maxHeartbeats 8000000
set_option maxRecDepth 100000
set_option linter.unusedSimpArgs false
def dK.f (k : Nat) (a0 : ByteArray) : Option (Bool) := if a0.toList = ([] : List UInt8) then (some true) else ((dB.f k a0).bind fun t377 => (some t377))
theorem dK.calls (k : Nat) (a0 : ByteArray) (r : Bool) (w : World) (hG : Tryz.GW w) (h : dK.f k a0 = some r) :
 Calls Tryz.prog 45 #[.string a0] w fun e w' => e = .returned (.bool r) ∧ Below w.heap.size w w' := by
 have HG := am_ hG
 clear hG
 have HB := am_ (Below.refl w.heap.size w)
 have H : (if a0.toList = ([] : List UInt8) then (some true) else ((dB.f k a0).bind fun t377 => (some t377))) = some r := h
 clear h
 by_cases c2 : a0.toList = ([] : List UInt8)
 · rw [if_pos c2] at H
   have c2b0 : (a0.toList == ([] : List UInt8)) = true := beq_iff_eq.mpr c2
   have c2b1 : (a0.toList != ([] : List UInt8)) = false := bne_eq_false_iff_eq.mpr c2
   clear c2
   obtain rfl := sj_ H
   go_enter Tryz.func45, Tryz.ntmps45
   go_wp2
   go_ret
   exact ⟨er_, bl_⟩
 rw [if_neg c2] at H
 have c2b0 : (a0.toList == ([] : List UInt8)) = false := beq_eq_false_iff_ne.mpr c2
 have c2b1 : (a0.toList != ([] : List UInt8)) = true := bne_iff_ne.mpr c2
 obtain ⟨t377, A3, H⟩ := bs_ H
 obtain rfl := sj_ H
 go_enter Tryz.func45, Tryz.ntmps45
 go_wp2_with (first | (go_at_call 71; refine (dB.calls k a0 t377 _ (gw_ HG.out) A3.out).mono ?_; rintro e w4 ⟨rfl, hb⟩; replace HB := bp_ hb; (try clear hb)))
 go_ret
 exact ⟨er_, bl_⟩
def eY.f (a0_0 : Int) (a0_1 : Int) : Option (Bool) := (dF.f a0_0).bind fun t379 => (if t379 = true then ((dF.f a0_1).bind fun t380 => (some t380)) else (some false))
theorem eY.calls (a0_0 : Int) (a0_1 : Int) (r : Bool) (w : World) (hG : Tryz.GW w) (h : eY.f a0_0 a0_1 = some r) :
 Calls Tryz.prog 46 #[.agg #[.int .i64 a0_0, .int .i64 a0_1]] w fun e w' => e = .returned (.bool r) ∧ Below w.heap.size w w' := by
 have hu33 := Tryz.underlying33
 have HG := am_ hG
 clear hG
 have HB := am_ (Below.refl w.heap.size w)
 have H : ((dF.f a0_0).bind fun t379 => (if t379 = true then ((dF.f a0_1).bind fun t380 => (some t380)) else (some false))) = some r := h
 clear h
 obtain ⟨t379, A2, H⟩ := bs_ H
 by_cases c3 : t379 = true
 · subst c3
   rw [if_pos rfl] at H
   obtain ⟨t380, A4, H⟩ := bs_ H
   obtain rfl := sj_ H
   go_enter Tryz.func46, Tryz.ntmps46
   go_wp2_with (first | ((with_reducible refine gn_ 1 rfl ?_); refine bq_ (N := 1) (cs := #[.int .i64 a0_0, .int .i64 a0_1]) (t := 33) ?_; intro gb378 hg w5 BK378 hb; have GW378 := ga_ w hg; have GE378 := GW378; replace HB := bp_ hb; clear hb hg; have bz6 := bc2_ BK378) | ((with_reducible refine gf_ 79 rfl ?_); refine gl_ (some 5) Tryz.func79 #[.int .i64 a0_0] ?_; refine (dF.calls a0_0 true _ (gw_ HG.out) A2.out).mono ?_; rintro e w' ⟨rfl, ⟨nd, rfl⟩⟩; refine ⟨_, rfl, ?_⟩) | (go_at_call 79; refine (dF.calls a0_1 t380 _ (gw_ HG.out) A4.out).mono ?_; rintro e w' ⟨rfl, ⟨nd, rfl⟩⟩))
   go_ret
   exact ⟨er_, bl_⟩
 obtain rfl := bf_ c3
 clear c3
 rw [if_neg ft_] at H
 obtain rfl := sj_ H
 go_enter Tryz.func46, Tryz.ntmps46
 go_wp2_with (first | ((with_reducible refine gn_ 1 rfl ?_); refine bq_ (N := 1) (cs := #[.int .i64 a0_0, .int .i64 a0_1]) (t := 33) ?_; intro gb378 hg w7 BK378 hb; have GW378 := ga_ w hg; have GE378 := GW378; replace HB := bp_ hb; clear hb hg; have bz8 := bc2_ BK378) | ((with_reducible refine gf_ 79 rfl ?_); refine gl_ (some 5) Tryz.func79 #[.int .i64 a0_0] ?_; refine (dF.calls a0_0 false _ (gw_ HG.out) A2.out).mono ?_; rintro e w' ⟨rfl, ⟨nd, rfl⟩⟩; refine ⟨_, rfl, ?_⟩))
 go_ret
 exact ⟨er_, bl_⟩
def dI.l0 : Nat → List (S171) → Int → Int → Option (Bool)
 | 0, _, _, _ => none
 | k + 1, x0, x1, x5 => if x5 < (x0.length : Int) then (if 0 ≤ x5 then (if ((dE x0 x5).f0) ≤ x1 then (if x1 < ((dE x0 x5).f1) then (some true) else (dI.l0 k x0 x1 (wrap64 (x5 + 1)))) else (dI.l0 k x0 x1 (wrap64 (x5 + 1)))) else (none)) else (some false)
def dI.f (k : Nat) (l0 : List (S171)) (a1 : Int) : Option (Bool) := dI.l0 k l0 a1 0
theorem dI.calls (k : Nat) (A0 : Option Addr) (c0 : Nat) (l0 : List (S171)) (a1 : Int) (r : Bool) (w : World) (hG : Tryz.GW w) (hr0 : Kd.C k171 w A0 l0.length l0) (hc0 : l0.length ≤ c0) (h : dI.f k l0 a1 = some r) :
 Calls Tryz.prog 122 #[.slice A0 l0.length c0, .int .i64 a1] w fun e w' => e = .returned (.bool r) ∧ Drawn0 w w' := by
 have HR0 := am_ hr0
 have HC0 := am_ hc0
 clear hr0 hc0
 have HG := am_ hG
 clear hG
 have H : (dI.l0 k l0 a1 0) = some r := h
 clear h
 replace H := am_ H
 go_enter Tryz.func122, Tryz.ntmps122
 go_wp2
 go_loopg [5] k (fun kq v5 w' => ∃ (x5_1 : Int), v5 = .int .i64 x5_1 ∧ Aside0 (dI.l0 kq l0 a1 x5_1 = some r) ∧ Aside0 (kq ≤ k) ∧ Drawn0 w w')
 case atStart => exact ⟨(0), ra_, H, ⟨Nat.le_refl _⟩, dr_⟩
 case round =>
  clear H
  try clear c1
  try clear p2
  obtain ⟨x5_1, rfl, HA, HK1, ⟨m1, rfl⟩⟩ := hrel
  cases gk with
  | zero => exact absurd HA.out (by simp [dI.l0])
  | succ k1 =>
   have H := HA.out
   clear HA
   simp only [dI.l0] at H
   by_cases c3 : x5_1 < (l0.length : Int)
   rotate_left
   · rw [if_neg c3] at H
     have c3b0 := decide_eq_false c3
     clear c3
     obtain rfl := sj_ H
     go_wp2
     go_ret
     exact ⟨ra_, dr_⟩
   rw [if_pos c3] at H
   have c3b0 := decide_eq_true c3
   clear c3
   obtain ⟨c4b0, H⟩ := ifd_ H
   by_cases c5 : ((dE l0 x5_1).f0) ≤ a1
   rotate_left
   · rw [if_neg c5] at H
     have c5b0 := decide_eq_false c5
     clear c5
     replace H := am_ H
     have p381 := pt_ x5_1
     have q381 := qt_ x5_1 l0.length
     obtain ⟨ad381, e381, hx381_0, hx381_1⟩ := fZ HR0.out x5_1 (oe_ p381) (oe_ q381)
     cases e381
     go_wp2
     go_roundg k1
     case measure => have := HK1.out; omega
     case rel => exact ⟨(wrap64 (x5_1 + 1)), ra_, H, ⟨by have := HK1.out; omega⟩, dr_⟩
   rw [if_pos c5] at H
   have c5b0 := decide_eq_true c5
   clear c5
   by_cases c6 : a1 < ((dE l0 x5_1).f1)
   · rw [if_pos c6] at H
     have c6b0 := decide_eq_true c6
     clear c6
     obtain rfl := sj_ H
     have p381 := pt_ x5_1
     have q381 := qt_ x5_1 l0.length
     obtain ⟨ad381, e381, hx381_0, hx381_1⟩ := fZ HR0.out x5_1 (oe_ p381) (oe_ q381)
     cases e381
     have p382 := pt_ x5_1
     have q382 := qt_ x5_1 l0.length
     obtain ⟨ad382, e382, hx382_0, hx382_1⟩ := fZ HR0.out x5_1 (oe_ p382) (oe_ q382)
     obtain rfl : ad381 = ad382 := (by injection e382)
     go_wp2
     go_ret
     exact ⟨ra_, dr_⟩
   rw [if_neg c6] at H
   have c6b0 := decide_eq_false c6
   clear c6
   replace H := am_ H
   have p381 := pt_ x5_1
   have q381 := qt_ x5_1 l0.length
   obtain ⟨ad381, e381, hx381_0, hx381_1⟩ := fZ HR0.out x5_1 (oe_ p381) (oe_ q381)
   cases e381
   have p382 := pt_ x5_1
   have q382 := qt_ x5_1 l0.length
   obtain ⟨ad382, e382, hx382_0, hx382_1⟩ := fZ HR0.out x5_1 (oe_ p382) (oe_ q382)
   obtain rfl : ad381 = ad382 := (by injection e382)
   go_wp2
   go_roundg k1
   case measure => have := HK1.out; omega
   case rel => exact ⟨(wrap64 (x5_1 + 1)), ra_, H, ⟨by have := HK1.out; omega⟩, dr_⟩
def bZ.f (k : Nat) (l0 : List (S44)) (a1_0 : Int) (a1_1 : Int) : Option (Bool) := (bT.f k l0 a1_1).bind fun t384 => ((dI.f k t384 a1_0).bind fun t387 => (some t387))
def bZ.T1 : Bool × List (List Nat × List Nat) := (true, [([], []), ([], []), ([1], [1]), ([0, 2], [0, 2]), ([], []), ([4], [4]), ([3, 5, 3], [3, 5]), ([6, 6, 0, 1, 2, 3, 4, 5, 6], [6])])
def bZ.B1 : List Nat := [0, 0, 2, 7, 0, 16, 63, 127]
theorem bZ.tab1 : rtab .any (opsOf Tryz.f80 1) = bZ.T1 := by kernel_rfl
theorem bZ.bits1 : waitsOk bZ.T1.2 bZ.B1 = true := by kernel_rfl
theorem bZ.calls (k : Nat) (A0 : Option Addr) (c0 : Nat) (l0 : List (S44)) (a1_0 : Int) (a1_1 : Int) (r : Bool) (w : World) (hG : Tryz.GW w) (hr0 : Kd.C k44 w A0 l0.length l0) (hc0 : l0.length ≤ c0) (h : bZ.f k l0 a1_0 a1_1 = some r) :
 Calls Tryz.prog 80 #[.slice A0 l0.length c0, .agg #[.int .i64 a1_0, .int .i64 a1_1]] w fun e w' => e = .returned (.bool r) ∧ Below w.heap.size w w' := by
 have hu33 := Tryz.underlying33
 have HR0 := am_ hr0
 have HC0 := am_ hc0
 clear hr0 hc0
 have HG := am_ hG
 clear hG
 have HB := am_ (Below.refl w.heap.size w)
 have H : ((bT.f k l0 a1_1).bind fun t384 => ((dI.f k t384 a1_0).bind fun t387 => (some t387))) = some r := h
 clear h
 obtain ⟨t384, A3, H⟩ := bs_ H
 obtain ⟨t387, A4, H⟩ := bs_ H
 obtain rfl := sj_ H
 go_enter Tryz.func80, Tryz.ntmps80
 try go_wp2_with (first | ((with_reducible refine gn_ 3 rfl ?_); refine bq_ (N := 3) (cs := #[.int .i64 a1_0, .int .i64 a1_1]) (t := 33) ?_; intro gb383 hg w5 BK383 hb; have GW383 := ga_ w hg; have GE383 := GW383; replace HB := bp_ hb; clear hb hg))
 replace BK383 := am_ (blk_drew BK383.out)
 replace HB := am_ (below_drew1 HB.out)
 refine start_ (n := 8) (S := fun w' => w'.cell? ⟨gb383, 0, none⟩ = some (.int .i64 a1_0) ∧ w'.cell? ⟨gb383, 1, none⟩ = some (.int .i64 a1_1)) (ds := []) (bv 8 0) (by kernel_rfl) rfl rfl ⟨(blk_cell BK383.out 0).trans rfl, (blk_cell BK383.out 1).trans rfl⟩ (fun hHeld => ?_); refine with_tabW bZ.tab1 bZ.bits1 (fun HT_ HW_ => ?_)
 generalize w5.drew = w6 at BK383 HB hHeld ⊢
 refine pu_ 0 5 (bv 8 1) ?_
 refine pu_ 1 6 (bv 8 3) ?_
 refine pu_ 4 9 (bv 8 19) ?_
 refine tk_ 2 7 (bv 8 23) hHeld ?_
 refine tk_ 5 10 (bv 8 55) hHeld ?_
 refine one_ (i := 3) (N := some 8) (bv 8 63) rfl rfl (one_of HT_.out (by kernel_rfl)) (by decide) (fun K hK => ?_)
 refine goes_ Tryz.func118 (by kernel_rfl) rfl #[.slice A0 l0.length c0, .int .i64 a1_1] (by rfl) rfl rfl (by (try simp only [List.map_toArray, List.map_cons, List.map_nil]); first | done | rfl | (simp only [List.length_drop, List.length_take]; rfl)) ?_
 with_reducible refine (bT.calls k _ _ l0 a1_1 t384 _ ?s1 ?s2 ?s3 A3.out).mono ?_
 (case s1 => exact gw_ HG.out)
 (case s2 => repeat (first | exact (Kd.C_below HR0.out HB.out) | (with_reducible refine Kd.C_alloc ?_ _) | (with_reducible refine Kd.C_drewN ?_ _) | (with_reducible refine Kd.C_drew ?_)))
 (case s3 => exact HC0.out)
 rintro e w7 ⟨v385, rfl, ho0, hb⟩
 refine ⟨_, rfl, ?_⟩
 have HO386 := am_ (Kd.R_lower ho0 (below_size bl_))
 replace BK383 := bb_ BK383 hb
 replace HB := bp_ hb
 (try clear hb)
 (try clear hb2)
 (try clear hk)
 (try clear hi)
 (try clear ho0)
 obtain ⟨Ao8, co8, eo8⟩ := Kd.R_slice HO386.out
 (first | subst eo8 | (injection eo8 with f1_ f2_ f3_; have f4_ := f1_.symm; have f5_ := f3_.symm; clear f1_ f2_ f3_; subst f4_; subst f5_))
 refine hK.out _ _ ⟨(blk_cell BK383.out 0).trans rfl, (blk_cell BK383.out 1).trans rfl⟩ (fun hHeld => ?_)
 clear hK K
 refine norm_ (a' := ?_) ?_ ?_
 rotate_left
 · show Act.put _ (some 8) _ = _
   simp only [Act.put, List.setIfInBounds_toArray, List.set_cons_zero, List.set_cons_succ, i64_w, i32_w]
   rfl
 refine one_ (i := 6) (N := some 11) (bv 8 127) rfl rfl (one_of HT_.out (by kernel_rfl)) (by decide) (fun K hK => ?_)
 refine goes_ Tryz.func122 (by kernel_rfl) rfl #[.slice Ao8 t384.length co8, .int .i64 a1_0] (by rfl) rfl rfl (by (try simp only [List.map_toArray, List.map_cons, List.map_nil]); first | done | rfl | (simp only [List.length_drop, List.length_take]; rfl)) ?_
 with_reducible refine (dI.calls k _ _ t384 a1_0 t387 _ ?s1 ?s2 ?s3 A4.out).mono ?_
 (case s1 => exact gw_ HG.out)
 (case s2 => repeat (first | exact (Kd.R_reads' HO386.out).2.2 | (with_reducible refine Kd.C_alloc ?_ _) | (with_reducible refine Kd.C_drewN ?_ _) | (with_reducible refine Kd.C_drew ?_)))
 (case s3 => exact (Kd.R_reads' HO386.out).2.1)
 rintro e w' ⟨rfl, ⟨nd, rfl⟩⟩
 refine ⟨_, rfl, ?_⟩
 refine hK.out _ _ ⟨(blk_cell BK383.out 0).trans rfl, (blk_cell BK383.out 1).trans rfl⟩ (fun hHeld => ?_)
 clear hK K
 refine norm_ (a' := ?_) ?_ ?_
 rotate_left
 · show Act.put _ (some 11) _ = _
   simp only [Act.put, List.setIfInBounds_toArray, List.set_cons_zero, List.set_cons_succ, i64_w, i32_w]
   rfl
 refine pu_ 7 4 (bv 8 255) ?_
 refine done_ (done_of HT_.out (by kernel_rfl)) ?_
 try go_wp2
 go_ret
 exact ⟨er_, bl_⟩
def cZ.l0 : Nat → ByteArray → Int → Int → Int → Int → Int → Int → List (S66) → List (S68) → Option (ByteArray × List ByteArray × Int × Int)
 | 0, _, _, _, _, _, _, _, _, _ => none
 | k + 1, x1, x5, x389000, x389001, x389002, x389003, x389004, x389005, x389006 => if x5 < (x389005.length : Int) then (if 0 ≤ x5 then ((dJ.f k ((aV x389005 x5).f1) x1).bind fun t391 => (if t391 = true then (some ((aV x389005 x5).f0, (aV x389005 x5).f1, (aV x389005 x5).f2, (aV x389005 x5).f3)) else (cZ.l0 k x1 (wrap64 (x5 + 1)) x389000 x389001 x389002 x389003 x389004 x389005 x389006))) else (none)) else (some ((⟨#[]⟩ : ByteArray), ([] : List ByteArray), 0, 0))
def cZ.f (k : Nat) (a0_0 : Int) (a0_1 : Int) (a0_2 : Int) (a0_3 : Int) (a0_4 : Int) (l0_5 : List (S66)) (l0_6 : List (S68)) (a1 : ByteArray) : Option (ByteArray × List ByteArray × Int × Int) := cZ.l0 k a1 0 a0_0 a0_1 a0_2 a0_3 a0_4 l0_5 l0_6
theorem cZ.calls (k : Nat) (a0_0 : Int) (a0_1 : Int) (a0_2 : Int) (a0_3 : Int) (a0_4 : Int) (P0_5_ : Nat → Prop) (A0_5 : Option Addr) (c0_5 : Nat) (l0_5 : List (S66)) (A0_6 : Option Addr) (c0_6 : Nat) (l0_6 : List (S68)) (a1 : ByteArray) (r1 : ByteArray) (r2 : List ByteArray) (r3 : Int) (r4 : Int) (w : World) (hG : Tryz.GW w) (hs0_5 : Kd.V k66 66 w w.heap.size (fun k_ => P0_5_ k_) (.slice A0_5 l0_5.length c0_5) l0_5) (hr0_6 : Kd.C k68 w A0_6 l0_6.length l0_6) (hc0_6 : l0_6.length ≤ c0_6) (h : cZ.f k a0_0 a0_1 a0_2 a0_3 a0_4 l0_5 l0_6 a1 = some (r1, r2, r3, r4)) :
 Calls Tryz.prog 83 #[.agg #[.int .i64 a0_0, .int .i64 a0_1, .int .i64 a0_2, .int .i64 a0_3, .int .i64 a0_4, .slice A0_5 l0_5.length c0_5, .slice A0_6 l0_6.length c0_6], .string a1] w fun e w' => ∃ v1_ : Value, e = .returned (.agg #[.string r1, v1_, .int .i64 r3, .int .i64 r4]) ∧ Kd.V Kd.string 9 w' w.heap.size (fun k_ => (P0_5_ k_ ∨ w.heap.size ≤ k_)) v1_ r2 ∧ Below w.heap.size w w' := by
 have hu25 := Tryz.underlying25
 have hu66 := Tryz.underlying66
 have HO0_5 := am_ (show Kd.V k66 66 w w.heap.size (fun k_ => (P0_5_ k_ ∨ w.heap.size ≤ k_)) (.slice A0_5 l0_5.length c0_5) l0_5 from Kd.V_mono hs0_5 (fun k_ hk => .inl hk))
 have HR0_6 := am_ hr0_6
 have HC0_6 := am_ hc0_6
 clear hr0_6 hc0_6
 have HG := am_ hG
 clear hG
 have HB := am_ (Below.refl w.heap.size w)
 have H : (cZ.l0 k a1 0 a0_0 a0_1 a0_2 a0_3 a0_4 l0_5 l0_6) = some (r1, r2, r3, r4) := h
 clear h
 replace H := am_ H
 go_enter Tryz.func83, Tryz.ntmps83
 go_wp2_with (first | ((with_reducible refine gn_ 2 rfl ?_); refine bq_ (N := 2) (cs := #[.int .i64 a0_0, .int .i64 a0_1, .int .i64 a0_2, .int .i64 a0_3, .int .i64 a0_4, .slice A0_5 l0_5.length c0_5, .slice A0_6 l0_6.length c0_6]) (t := 25) ?_; intro gb388 hg w3 BK388 hb; have GW388 := ga_ w hg; have GE388 := GW388; replace HO0_5 := am_ (Kd.V_below (Kd.V_elderB (vv_ HO0_5) gb388 (Nat.le_of_eq hg.symm)) hb); replace HB := bp_ hb; clear hb hg) | ((with_reducible refine gn_ 4 rfl ?_); refine bq_ (N := 4) (cs := #[.string (⟨#[]⟩ : ByteArray), .slice none 0 0, .int .i64 0, .int .i64 0]) (t := 66) ?_; intro gb389 hg w4 BK389 hb; have GW389 := ga_ w hg; have GE389 := GW389; have NB388_389 := am_ ((nl_ hg BK388 : gb388 ≠ gb389)); have NB389_388 := am_ ((ng_ hg BK388 : gb389 ≠ gb388)); replace HO0_5 := am_ (Kd.V_below (Kd.V_elderB (vv_ HO0_5) gb389 (Nat.le_of_eq hg.symm)) hb); replace BK388 := bb_ BK388 hb; replace HB := bp_ hb; clear hb hg))
 go_loopg [5] k (fun kq v5 w' => ∃ (x5_1 : Int) (x390000_1 : ByteArray) (x390002_1 : Int) (x390003_1 : Int), v5 = .int .i64 x5_1 ∧ Aside0 (cZ.l0 kq a1 x5_1 a0_0 a0_1 a0_2 a0_3 a0_4 l0_5 l0_6 = some (r1, r2, r3, r4)) ∧ Aside0 (kq ≤ k) ∧ Aside0 (Kd.V k66 66 w' w.heap.size (fun k_ => (P0_5_ k_ ∨ w.heap.size ≤ k_) ∧ k_ ≠ gb388 ∧ k_ ≠ gb389) (.slice A0_5 l0_5.length c0_5) l0_5) ∧ Aside0 (w'.heap[gb388]? = some (.cells #[.int .i64 a0_0, .int .i64 a0_1, .int .i64 a0_2, .int .i64 a0_3, .int .i64 a0_4, (.slice A0_5 l0_5.length c0_5), (.slice A0_6 l0_6.length c0_6)] 25 (0, 0))) ∧ Aside0 (w'.heap[gb389]? = some (.cells #[.string x390000_1, (.slice none 0 0), .int .i64 x390002_1, .int .i64 x390003_1] 66 (0, 0))) ∧ Aside0 (Below w.heap.size w w'))
 case atStart => exact ⟨(0), ((⟨#[]⟩ : ByteArray)), (0), (0), ra_, H, ⟨Nat.le_refl _⟩, ⟨by (with_reducible repeat (first | apply Kd.V_alloc | apply Kd.V_drewN | apply Kd.V_drew)); exact Kd.V_mono HO0_5.out (fun _ hk => ⟨hk.1.1, ⟨hk.1.2, hk.2⟩⟩)⟩, ⟨bk_ BK388⟩, ⟨bk_ BK389⟩, ⟨bl_⟩⟩
 case round =>
  clear H
  try clear p2
  obtain ⟨x5_1, x390000_1, x390002_1, x390003_1, rfl, HA, HK1, HO_389005, BK388, BK389, HB⟩ := hrel
  cases gk with
  | zero => exact absurd HA.out (by simp [cZ.l0])
  | succ k1 =>
   have H := HA.out
   clear HA
   simp only [cZ.l0] at H
   by_cases c5 : x5_1 < (l0_5.length : Int)
   rotate_left
   · rw [if_neg c5] at H
     have c5b0 := decide_eq_false c5
     clear c5
     simp only [Option.some.injEq, Prod.mk.injEq] at H
     obtain ⟨rfl, rfl, rfl, rfl⟩ := H
     have hnb14 := NB388_389.out
     have hnc14 := NB389_388.out
     have bz15 := bc7_ BK388
     have bz16 := bc4_ BK389
     go_wp2
     refine bodyPost_ret (results_cell_row rfl _ _ gb389 66 #[.string (⟨#[]⟩ : ByteArray), .slice none 0 0, .int .i64 0, .int .i64 0] (0, 0) _ rfl (bw_ BK389) Tryz.underlying66 rfl (by kernel_rfl)) rfl ?_
     exact ⟨_, er_, Kd.V_nil _ _ _ _ _, bl_⟩
   rw [if_pos c5] at H
   have c5b0 := decide_eq_true c5
   clear c5
   obtain ⟨c6b0, H⟩ := ifd_ H
   obtain ⟨t391, A7, H⟩ := bs_ H
   by_cases c8 : t391 = true
   · subst c8
     rw [if_pos rfl] at H
     simp only [Option.some.injEq, Prod.mk.injEq] at H
     obtain ⟨rfl, rfl, rfl, rfl⟩ := H
     have hnb9 := NB388_389.out
     have hnc9 := NB389_388.out
     have bz10 := bc7_ BK388
     have p390 : 0 ≤ (x5_1 : Int) := dt_
     have q390 : x5_1 < (l0_5.length : Int) := dt_
     obtain ⟨ad390, A390_1, c390_1, e390, hx390_0, hx390_1, hx390_2, hx390_3, hl390_1, hi390_1⟩ := iF (Kd.V_reads' HO_389005.out).2.2 x5_1 p390 q390
     cases e390
     obtain ⟨ce390, hce390, hMe390, hcc390⟩ := Kd.V_get HO_389005.out z66 x5_1 p390 (by first | exact q390 | exact dt_ | (have e_ := (Kd.V_reads' HO_389005.out).1; omega))
     obtain ⟨ua390_1, uc390_1, rfl, ul390_1, ge390_1⟩ := jC hMe390
     have hv390_1 := hcc390 1 _ rfl
     rw [add_field _ _ 1 (by omega)] at hv390_1
     replace hv390_1 := Option.some.inj (hv390_1.symm.trans hx390_1)
     injection hv390_1 with hva_ hvn_ hvc_
     rw [hva_] at ge390_1
     rw [hvc_] at ul390_1
     have HL390_1 := am_ (show Kd.V Kd.string 9 _ w.heap.size _ _ ((aV l0_5 x5_1).f1) from Kd.V_mk ul390_1 ge390_1)
     clear hva_ hvn_ hvc_ ge390_1 ul390_1
     clear hcc390 hce390
     have HR390_1 := am_ hi390_1
     have HC390_1 := am_ hl390_1
     clear hi390_1 hl390_1
     replace p390 := eq_true p390
     replace q390 := eq_true q390
     go_wp2_with (first | ((with_reducible refine gf_ 72 rfl ?_); refine gl_ (some 20) Tryz.func72 #[.slice A390_1 ((aV l0_5 x5_1).f1).length c390_1, .string a1] ?_; refine (dJ.calls k1 _ _ ((aV l0_5 x5_1).f1) a1 true _ (gw_ HG.out) (by repeat (first | exact (by repeat (first | (with_reducible exact HR390_1.out) | (with_reducible refine Kd.C_alloc ?_ _) | (with_reducible refine Kd.C_drewN ?_ _) | (with_reducible refine Kd.C_drew ?_) | exact HR390_1.out)) | (with_reducible refine Kd.C_alloc ?_ _) | (with_reducible refine Kd.C_drewN ?_ _) | (with_reducible refine Kd.C_drew ?_))) HC390_1.out A7.out).mono ?_; rintro e w' ⟨rfl, ⟨nd, rfl⟩⟩; refine ⟨_, rfl, ?_⟩; (try (rw [drewN_self wr]; generalize hq_ : World.drewN wr _ = wr; have n0_ : Aside0 (Kd.V Kd.string 9 wr w.heap.size (fun k_ => (P0_5_ k_ ∨ w.heap.size ≤ k_) ∧ k_ ≠ gb388 ∧ k_ ≠ gb389) (.slice A390_1 ((aV l0_5 x5_1).f1).length c390_1) ((aV l0_5 x5_1).f1)) := ⟨by rw [← hq_]; exact (vv_ HL390_1)⟩; have n1_ : Aside0 (Kd.V k66 66 wr w.heap.size (fun k_ => (P0_5_ k_ ∨ w.heap.size ≤ k_) ∧ k_ ≠ gb388 ∧ k_ ≠ gb389) (.slice (some ad390) l0_5.length c0_5) l0_5) := ⟨by rw [← hq_]; exact (vv_ HO_389005)⟩; have n2_ : Aside0 (wr.heap[gb388]? = some (.cells #[.int .i64 a0_0, .int .i64 a0_1, .int .i64 a0_2, .int .i64 a0_3, .int .i64 a0_4, .slice (some ad390) l0_5.length c0_5, .slice A0_6 l0_6.length c0_6] 25 (0, 0))) := ⟨by rw [← hq_]; exact (bk_ BK388)⟩; have n3_ : Aside0 (wr.heap[gb389]? = some (.cells #[.string x390000_1, .slice none 0 0, .int .i64 x390002_1, .int .i64 x390003_1] 66 (0, 0))) := ⟨by rw [← hq_]; exact (bk_ BK389)⟩; have n4_ : Aside0 (Below w.heap.size w wr) := ⟨by rw [← hq_]; exact bl_⟩; have n5_ : Aside0 (Kd.C Kd.string wr A390_1 ((aV l0_5 x5_1).f1).length ((aV l0_5 x5_1).f1)) := ⟨by rw [← hq_]; exact (by repeat (first | (with_reducible exact HR390_1.out) | (with_reducible refine Kd.C_alloc ?_ _) | (with_reducible refine Kd.C_drewN ?_ _) | (with_reducible refine Kd.C_drew ?_) | exact HR390_1.out))⟩; clear HL390_1 HO_389005 BK388 BK389 HB HR390_1; have HL390_1 := n0_; have HO_389005 := n1_; have BK388 := n2_; have BK389 := n3_; have HB := n4_; have HR390_1 := n5_; clear n0_ n1_ n2_ n3_ n4_ n5_)); have p392 : 0 ≤ (x5_1 : Int) := dt_; have q392 : x5_1 < (l0_5.length : Int) := dt_; obtain ⟨ad392, A392_1, c392_1, e392, hx392_0, hx392_1, hx392_2, hx392_3, hl392_1, hi392_1⟩ := iF (Kd.V_reads' HO_389005.out).2.2 x5_1 p392 q392; obtain rfl : ad390 = ad392 := (by injection e392); obtain ⟨ce392, hce392, hMe392, hcc392⟩ := Kd.V_get HO_389005.out z66 x5_1 p392 (by first | exact q392 | exact dt_ | (have e_ := (Kd.V_reads' HO_389005.out).1; omega)); obtain ⟨ua392_1, uc392_1, rfl, ul392_1, ge392_1⟩ := jC hMe392; have hv392_1 := hcc392 1 _ rfl; rw [add_field _ _ 1 (by omega)] at hv392_1; replace hv392_1 := Option.some.inj (hv392_1.symm.trans hx392_1); injection hv392_1 with hva_ hvn_ hvc_; rw [hva_] at ge392_1; rw [hvc_] at ul392_1; have HL392_1 := am_ (show Kd.V Kd.string 9 _ w.heap.size _ _ ((aV l0_5 x5_1).f1) from Kd.V_mk ul392_1 ge392_1); clear hva_ hvn_ hvc_ ge392_1 ul392_1; clear hcc392 hce392; have HR392_1 := am_ hi392_1; have HC392_1 := am_ hl392_1; clear hi392_1 hl392_1; replace p392 := eq_true p392; replace q392 := eq_true q392; have ea_ := Option.some.inj (hx390_1.symm.trans (by first | exact hx392_1 | (rw [← hq_] at hx392_1; exact hx392_1))); injection ea_ with ea_ en_ ec_; subst ea_; subst ec_; clear en_; obtain ⟨hcy_0, hcy_1, hcy_2, hcy_3, hcy_4, hcy_5, hcy_6, hfy_0, hfy_1, hfy_2, hfy_3, hfy_4, hfy_5, hfy_6⟩ := bc7_ BK388; have bz11 := bc4_ BK389))
     refine bodyPost_ret (results_cell_row rfl _ _ gb389 66 #[.string ((aV l0_5 x5_1).f0), .slice A390_1 ((aV l0_5 x5_1).f1).length c390_1, .int .i64 ((aV l0_5 x5_1).f2), .int .i64 ((aV l0_5 x5_1).f3)] (0, 0) _ rfl (bw_ BK389) Tryz.underlying66 rfl (by kernel_rfl)) rfl ?_
     exact ⟨_, er_, by (with_reducible repeat (first | apply Kd.V_alloc | apply Kd.V_drewN | apply Kd.V_drew)); exact Kd.V_mono (Kd.V_far (p := ⟨gb389, 3, none⟩) (Kd.V_far (p := ⟨gb389, 2, none⟩) (Kd.V_far (p := ⟨gb389, 1, none⟩) (Kd.V_far (p := ⟨gb389, 0, none⟩) (Kd.V_mono HL392_1.out (fun k_ hk => (⟨hk, hk.2.2⟩ : _ ∧ k_ ≠ gb389))) (fun _ hk => hk.2) (.string ((aV l0_5 x5_1).f0))) (fun _ hk => hk.2) (.slice A390_1 ((aV l0_5 x5_1).f1).length c390_1)) (fun _ hk => hk.2) (.int .i64 ((aV l0_5 x5_1).f2))) (fun _ hk => hk.2) (.int .i64 ((aV l0_5 x5_1).f3))) (fun _ hk => hk.1.1), bl_⟩
   obtain rfl := bf_ c8
   clear c8
   rw [if_neg ft_] at H
   replace H := am_ H
   have hnb12 := NB388_389.out
   have hnc12 := NB389_388.out
   have bz13 := bc7_ BK388
   have p390 : 0 ≤ (x5_1 : Int) := dt_
   have q390 : x5_1 < (l0_5.length : Int) := dt_
   obtain ⟨ad390, A390_1, c390_1, e390, hx390_0, hx390_1, hx390_2, hx390_3, hl390_1, hi390_1⟩ := iF (Kd.V_reads' HO_389005.out).2.2 x5_1 p390 q390
   cases e390
   obtain ⟨ce390, hce390, hMe390, hcc390⟩ := Kd.V_get HO_389005.out z66 x5_1 p390 (by first | exact q390 | exact dt_ | (have e_ := (Kd.V_reads' HO_389005.out).1; omega))
   obtain ⟨ua390_1, uc390_1, rfl, ul390_1, ge390_1⟩ := jC hMe390
   have hv390_1 := hcc390 1 _ rfl
   rw [add_field _ _ 1 (by omega)] at hv390_1
   replace hv390_1 := Option.some.inj (hv390_1.symm.trans hx390_1)
   injection hv390_1 with hva_ hvn_ hvc_
   rw [hva_] at ge390_1
   rw [hvc_] at ul390_1
   have HL390_1 := am_ (show Kd.V Kd.string 9 _ w.heap.size _ _ ((aV l0_5 x5_1).f1) from Kd.V_mk ul390_1 ge390_1)
   clear hva_ hvn_ hvc_ ge390_1 ul390_1
   clear hcc390 hce390
   have HR390_1 := am_ hi390_1
   have HC390_1 := am_ hl390_1
   clear hi390_1 hl390_1
   replace p390 := eq_true p390
   replace q390 := eq_true q390
   go_wp2_with (first | ((with_reducible refine gf_ 72 rfl ?_); refine gl_ (some 20) Tryz.func72 #[.slice A390_1 ((aV l0_5 x5_1).f1).length c390_1, .string a1] ?_; refine (dJ.calls k1 _ _ ((aV l0_5 x5_1).f1) a1 false _ (gw_ HG.out) (by repeat (first | exact (by repeat (first | (with_reducible exact HR390_1.out) | (with_reducible refine Kd.C_alloc ?_ _) | (with_reducible refine Kd.C_drewN ?_ _) | (with_reducible refine Kd.C_drew ?_) | exact HR390_1.out)) | (with_reducible refine Kd.C_alloc ?_ _) | (with_reducible refine Kd.C_drewN ?_ _) | (with_reducible refine Kd.C_drew ?_))) HC390_1.out A7.out).mono ?_; rintro e w' ⟨rfl, ⟨nd, rfl⟩⟩; refine ⟨_, rfl, ?_⟩))
   go_roundg k1
   case measure => have := HK1.out; omega
   case rel => exact ⟨(wrap64 (x5_1 + 1)), (x390000_1), (x390002_1), (x390003_1), ra_, H, ⟨by have := HK1.out; omega⟩, ⟨vv_ HO_389005⟩, ⟨bk_ BK388⟩, ⟨bk_ BK389⟩, ⟨bl_⟩⟩
def eF.f (k : Nat) (a0_0 : Int) (a0_1 : Int) (a0_2 : Int) (a0_3 : Int) (a0_4 : Int) (l0_5 : List (S66)) (l0_6 : List (S68)) (a1 : ByteArray) : Option (Int) := (cZ.f k a0_0 a0_1 a0_2 a0_3 a0_4 l0_5 l0_6 a1).bind fun bt394 => (if bt394.2.2.1 > 0 then (some bt394.2.2.1) else (some a0_0))
theorem eF.calls (k : Nat) (a0_0 : Int) (a0_1 : Int) (a0_2 : Int) (a0_3 : Int) (a0_4 : Int) (A0_5 : Option Addr) (c0_5 : Nat) (l0_5 : List (S66)) (A0_6 : Option Addr) (c0_6 : Nat) (l0_6 : List (S68)) (a1 : ByteArray) (r : Int) (w : World) (hG : Tryz.GW w) (hr0_5 : Kd.C k66 w A0_5 l0_5.length l0_5) (hc0_5 : l0_5.length ≤ c0_5) (hr0_6 : Kd.C k68 w A0_6 l0_6.length l0_6) (hc0_6 : l0_6.length ≤ c0_6) (h : eF.f k a0_0 a0_1 a0_2 a0_3 a0_4 l0_5 l0_6 a1 = some r) :
 Calls Tryz.prog 81 #[.agg #[.int .i64 a0_0, .int .i64 a0_1, .int .i64 a0_2, .int .i64 a0_3, .int .i64 a0_4, .slice A0_5 l0_5.length c0_5, .slice A0_6 l0_6.length c0_6], .string a1] w fun e w' => e = .returned (.int .i64 r) ∧ Below w.heap.size w w' := by
 have hu25 := Tryz.underlying25
 have hu66 := Tryz.underlying66
 have hfd66_2 : ∀ (s0 : ByteArray) (A1 : Option Addr) (n1 c1 : Nat) (x2 : Int) (x3 : Int) (w : World), (Instr.field 66 (.agg #[.string s0, .slice A1 n1 c1, .int .i64 x2, .int .i64 x3]) 2).run Tryz.prog w = .ok (.int .i64 x2) w := by intros; kernel_rfl
 have HR0_5 := am_ hr0_5
 have HC0_5 := am_ hc0_5
 clear hr0_5 hc0_5
 have HR0_6 := am_ hr0_6
 have HC0_6 := am_ hc0_6
 clear hr0_6 hc0_6
 have HG := am_ hG
 clear hG
 have HB := am_ (Below.refl w.heap.size w)
 have H : ((cZ.f k a0_0 a0_1 a0_2 a0_3 a0_4 l0_5 l0_6 a1).bind fun bt394 => (if bt394.2.2.1 > 0 then (some bt394.2.2.1) else (some a0_0))) = some r := h
 clear h
 obtain ⟨⟨t394, t395, t398, t399⟩, A3, H⟩ := bs_ H
 by_cases c4 : t398 > 0
 · rw [if_pos c4] at H
   have c4b0 : decide (0 < t398) = true := decide_eq_true c4
   clear c4
   obtain rfl := sj_ H
   go_enter Tryz.func81, Tryz.ntmps81
   go_wp2_with (first | ((with_reducible refine gn_ 2 rfl ?_); refine bq_ (N := 2) (cs := #[.int .i64 a0_0, .int .i64 a0_1, .int .i64 a0_2, .int .i64 a0_3, .int .i64 a0_4, .slice A0_5 l0_5.length c0_5, .slice A0_6 l0_6.length c0_6]) (t := 25) ?_; intro gb393 hg w5 BK393 hb; have GW393 := ga_ w hg; have GE393 := GW393; replace HB := bp_ hb; clear hb hg; have bz6 := bc7_ BK393) | ((with_reducible refine gf_ 83 rfl ?_); refine gl_ (some 8) Tryz.func83 #[.agg #[.int .i64 a0_0, .int .i64 a0_1, .int .i64 a0_2, .int .i64 a0_3, .int .i64 a0_4, .slice A0_5 l0_5.length c0_5, .slice A0_6 l0_6.length c0_6], .string a1] ?_; refine (cZ.calls k a0_0 a0_1 a0_2 a0_3 a0_4 (fun k_ => k_ < w.heap.size) _ _ l0_5 _ _ l0_6 a1 t394 t395 t398 t399 _ (gw_ HG.out) (Kd.V_mk HC0_5.out (Kd.F_below (Kd.C_F iV HR0_5.out) bl_)) (cb_ (Kd.C_below HR0_6.out HB.out)) HC0_6.out A3.out).mono ?_; rintro e w7 ⟨v396, rfl, ho0, hb⟩; refine ⟨_, rfl, ?_⟩; have HO397 := am_ (Kd.V_lower (Kd.V_mono (ok' := fun k_ => k_ ≠ gb393) ho0 (fun k_ hk_ => Or.elim hk_ (fun hs_ => fun e_ => Nat.not_le.2 hs_ (by rw [e_]; exact GW393.out)) (fun hn_ => (Kd.freshB (g := gb393) (o := .cells #[.int .i64 a0_0, .int .i64 a0_1, .int .i64 a0_2, .int .i64 a0_3, .int .i64 a0_4, .slice A0_5 l0_5.length c0_5, .slice A0_6 l0_6.length c0_6] 25 (0, 0)) (bk_ BK393) k_ hn_)))) (below_size bl_)); replace BK393 := bb_ BK393 hb; replace HB := bp_ hb; (try clear hb); (try clear ho0); obtain ⟨Ax396, cx396, ex396⟩ := Kd.V_slice HO397.out; subst ex396))
   go_ret
   exact ⟨er_, bl_⟩
 rw [if_neg c4] at H
 have c4b0 : decide (0 < t398) = false := decide_eq_false c4
 clear c4
 obtain rfl := sj_ H
 go_enter Tryz.func81, Tryz.ntmps81
 go_wp2_with (first | ((with_reducible refine gn_ 2 rfl ?_); refine bq_ (N := 2) (cs := #[.int .i64 a0_0, .int .i64 a0_1, .int .i64 a0_2, .int .i64 a0_3, .int .i64 a0_4, .slice A0_5 l0_5.length c0_5, .slice A0_6 l0_6.length c0_6]) (t := 25) ?_; intro gb393 hg w8 BK393 hb; have GW393 := ga_ w hg; have GE393 := GW393; replace HB := bp_ hb; clear hb hg; have bz9 := bc7_ BK393) | ((with_reducible refine gf_ 83 rfl ?_); refine gl_ (some 8) Tryz.func83 #[.agg #[.int .i64 a0_0, .int .i64 a0_1, .int .i64 a0_2, .int .i64 a0_3, .int .i64 a0_4, .slice A0_5 l0_5.length c0_5, .slice A0_6 l0_6.length c0_6], .string a1] ?_; refine (cZ.calls k a0_0 a0_1 a0_2 a0_3 a0_4 (fun k_ => k_ < w.heap.size) _ _ l0_5 _ _ l0_6 a1 t394 t395 t398 t399 _ (gw_ HG.out) (Kd.V_mk HC0_5.out (Kd.F_below (Kd.C_F iV HR0_5.out) bl_)) (cb_ (Kd.C_below HR0_6.out HB.out)) HC0_6.out A3.out).mono ?_; rintro e w10 ⟨v396, rfl, ho0, hb⟩; refine ⟨_, rfl, ?_⟩; have HO397 := am_ (Kd.V_lower (Kd.V_mono (ok' := fun k_ => k_ ≠ gb393) ho0 (fun k_ hk_ => Or.elim hk_ (fun hs_ => fun e_ => Nat.not_le.2 hs_ (by rw [e_]; exact GW393.out)) (fun hn_ => (Kd.freshB (g := gb393) (o := .cells #[.int .i64 a0_0, .int .i64 a0_1, .int .i64 a0_2, .int .i64 a0_3, .int .i64 a0_4, .slice A0_5 l0_5.length c0_5, .slice A0_6 l0_6.length c0_6] 25 (0, 0)) (bk_ BK393) k_ hn_)))) (below_size bl_)); replace BK393 := bb_ BK393 hb; replace HB := bp_ hb; (try clear hb); (try clear ho0); obtain ⟨Ax396, cx396, ex396⟩ := Kd.V_slice HO397.out; subst ex396; have bz11 := bc7_ BK393))
 go_ret
 exact ⟨er_, bl_⟩
end Go.Proofs.YthkeonbmgcphkaaGreatDoor.PN
namespace Go.Proofs.YthkeonbmgcphkaaGreatDoorPlain
open Go.RowKit Go.Proofs.YthkeonbmgcphkaaGreatDoor.PN Go.Proofs.YthkeonbmgcphkaaGreatDoorW.PrintWords
set_option linter.unusedVariables false
set_option linter.unusedSimpArgs false
theorem hasPoint_tot (l : List Rc) (x y : Int) (hl : l.length ≤ 2000) (hg : ∀ r ∈ l, r.f0 < r.f2) : Tot (fun k => bZ.f k l x y) fun b => b = covR l y x := by
  unfold bZ.f
  refine Tot.bind (row_tot l y (by omega) hg) fun t ht => ?_
  obtain ⟨t1, t2, t3⟩ := ht
  refine Tot.bind (Q := fun b => b = covR l y x) ?_ fun b hb => Tot.pure _ hb
  unfold dI.f
  have key : ∀ (d j : Nat), j + d = t.length → (t.take j).any (inS x) = false → Tot (fun k => dI.l0 k t x (j : Int)) fun b => b = t.any (inS x) := by
    intro d
    induction d with
    | zero =>
      intro j hj ho
      refine Tot.succ (Tot.pure false ?_) fun k => by rw [dI.l0, if_neg (by omega)]
      rw [List.take_of_length_le (by omega)] at ho
      exact ho.symm
    | succ d ih =>
      intro j hj ho
      have hjs : j < t.length := by omega
      have next : inS x t[j] = false → Tot (fun k => dI.l0 k t x ((j + 1 : Nat) : Int)) fun b => b = t.any (inS x) := fun h => by
        refine ih (j + 1) (by omega) ?_
        rw [List.take_add_one, List.getElem?_eq_getElem hjs, List.any_append, ho]
        simp [h]
      refine Tot.succ ?_ fun k => by rw [dI.l0, if_pos (by omega), if_pos (by omega), rdSp hjs, w1 hjs (by omega)]
      refine Tot.ite (fun h1 => Tot.ite (fun h2 => Tot.pure _ ?_) (fun h2 => next ?_)) (fun h1 => next ?_)
      · rw [eq_comm, List.any_eq_true]
        exact ⟨_, List.getElem_mem hjs, by unfold inS; rw [decide_eq_true h1, decide_eq_true h2]; rfl⟩
      · unfold inS; rw [decide_eq_false h2]; simp
      · unfold inS; rw [decide_eq_false h1]; simp
  exact (key t.length 0 (by omega) (by simp)).imp fun b hb => by rw [hb, t2]
end Go.Proofs.YthkeonbmgcphkaaGreatDoorPlain
