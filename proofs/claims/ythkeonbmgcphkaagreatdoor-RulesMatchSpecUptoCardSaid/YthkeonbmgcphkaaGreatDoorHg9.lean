import Derived.Test.YthkeonbmgcphkaaGreatDoorHg6
import Derived.Test.YthkeonbmgcphkaaGreatDoorHg8
namespace Go.Proofs.YthkeonbmgcphkaaGreatDoor.PM
open Go.RowKit Go.Proofs.YthkeonbmgcphkaaGreatDoorW.PrintWords Go.Proofs.YthkeonbmgcphkaaGreatDoorW.PrintLast Go.Proofs.YthkeonbmgcphkaaGreatDoorW.PrintMore
attribute [local go_sem] max2_int min2_int max_two min_two max_three min_three max_four min_four
set_option linter.unusedVariables false
set_option maxHeartbeats 8000000
set_option maxRecDepth 100000
set_option linter.unusedSimpArgs false
def aG.gQ (p : Option ByteArray) (n : ByteArray) : Bool := match p with | none => false | some q => (Op.bytesLess n.toList q.toList || n.toList == q.toList)
def aG.isR (n : Int) : Bool := decide (0 ≤ n) && decide (n ≤ 100000)
def aG.nets (k : Nat) (seen : ByteArray → Bool) : List ByteArray → Option ByteArray → Option Int
 | [], _ => some 0
 | n :: t, p => (dX.f k n).bind fun b => if b = true then (if aG.gQ p n = true then some 8 else if seen n = true then some 7 else aG.nets k seen t (some n)) else some 5
def aG.l (k : Nat) : List S66 → Option ByteArray → (ByteArray → Bool) → Option Int
 | [], _, _ => some 0
 | c :: t, p, seen => (bW.f k c.f0).bind fun b => if b = true then (if 1000 < c.f1.length then some 2 else (aG.nets k seen c.f1 none).bind fun t1 => if t1 = 0 then (if aG.isR c.f2 = true then (if aG.isR c.f3 = true then (if aG.gQ p c.f0 = true then some 8 else aG.l k t (some c.f0) (fun x => seen x || c.f1.any (fun y => decide (x = y)))) else some 1) else some 1) else some t1) else some 5
def aG.f (k : Nat) (l0 : List (S66)) : Option (Int) := if 50 < l0.length then some 2 else aG.l k l0 none (fun _ => false)
theorem aG.path_size (k : Nat) (n : ByteArray) (h : dX.f k n = some true) : n.size ≤ maxLen := by
 unfold dX.f at h
 by_cases hs : (n.size : Int) ≤ 200
 · have : maxLen = 9223372036854775807 := by decide
   omega
 rw [if_neg hs] at h
 exact absurd (Option.some.inj h) (by decide)
theorem aG.jH (n : Int) (b : Bool) (h : aG.isR n = b) : dN.f n = some b := by
 subst h
 unfold dN.f dQ.f aG.isR
 by_cases h0 : 0 ≤ n
 · rw [if_pos h0]; simp [h0]
 rw [if_neg h0]; simp [h0]
theorem aG.drop66 {l : List S66} {i : Nat} (h : i < l.length) : l.drop i = aT l (i : Int) :: l.drop (i + 1) := by
 rw [List.drop_eq_getElem_cons h]
 unfold aT
 rw [Int.toNat_natCast, List.getD_eq_getElem?_getD, List.getElem?_eq_getElem h]
 rfl
theorem aG.drops {l : List ByteArray} {i : Nat} (h : i < l.length) : l.drop i = rdOf ByteArray.empty l (i : Int) :: l.drop (i + 1) := by
 rw [List.drop_eq_getElem_cons h]
 unfold rdOf
 rw [Int.toNat_natCast, List.getD_eq_getElem?_getD, List.getElem?_eq_getElem h]
 rfl
theorem aG.takes {l : List ByteArray} {i : Nat} (h : i < l.length) : l.take (i + 1) = l.take i ++ [rdOf ByteArray.empty l (i : Int)] := by
 rw [List.take_succ_eq_append_getElem h]
 unfold rdOf
 rw [Int.toNat_natCast, List.getD_eq_getElem?_getD, List.getElem?_eq_getElem h]
 rfl
open Go.Proofs.YthkeonbmgcphkaaGreatDoorMap in
structure aG.Inv (w wr : World) (m : Nat) (f : ByteArray → Bool) : Prop where
 below : Below w.heap.size w wr
 own : dY Tryz.prog 9 4 wr w.heap.size m f
def aG.prev (l : List S66) (i : Nat) : Option ByteArray := if i = 0 then none else some (aT l ((i - 1 : Nat) : Int)).f0
def aG.before (l : List ByteArray) (i : Nat) : Option ByteArray := if i = 0 then none else some (rdOf ByteArray.empty l ((i - 1 : Nat) : Int))
theorem aG.nets_size (k : Nat) (seen : ByteArray → Bool) : ∀ l p, aG.nets k seen l p = some 0 → ∀ x ∈ l, x.size ≤ maxLen
 | [], _, _, x, hx => by cases hx
 | n :: t, p, h, x, hx => by
  unfold aG.nets at h
  obtain ⟨b, hb, h⟩ := Option.bind_eq_some_iff.1 h
  cases b with
  | false => rw [if_neg (by decide)] at h; exact absurd (Option.some.inj h) (by decide)
  | true =>
   rw [if_pos rfl] at h
   by_cases h1 : aG.gQ p n = true
   · rw [if_pos h1] at h; exact absurd (Option.some.inj h) (by decide)
   rw [if_neg h1] at h
   by_cases h2 : seen n = true
   · rw [if_pos h2] at h; exact absurd (Option.some.inj h) (by decide)
   rw [if_neg h2] at h
   rcases List.mem_cons.1 hx with rfl | hx
   · exact aG.path_size k _ hb
   exact aG.nets_size k seen t _ h x hx
theorem aG.nets_sizes (k : Nat) (seen : ByteArray → Bool) (l : List ByteArray) (h : aG.nets k seen l none = some 0) (j : Nat) (hj : j < l.length) (n : ByteArray) (hn : rdOf ByteArray.empty l (j : Int) = n) : n.size ≤ maxLen := by
 refine aG.nets_size k seen l none h n ?_
 rw [← hn]
 unfold rdOf
 rw [Int.toNat_natCast, List.getD_eq_getElem?_getD, List.getElem?_eq_getElem hj]
 exact List.getElem_mem hj
open Go.Proofs.YthkeonbmgcphkaaGreatDoorMap in
theorem aG.calls (k : Nat) (A0 : Option Addr) (c0 : Nat) (l0 : List (S66)) (r : Int) (w : World) (hG : Tryz.GW w) (hr0 : Kd.C k66 w A0 l0.length l0) (hc0 : l0.length ≤ c0) (h : aG.f k l0 = some r) :
 Calls Tryz.prog 35 #[.slice A0 l0.length c0] w fun e w' => e = .returned (.int .i64 r) ∧ Below w.heap.size w w' := by
 have hu66 := Tryz.underlying66
 have hu9 := Tryz.underlying9
 have HG := am_ hG
 have HR := am_ hr0
 have HC := am_ hc0
 unfold aG.f at h
 clear hG hr0 hc0
 by_cases h0 : 50 < l0.length
 · rw [if_pos h0] at h
   obtain rfl := Option.some.inj h
   have d0 : decide ((50 : Int) < (l0.length : Int)) = true := decide_eq_true (by omega)
   go_enter Tryz.func35, Tryz.ntmps35
   go_wp2
   go_ret
   exact ⟨rfl, Below.refl _ _⟩
 rw [if_neg h0] at h
 have H := am_ h
 clear h
 have d0 : decide ((50 : Int) < (l0.length : Int)) = false := decide_eq_false (by omega)
 have hmm := @run_makeMap Tryz.prog
 go_enter Tryz.func35, Tryz.ntmps35
 go_wp2
 have I0 : Aside0 (aG.Inv w (w.alloc (.map #[] 0)) 0 (fun _ => false)) := ⟨⟨below_alloc (Below.refl _ _) _, dY.made w _ _ _⟩⟩
 generalize w.alloc (.map #[] 0) = w1 at I0 ⊢
 go_loopg [16] (l0.length + 1) (fun gg v16 wr => ∃ (i m : Nat) (f : ByteArray → Bool), v16 = .int .i64 i ∧ i ≤ l0.length ∧ l0.length + 1 - i ≤ gg ∧ m ≤ 1000 * i ∧ Aside0 (aG.Inv w wr m f) ∧ Aside0 (aG.l k (l0.drop i) (aG.prev l0 i) f = some r))
 case atStart => exact ⟨0, 0, fun _ => false, rfl, Nat.zero_le _, by omega, Nat.le_refl _, I0, H⟩
 case round =>
  clear H I0 w1
  obtain ⟨i, m, f, rfl, hi, hgg, hm, I, H⟩ := hrel
  by_cases hlt : i < l0.length
  rotate_left
  · have e0 : decide (i < l0.length) = false := decide_eq_false hlt
    have hil : i = l0.length := by omega
    have H' := H.out
    rw [hil, List.drop_length] at H'
    obtain rfl := Option.some.inj H'
    go_wp2
    go_ret
    exact ⟨rfl, I.out.below⟩
  have e0 : decide (i < l0.length) = true := decide_eq_true hlt
  obtain ⟨ad, A1, c1, eA, x0, x1, x2, x3, hl1, hi1⟩ := iI HR.out (i : Int) (by omega) (by omega)
  subst eA
  rw [Int.toNat_natCast] at x0 x1 x2 x3
  have H' := H.out
  rw [aG.drop66 hlt] at H'
  obtain ⟨c, hc⟩ : ∃ c, Aside0 (aT l0 (i : Int) = c) := ⟨_, ⟨rfl⟩⟩
  rw [hc.out] at x0 x1 x2 x3 hl1 hi1 H'
  have HL1 := am_ hl1
  have HI1 := am_ hi1
  have HH := am_ H'
  clear hl1 hi1 H' H
  have p1 : (0 ≤ (i : Int)) = True := eq_true (by omega)
  have q1 : ((i : Int) < (l0.length : Int)) = True := eq_true (by omega)
  replace x0 := (I.out.below.cell (World.block_lt_of_cell? w _ x0)).trans x0
  replace x1 := (I.out.below.cell (World.block_lt_of_cell? w _ x1)).trans x1
  replace x2 := (I.out.below.cell (World.block_lt_of_cell? w _ x2)).trans x2
  replace x3 := (I.out.below.cell (World.block_lt_of_cell? w _ x3)).trans x3
  go_upto_region 6 with (fail)
  go_cut [4, 5] (fun v4 v5 wc => ∃ gb : Nat, v4 = .int .i64 i ∧ v5 = .pointer (some ⟨gb, 0, none⟩) ∧ Aside0 (wc.heap[gb]? = some (.cells #[.string c.f0, .slice A1 c.f1.length c1, .int .i64 c.f2, .int .i64 c.f3] 66 (0, 0))) ∧ Aside0 (w.heap.size < gb) ∧ Aside0 (aG.Inv w wc m f))
  case first =>
   go_wp2_with (first | ((with_reducible refine gn_ 5 rfl ?_); refine bx_ (N := 5) (cs := #[.string (⟨#[]⟩ : ByteArray), .slice none 0 0, .int .i64 0, .int .i64 0]) (t := 66) ?_; intro gb hg w3 hbox hb; have BK := am_ hbox; have GB := am_ hb; have GG := am_ hg; clear hb hbox hg; obtain ⟨hcz_0, hcz_1, hcz_2, hcz_3, hfz_0, hfz_1, hfz_2, hfz_3⟩ := bc4_ BK))
   have GE : wr.heap.size ≤ gb := Nat.le_of_eq GG.out.symm
   go_meet
   have GE' : w.heap.size < gb := Nat.lt_of_lt_of_le I.out.own.lt GE
   have hB : Below wr.heap.size wr ((((w3.setCell ⟨gb, 0, none⟩ (.string c.f0)).setCell ⟨gb, 1, none⟩ (.slice A1 c.f1.length c1)).setCell ⟨gb, 2, none⟩ (.int .i64 c.f2)).setCell ⟨gb, 3, none⟩ (.int .i64 c.f3)) := by repeat (first | exact GB.out | refine below_set ?_ GE)
   refine ⟨gb, rfl, rfl, ⟨?_⟩, ⟨GE'⟩, ⟨below_step I.out.below hB, I.out.own.below hB⟩⟩
   refine blk_put (cs := #[.string c.f0, .slice A1 c.f1.length c1, .int .i64 c.f2, .int .i64 0]) ?_ 3 _ rfl
   refine blk_put (cs := #[.string c.f0, .slice A1 c.f1.length c1, .int .i64 0, .int .i64 0]) ?_ 2 _ rfl
   refine blk_put (cs := #[.string c.f0, .slice none 0 0, .int .i64 0, .int .i64 0]) ?_ 1 _ rfl
   refine blk_put (cs := #[.string (⟨#[]⟩ : ByteArray), .slice none 0 0, .int .i64 0, .int .i64 0]) ?_ 0 _ rfl
   exact BK.out
  case rest =>
   obtain ⟨gb, rfl, rfl, BK, HGB, J⟩ := hcut
   clear I x0 x1 x2 x3
   have hcz0 : wc.cell? ⟨gb, 0, none⟩ = some (.string c.f0) := (blk_cell BK.out 0).trans rfl
   have hcz1 : wc.cell? ⟨gb, 1, none⟩ = some (.slice A1 c.f1.length c1) := (blk_cell BK.out 1).trans rfl
   have hcz2 : wc.cell? ⟨gb, 2, none⟩ = some (.int .i64 c.f2) := (blk_cell BK.out 2).trans rfl
   have hcz3 : wc.cell? ⟨gb, 3, none⟩ = some (.int .i64 c.f3) := (blk_cell BK.out 3).trans rfl
   have H' := HH.out
   unfold aG.l at H'
   obtain ⟨b, hb, H'⟩ := Option.bind_eq_some_iff.1 H'
   have HW := am_ hb
   have HN := am_ H'
   clear hb H' HH
   cases b with
   | false =>
    have H' := HN.out
    rw [if_neg (by decide)] at H'
    obtain rfl := Option.some.inj H'
    go_wp2_with (first | (go_at_call 65; refine (bW.calls k c.f0 false _ (Tryz.dJ HG.out J.out.below) HW.out).mono ?_; rintro e w' ⟨rfl, ⟨nd, rfl⟩⟩))
    go_ret
    exact ⟨rfl, pw_below_drewN J.out.below _⟩
   | true =>
    have H' := HN.out
    rw [if_pos rfl] at H'
    by_cases hlen : 1000 < c.f1.length
    · rw [if_pos hlen] at H'
      have e1 : decide ((1000 : Int) < (c.f1.length : Int)) = true := decide_eq_true (by omega)
      obtain rfl := Option.some.inj H'
      go_wp2_with (first | (go_at_call 65; refine (bW.calls k c.f0 true _ (Tryz.dJ HG.out J.out.below) HW.out).mono ?_; rintro e w' ⟨rfl, ⟨nd, rfl⟩⟩))
      go_ret
      exact ⟨rfl, pw_below_drewN J.out.below _⟩
    rw [if_neg hlen] at H'
    have e1 : decide ((1000 : Int) < (c.f1.length : Int)) = false := decide_eq_false (by omega)
    obtain ⟨t1, ht, H'⟩ := Option.bind_eq_some_iff.1 H'
    have HT := am_ ht
    have HT0 := am_ ht
    have HR1 := am_ H'
    clear H' ht HN
    go_wp2_with (first | (go_at_call 65; refine (bW.calls k c.f0 true _ (Tryz.dJ HG.out J.out.below) HW.out).mono ?_; rintro e w' ⟨rfl, ⟨nd, rfl⟩⟩))
    have J1 : Aside0 (aG.Inv w (wc.drewN nd) m f) := ⟨⟨pw_below_drewN J.out.below _, J.out.own.below (pw_below_drewN (Below.refl _ _) _)⟩⟩
    have BK1 : Aside0 ((wc.drewN nd).heap[gb]? = some (.cells #[.string c.f0, .slice A1 c.f1.length c1, .int .i64 c.f2, .int .i64 c.f3] 66 (0, 0))) := ⟨blk_drewN BK.out _⟩
    clear hcz0 hcz1 hcz2 hcz3 J BK HW
    generalize wc.drewN nd = w2 at J1 BK1 ⊢
    go_loopg [32] (c.f1.length + 1) (fun gg v32 wr => ∃ (j : Nat), v32 = .int .i64 j ∧ j ≤ c.f1.length ∧ c.f1.length - j ≤ gg ∧ Aside0 (aG.Inv w wr m f) ∧ Aside0 (wr.heap[gb]? = some (.cells #[.string c.f0, .slice A1 c.f1.length c1, .int .i64 c.f2, .int .i64 c.f3] 66 (0, 0))) ∧ Aside0 (aG.nets k f (c.f1.drop j) (aG.before c.f1 j) = some t1))
    case atStart => exact ⟨0, rfl, Nat.zero_le _, by omega, J1, BK1, HT⟩
    case round =>
     clear J1 BK1 HT w2
     obtain ⟨j, rfl, hj, hg2, J, BK, HT⟩ := hrel
     have hlc : c.f1.length ≤ 1000 := by omega
     by_cases hlt2 : j < c.f1.length
     · have e2 : decide (j < c.f1.length) = true := decide_eq_true hlt2
       have HT' := HT.out
       rw [aG.drops hlt2] at HT'
       obtain ⟨ad1, eA, y0⟩ := Kd.at_string HI1.out (j : Int) (by omega) (by omega)
       subst eA
       rw [Int.toNat_natCast] at y0
       obtain ⟨n, hn⟩ : ∃ n, Aside0 (rdOf ByteArray.empty c.f1 (j : Int) = n) := ⟨_, ⟨rfl⟩⟩
       rw [hn.out] at y0 HT'
       have Y0 := am_ y0
       replace y0 := (J.out.below.cell (World.block_lt_of_cell? w _ y0)).trans y0
       have p2 : (0 ≤ (j : Int)) = True := eq_true (by omega)
       have q2 : ((j : Int) < (c.f1.length : Int)) = True := eq_true (by omega)
       have hcz0 : wr.cell? ⟨gb, 0, none⟩ = some (.string c.f0) := (blk_cell BK.out 0).trans rfl
       have hcz1 : wr.cell? ⟨gb, 1, none⟩ = some (.slice (some ad1) c.f1.length c1) := (blk_cell BK.out 1).trans rfl
       have hcz2 : wr.cell? ⟨gb, 2, none⟩ = some (.int .i64 c.f2) := (blk_cell BK.out 2).trans rfl
       have hcz3 : wr.cell? ⟨gb, 3, none⟩ = some (.int .i64 c.f3) := (blk_cell BK.out 3).trans rfl
       unfold aG.nets at HT'
       obtain ⟨b, hb, HT'⟩ := Option.bind_eq_some_iff.1 HT'
       have HW := am_ hb
       have HN := am_ HT'
       clear hb HT' HT
       cases b with
       | false =>
        have h1 := HN.out
        first | rw [if_neg (by decide)] at h1 | rw [if_false] at h1
        obtain rfl := Option.some.inj h1
        have h2 := HR1.out
        first | rw [if_neg (by decide)] at h2 | rw [if_false] at h2
        obtain rfl := Option.some.inj h2
        go_wp2_with (first | (go_at_call 66; refine (dX.calls k n false _ (Tryz.dJ HG.out J.out.below) HW.out).mono ?_; rintro e w3 ⟨rfl, hb⟩; have J1 : Aside0 (aG.Inv w w3 m f) := ⟨⟨below_step J.out.below hb, J.out.own.below hb⟩⟩; have BK1 : Aside0 (w3.heap[gb]? = some (.cells #[.string c.f0, .slice (some ad1) c.f1.length c1, .int .i64 c.f2, .int .i64 c.f3] 66 (0, 0))) := ⟨blk_below BK.out hb⟩; clear hb))
        go_ret
        exact ⟨rfl, J1.out.below⟩
       | true =>
        go_upto_region 16 with (first | (go_at_call 66; refine (dX.calls k n true _ (Tryz.dJ HG.out J.out.below) HW.out).mono ?_; rintro e w3 ⟨rfl, hb⟩; have J1 : Aside0 (aG.Inv w w3 m f) := ⟨⟨below_step J.out.below hb, J.out.own.below hb⟩⟩; have BK1 : Aside0 (w3.heap[gb]? = some (.cells #[.string c.f0, .slice (some ad1) c.f1.length c1, .int .i64 c.f2, .int .i64 c.f3] 66 (0, 0))) := ⟨blk_below BK.out hb⟩; clear hb))
        have h1 := HN.out
        first | rw [if_pos rfl] at h1 | rw [if_true] at h1
        have HN1 := am_ h1
        clear h1 HN y0 hcz0 hcz1 hcz2 hcz3 J BK
        have hcz0 : w3.cell? ⟨gb, 0, none⟩ = some (.string c.f0) := (blk_cell BK1.out 0).trans rfl
        have hcz1 : w3.cell? ⟨gb, 1, none⟩ = some (.slice (some ad1) c.f1.length c1) := (blk_cell BK1.out 1).trans rfl
        have hcz2 : w3.cell? ⟨gb, 2, none⟩ = some (.int .i64 c.f2) := (blk_cell BK1.out 2).trans rfl
        have hcz3 : w3.cell? ⟨gb, 3, none⟩ = some (.int .i64 c.f3) := (blk_cell BK1.out 3).trans rfl
        have y0 := (J1.out.below.cell (World.block_lt_of_cell? w _ Y0.out)).trans Y0.out
        go_cut [41] (fun v41 wc => v41 = .bool (aG.gQ (aG.before c.f1 j) n) ∧ Aside0 (wc = w3))
        case first =>
         by_cases hj0 : j = 0
         · subst hj0
           go_wp2
           go_meet
           exact ⟨rfl, ⟨rfl⟩⟩
         obtain ⟨j', hj'⟩ : ∃ j', Aside0 (j = j' + 1) := ⟨j - 1, ⟨by omega⟩⟩
         have e3 : decide (0 < (j : Int)) = true := decide_eq_true (by omega)
         have e3' : decide (0 < j) = true := decide_eq_true (by omega)
         obtain ⟨ad2, eA, z0⟩ := Kd.at_string HI1.out (j' : Int) (by omega) (by have := hj'.out; omega)
         obtain rfl : ad1 = ad2 := by injection eA
         rw [Int.toNat_natCast] at z0
         obtain ⟨q, hq⟩ : ∃ q, Aside0 (rdOf ByteArray.empty c.f1 (j' : Int) = q) := ⟨_, ⟨rfl⟩⟩
         rw [hq.out] at z0
         replace z0 := (J1.out.below.cell (World.block_lt_of_cell? w _ z0)).trans z0
         have m1 : (j : Int) - 1 = (j' : Int) := by have := hj'.out; omega
         have m2 : IntKind.i64.wrap (j' : Int) = (j' : Int) := by rw [IntKind.wrap_i64]; have := hj'.out; omega
         have p3 : (0 ≤ (j' : Int)) = True := eq_true (by omega)
         have q3 : ((j' : Int) < (c.f1.length : Int)) = True := eq_true (by have := hj'.out; omega)
         have hbf : aG.before c.f1 j = some q := by
          have h := hj'.out
          subst h
          rw [← hq.out]; rfl
         cases hv : (Op.bytesLess n.toList q.toList || n.toList == q.toList) with
         | true =>
          go_wp2
          go_meet
          exact ⟨by rw [hbf]; show _ = Value.bool (Op.bytesLess n.toList q.toList || n.toList == q.toList); rw [hv], ⟨rfl⟩⟩
         | false =>
          go_wp2
          go_meet
          exact ⟨by rw [hbf]; show _ = Value.bool (Op.bytesLess n.toList q.toList || n.toList == q.toList); rw [hv], ⟨rfl⟩⟩
        case rest =>
         obtain ⟨rfl, hwc⟩ := hcut
         obtain rfl := hwc.out
         cases hnu : aG.gQ (aG.before c.f1 j) n with
         | true =>
          have h1 := HN1.out
          rw [hnu, if_pos rfl] at h1
          obtain rfl := Option.some.inj h1
          have h2 := HR1.out
          first | rw [if_neg (by decide)] at h2 | rw [if_false] at h2
          obtain rfl := Option.some.inj h2
          go_wp2
          go_ret
          exact ⟨rfl, J1.out.below⟩
         | false =>
          have h1 := HN1.out
          rw [hnu, if_neg (by decide)] at h1
          have hns : n.size ≤ maxLen := aG.path_size k n HW.out
          cases hfn : f n with
          | true =>
           rw [hfn, if_pos rfl] at h1
           obtain rfl := Option.some.inj h1
           have h2 := HR1.out
           first | rw [if_neg (by decide)] at h2 | rw [if_false] at h2
           obtain rfl := Option.some.inj h2
           go_wp2_with (first | (refine dY.wp_look J1.out.own rfl (.tmp 55) (.tmp 56) 101 rfl Tryz.underlying9 Tryz.underlying101 Tryz.underlying4 rfl n hns rfl rfl ?_; rw [hfn]))
           go_ret
           exact ⟨rfl, J1.out.below⟩
          | false =>
           rw [hfn, if_neg (by decide)] at h1
           go_wp2_with (first | (refine dY.wp_look J1.out.own rfl (.tmp 55) (.tmp 56) 101 rfl Tryz.underlying9 Tryz.underlying101 Tryz.underlying4 rfl n hns rfl rfl ?_; rw [hfn]))
           go_roundg (c.f1.length - (j + 1))
           case measure => omega
           case rel =>
            refine ⟨j + 1, by go_num, by omega, by omega, J1, BK1, ⟨?_⟩⟩
            have hb1 : aG.before c.f1 (j + 1) = some n := by rw [← hn.out]; rfl
            rw [hb1]
            exact h1
     have e2 : decide (j < c.f1.length) = false := decide_eq_false hlt2
     have hcz0 : wr.cell? ⟨gb, 0, none⟩ = some (.string c.f0) := (blk_cell BK.out 0).trans rfl
     have hcz1 : wr.cell? ⟨gb, 1, none⟩ = some (.slice A1 c.f1.length c1) := (blk_cell BK.out 1).trans rfl
     have hcz2 : wr.cell? ⟨gb, 2, none⟩ = some (.int .i64 c.f2) := (blk_cell BK.out 2).trans rfl
     have hcz3 : wr.cell? ⟨gb, 3, none⟩ = some (.int .i64 c.f3) := (blk_cell BK.out 3).trans rfl
     have h1 := HT.out
     rw [show j = c.f1.length by omega, List.drop_length] at h1
     obtain rfl := Option.some.inj h1
     have h2 := HR1.out
     first | rw [if_pos rfl] at h2 | rw [if_true] at h2
     have HR2 := am_ h2
     clear h1 h2 HR1 HT hj hg2
     go_wp2
     go_loopg [62] (c.f1.length + 1) (fun gg v62 wr => ∃ (j : Nat), v62 = .int .i64 j ∧ j ≤ c.f1.length ∧ c.f1.length - j ≤ gg ∧ Aside0 (aG.Inv w wr (m + j) (fun x => f x || (c.f1.take j).any (fun y => decide (x = y)))) ∧ Aside0 (wr.heap[gb]? = some (.cells #[.string c.f0, .slice A1 c.f1.length c1, .int .i64 c.f2, .int .i64 c.f3] 66 (0, 0))))
     case atStart => exact ⟨0, rfl, Nat.zero_le _, by omega, ⟨by rw [show (fun x => f x || (c.f1.take 0).any (fun y => decide (x = y))) = f from funext fun x => by simp]; exact J.out⟩, BK⟩
     case round =>
      clear hcz0 hcz1 hcz2 hcz3 J BK
      obtain ⟨j, rfl, hj, hg2, J, BK⟩ := hrel
      by_cases hlt3 : j < c.f1.length
      · have e3 : decide (j < c.f1.length) = true := decide_eq_true hlt3
        obtain ⟨ad1, eA, y0⟩ := Kd.at_string HI1.out (j : Int) (by omega) (by omega)
        subst eA
        rw [Int.toNat_natCast] at y0
        obtain ⟨n, hn⟩ : ∃ n, Aside0 (rdOf ByteArray.empty c.f1 (j : Int) = n) := ⟨_, ⟨rfl⟩⟩
        rw [hn.out] at y0
        replace y0 := (J.out.below.cell (World.block_lt_of_cell? w _ y0)).trans y0
        have p2 : (0 ≤ (j : Int)) = True := eq_true (by omega)
        have q2 : ((j : Int) < (c.f1.length : Int)) = True := eq_true (by omega)
        have hns : n.size ≤ maxLen := aG.nets_sizes k f c.f1 HT0.out j hlt3 n hn.out
        have hml : m + j < maxLen := by
         have hml : maxLen = 9223372036854775807 := by decide
         rw [hml]
         omega
        go_wp2_with (first | (refine dY.wp_store J.out.own rfl (.tmp 66) (.tmp 67) (.const (.bool true)) 101 rfl Tryz.underlying9 Tryz.underlying101 Tryz.underlying4 hml n hns rfl rfl rfl ?_; intro w3 ho hgr; have HO := am_ ho; have HGR := am_ hgr; clear ho hgr))
        go_roundg (c.f1.length - (j + 1))
        case measure => omega
        case rel =>
         refine ⟨j + 1, by go_num, by omega, by omega, ⟨⟨J.out.below.grown HGR.out (Nat.le_of_lt J.out.own.lt) (fun k hk => Nat.le_of_eq (Option.some.inj hk)), ?_⟩⟩, ⟨?_⟩⟩
         · rw [aG.takes hlt3, hn.out]
           rw [show (fun x => f x || (c.f1.take j ++ [n]).any (fun y => decide (x = y))) = (fun x => (f x || (c.f1.take j).any (fun y => decide (x = y))) || decide (x = n)) from funext fun x => by simp [List.any_append, Bool.or_assoc]]
           exact HO.out
         obtain ⟨_, _, _, _, hblk⟩ := HGR.out
         exact (hblk gb (by have := blk_lt BK.out; exact this) (by intro h; have := Option.some.inj h; have := HGB.out; omega)).trans BK.out
      have e3 : decide (j < c.f1.length) = false := decide_eq_false hlt3
      have hcz0 : wr.cell? ⟨gb, 0, none⟩ = some (.string c.f0) := (blk_cell BK.out 0).trans rfl
      have hcz1 : wr.cell? ⟨gb, 1, none⟩ = some (.slice A1 c.f1.length c1) := (blk_cell BK.out 1).trans rfl
      have hcz2 : wr.cell? ⟨gb, 2, none⟩ = some (.int .i64 c.f2) := (blk_cell BK.out 2).trans rfl
      have hcz3 : wr.cell? ⟨gb, 3, none⟩ = some (.int .i64 c.f3) := (blk_cell BK.out 3).trans rfl
      have hjl : j = c.f1.length := by omega
      subst hjl
      rw [List.take_length] at J
      have h2 := HR2.out
      cases hb1 : aG.isR c.f2 with
      | false =>
       rw [hb1, if_neg (by decide)] at h2
       obtain rfl := Option.some.inj h2
       go_wp2_with (first | (go_at_call 34; refine (dN.calls c.f2 false _ (Tryz.dJ HG.out (by repeat (first | exact J.out.below | apply pw_below_drewN))) (aG.jH _ _ hb1)).mono ?_; rintro e w' ⟨rfl, ⟨nd1, rfl⟩⟩))
       go_ret
       exact ⟨rfl, by repeat (first | exact J.out.below | apply pw_below_drewN)⟩
      | true =>
       rw [hb1, if_pos rfl] at h2
       cases hb2 : aG.isR c.f3 with
       | false =>
        rw [hb2, if_neg (by decide)] at h2
        obtain rfl := Option.some.inj h2
        go_wp2_with (first | (go_at_call 34; refine (dN.calls c.f2 true _ (Tryz.dJ HG.out (by repeat (first | exact J.out.below | apply pw_below_drewN))) (aG.jH _ _ hb1)).mono ?_; rintro e w' ⟨rfl, ⟨nd1, rfl⟩⟩) | (go_at_call 34; refine (dN.calls c.f3 false _ (Tryz.dJ HG.out (by repeat (first | exact J.out.below | apply pw_below_drewN))) (aG.jH _ _ hb2)).mono ?_; rintro e w' ⟨rfl, ⟨nd2, rfl⟩⟩))
        go_ret
        exact ⟨rfl, by repeat (first | exact J.out.below | apply pw_below_drewN)⟩
       | true =>
        rw [hb2, if_pos rfl] at h2
        have HR3 := am_ h2
        clear h2 HR2
        go_upto_region 28 with (first | (go_at_call 34; refine (dN.calls c.f2 true _ (Tryz.dJ HG.out (by repeat (first | exact J.out.below | apply pw_below_drewN))) (aG.jH _ _ hb1)).mono ?_; rintro e w' ⟨rfl, ⟨nd1, rfl⟩⟩) | (go_at_call 34; refine (dN.calls c.f3 true _ (Tryz.dJ HG.out (by repeat (first | exact J.out.below | apply pw_below_drewN))) (aG.jH _ _ hb2)).mono ?_; rintro e w' ⟨rfl, ⟨nd2, rfl⟩⟩))
        clear hcz0 hcz1 hcz2 hcz3
        have J1 : Aside0 (aG.Inv w (wr.drewN (nd1 + nd2)) (m + c.f1.length) (fun x => f x || c.f1.any (fun y => decide (x = y)))) := ⟨⟨pw_below_drewN J.out.below _, J.out.own.below (pw_below_drewN (Below.refl _ _) _)⟩⟩
        have BK1 : Aside0 ((wr.drewN (nd1 + nd2)).heap[gb]? = some (.cells #[.string c.f0, .slice A1 c.f1.length c1, .int .i64 c.f2, .int .i64 c.f3] 66 (0, 0))) := ⟨blk_drewN BK.out _⟩
        clear J BK
        generalize wr.drewN (nd1 + nd2) = w4 at J1 BK1 ⊢
        have hcz0 : w4.cell? ⟨gb, 0, none⟩ = some (.string c.f0) := (blk_cell BK1.out 0).trans rfl
        have hcz1 : w4.cell? ⟨gb, 1, none⟩ = some (.slice A1 c.f1.length c1) := (blk_cell BK1.out 1).trans rfl
        have hcz2 : w4.cell? ⟨gb, 2, none⟩ = some (.int .i64 c.f2) := (blk_cell BK1.out 2).trans rfl
        have hcz3 : w4.cell? ⟨gb, 3, none⟩ = some (.int .i64 c.f3) := (blk_cell BK1.out 3).trans rfl
        go_cut [91] (fun v91 wc => v91 = .bool (aG.gQ (aG.prev l0 i) c.f0) ∧ Aside0 (∃ n, wc = w4.drewN n))
        case first =>
         by_cases hi0 : i = 0
         · subst hi0
           go_wp2
           go_quiet (fail)
           go_wp2
           go_meet
           exact ⟨rfl, ⟨_, rfl⟩⟩
         obtain ⟨i', hi'⟩ : ∃ i', Aside0 (i = i' + 1) := ⟨i - 1, ⟨by omega⟩⟩
         have e4 : decide (0 < (i : Int)) = true := decide_eq_true (by omega)
         have e4' : decide (0 < i) = true := decide_eq_true (by omega)
         obtain ⟨ad2, A2, c2, eA, z0, z1, z2, z3, _, _⟩ := iI HR.out (i' : Int) (by omega) (by have := hi'.out; omega)
         obtain rfl : ad = ad2 := by injection eA
         rw [Int.toNat_natCast] at z0
         clear z1 z2 z3
         obtain ⟨q, hq⟩ : ∃ q, Aside0 ((aT l0 (i' : Int)).f0 = q) := ⟨_, ⟨rfl⟩⟩
         rw [hq.out] at z0
         replace z0 := (J1.out.below.cell (World.block_lt_of_cell? w _ z0)).trans z0
         have m1 : (i : Int) - 1 = (i' : Int) := by have := hi'.out; omega
         have m2 : IntKind.i64.wrap (i' : Int) = (i' : Int) := by rw [IntKind.wrap_i64]; have := hi'.out; omega
         have p3 : (0 ≤ (i' : Int)) = True := eq_true (by omega)
         have q3 : ((i' : Int) < (l0.length : Int)) = True := eq_true (by have := hi'.out; omega)
         have hbf : aG.prev l0 i = some q := by
          have h := hi'.out
          subst h
          rw [← hq.out]; rfl
         cases hv : (Op.bytesLess c.f0.toList q.toList || c.f0.toList == q.toList) with
         | true =>
          go_wp2
          go_quiet (fail)
          go_wp2
          go_meet
          exact ⟨by rw [hbf]; show _ = Value.bool (Op.bytesLess c.f0.toList q.toList || c.f0.toList == q.toList); rw [hv], ⟨_, rfl⟩⟩
         | false =>
          go_wp2
          go_quiet (fail)
          go_wp2
          go_meet
          exact ⟨by rw [hbf]; show _ = Value.bool (Op.bytesLess c.f0.toList q.toList || c.f0.toList == q.toList); rw [hv], ⟨_, rfl⟩⟩
        case rest =>
         obtain ⟨rfl, hwc⟩ := hcut
         obtain ⟨nn, rfl⟩ := hwc.out
         have h2 := HR3.out
         cases hnu : aG.gQ (aG.prev l0 i) c.f0 with
         | true =>
          rw [hnu, if_pos rfl] at h2
          obtain rfl := Option.some.inj h2
          go_wp2
          go_ret
          exact ⟨rfl, pw_below_drewN J1.out.below _⟩
         | false =>
          rw [hnu, if_neg (by decide)] at h2
          go_wp2
          go_roundg (l0.length - i)
          case measure => omega
          case rel =>
           refine ⟨i + 1, m + c.f1.length, _, by go_num, by omega, by omega, by omega, ⟨⟨pw_below_drewN J1.out.below _, J1.out.own.below (pw_below_drewN (Below.refl _ _) _)⟩⟩, ⟨?_⟩⟩
           have hp : aG.prev l0 (i + 1) = some c.f0 := by rw [← hc.out]; rfl
           rw [hp]
           exact h2
def jT.f (a0_0 : Int) (a0_1 : Int) (a0_2 : Int) (a0_3 : Int) (a1_0 : Int) (a1_1 : Int) (a1_2 : Int) (a1_3 : Int) : Option (Int) := some (wrap64 (a0_1 - a1_1))
theorem jT.calls (a0_0 : Int) (a0_1 : Int) (a0_2 : Int) (a0_3 : Int) (a1_0 : Int) (a1_1 : Int) (a1_2 : Int) (a1_3 : Int) (r : Int) (w : World) (hG : Tryz.GW w) (h : jT.f a0_0 a0_1 a0_2 a0_3 a1_0 a1_1 a1_2 a1_3 = some r) :
 Calls Tryz.prog 88 #[.agg #[.int .i64 a0_0, .int .i64 a0_1, .int .i64 a0_2, .int .i64 a0_3], .agg #[.int .i64 a1_0, .int .i64 a1_1, .int .i64 a1_2, .int .i64 a1_3]] w fun e w' => e = .returned (.int .i64 r) ∧ Below w.heap.size w w' := by
 have hu44 := Tryz.underlying44
 have HG := am_ hG
 clear hG
 have HB := am_ (Below.refl w.heap.size w)
 have H : (some (wrap64 (a0_1 - a1_1))) = some r := h
 clear h
 obtain rfl := sj_ H
 go_enter Tryz.func88, Tryz.ntmps88
 go_wp2_with (first | ((with_reducible refine gn_ 2 rfl ?_); refine bq_ (N := 2) (cs := #[.int .i64 a0_0, .int .i64 a0_1, .int .i64 a0_2, .int .i64 a0_3]) (t := 44) ?_; intro gb119 hg w3 BK119 hb; have GW119 := ga_ w hg; have GE119 := GW119; replace HB := bp_ hb; clear hb hg) | ((with_reducible refine gn_ 3 rfl ?_); refine bq_ (N := 3) (cs := #[.int .i64 a1_0, .int .i64 a1_1, .int .i64 a1_2, .int .i64 a1_3]) (t := 44) ?_; intro gb120 hg w4 BK120 hb; have GW120 := ga_ w hg; have GE120 := GW120; have NB119_120 := am_ ((nl_ hg BK119 : gb119 ≠ gb120)); have NB120_119 := am_ ((ng_ hg BK119 : gb120 ≠ gb119)); replace BK119 := bb_ BK119 hb; replace HB := bp_ hb; clear hb hg; have hnb5 := NB119_120.out; have hnc5 := NB120_119.out; have bz6 := bc4_ BK119; have bz7 := bc4_ BK120))
 go_ret
 exact ⟨er_, bl_⟩
def cO.l0 : Nat → List Int → List Int → Int → Int → Option (Bool)
 | 0, _, _, _, _ => none
 | k + 1, x0, x1, x12, x13 => if x13 < x12 then (if 0 ≤ x13 then (if x13 < (x0.length : Int) then (if x13 < (x1.length : Int) then (if (rd x0 x13) = (rd x1 x13) then (cO.l0 k x0 x1 x12 (wrap64 (x13 + 1))) else (some false)) else (none)) else (none)) else (none)) else (some true)
def cO.f (k : Nat) (l0 : List Int) (l1 : List Int) : Option (Bool) := if (l0.length : Int) = (l1.length : Int) then (cO.l0 k l0 l1 (l0.length : Int) 0) else (some false)
theorem cO.calls (k : Nat) (A0 : Option Addr) (c0 : Nat) (l0 : List Int) (A1 : Option Addr) (c1 : Nat) (l1 : List Int) (r : Bool) (w : World) (hG : Tryz.GW w) (hr0 : Kd.C (Kd.int .i64) w A0 l0.length l0) (hc0 : l0.length ≤ c0) (hr1 : Kd.C (Kd.int .i64) w A1 l1.length l1) (hc1 : l1.length ≤ c1) (h : cO.f k l0 l1 = some r) :
 Calls Tryz.prog 129 #[.slice A0 l0.length c0, .slice A1 l1.length c1] w fun e w' => e = .returned (.bool r) ∧ Drawn0 w w' := by
 have HR0 := am_ hr0
 have HC0 := am_ hc0
 clear hr0 hc0
 have HR1 := am_ hr1
 have HC1 := am_ hc1
 clear hr1 hc1
 have HG := am_ hG
 clear hG
 have H : (if (l0.length : Int) = (l1.length : Int) then (cO.l0 k l0 l1 (l0.length : Int) 0) else (some false)) = some r := h
 clear h
 by_cases c3 : (l0.length : Int) = (l1.length : Int)
 rotate_left
 · rw [if_neg c3] at H
   have c3b0 : ((l0.length : Int) == (l1.length : Int)) = false := beq_eq_false_iff_ne.mpr c3
   have c3b1 : ((l0.length : Int) != (l1.length : Int)) = true := bne_iff_ne.mpr c3
   have c3b2 : (l0.length == l1.length) = false := by first | simpa using c3 | (simp at c3 ⊢; omega)
   obtain rfl := sj_ H
   go_enter Tryz.func129, Tryz.ntmps129
   go_wp2
   repeat (go_quiet (fail); try go_wp2)
   go_ret
   exact ⟨ra_, dr_⟩
 rw [if_pos c3] at H
 have c3b0 : ((l0.length : Int) == (l1.length : Int)) = true := beq_iff_eq.mpr c3
 have c3b1 : ((l0.length : Int) != (l1.length : Int)) = false := bne_eq_false_iff_eq.mpr c3
 have c3b2 : (l0.length == l1.length) = true := by first | simpa using c3 | (simp at c3 ⊢; omega)
 clear c3
 replace H := am_ H
 go_enter Tryz.func129, Tryz.ntmps129
 go_wp2
 repeat (go_quiet (fail); try go_wp2)
 go_loopg [13] k (fun kq v13 w' => ∃ (x13_1 : Int), v13 = .int .i64 x13_1 ∧ Aside0 (cO.l0 kq l0 l1 (l0.length : Int) x13_1 = some r) ∧ Aside0 (kq ≤ k) ∧ Drawn0 w w')
 case atStart => exact ⟨(0), ra_, H, ⟨Nat.le_refl _⟩, dr_⟩
 case round =>
  clear H
  try clear c1
  try clear p2
  try clear c3
  try clear c3b0
  try clear c3b1
  try clear c3b2
  obtain ⟨x13_1, rfl, HA, HK1, ⟨m1, rfl⟩⟩ := hrel
  cases gk with
  | zero => exact absurd HA.out (by simp [cO.l0])
  | succ k1 =>
   have H := HA.out
   clear HA
   simp only [cO.l0] at H
   by_cases c4 : x13_1 < (l0.length : Int)
   rotate_left
   · rw [if_neg c4] at H
     have c4b0 := decide_eq_false c4
     clear c4
     obtain rfl := sj_ H
     go_wp2
     repeat (go_quiet (fail); try go_wp2)
     go_ret
     exact ⟨ra_, dr_⟩
   rw [if_pos c4] at H
   have c4b0 := decide_eq_true c4
   clear c4
   obtain ⟨c5b0, H⟩ := ifd_ H
   obtain ⟨c6b0, H⟩ := ifd_ H
   obtain ⟨c7b0, H⟩ := ifd_ H
   by_cases c8 : (rd l0 x13_1) = (rd l1 x13_1)
   · rw [if_pos c8] at H
     have c8b0 : ((rd l0 x13_1) == (rd l1 x13_1)) = true := beq_iff_eq.mpr c8
     have c8b1 : ((rd l0 x13_1) != (rd l1 x13_1)) = false := bne_eq_false_iff_eq.mpr c8
     clear c8
     replace H := am_ H
     have p121 := pt_ x13_1
     have q121 := qt_ x13_1 l0.length
     obtain ⟨ad121, e121, hx121_0⟩ := Kd.at_int HR0.out x13_1 (oe_ p121) (oe_ q121)
     cases e121
     have p122 := pt_ x13_1
     have q122 := qt_ x13_1 l1.length
     obtain ⟨ad122, e122, hx122_0⟩ := Kd.at_int HR1.out x13_1 (oe_ p122) (oe_ q122)
     cases e122
     go_wp2
     repeat (go_quiet (fail); try go_wp2)
     go_roundg k1
     case measure => have := HK1.out; omega
     case rel => exact ⟨(wrap64 (x13_1 + 1)), ra_, H, ⟨by have := HK1.out; omega⟩, dr_⟩
   rw [if_neg c8] at H
   have c8b0 : ((rd l0 x13_1) == (rd l1 x13_1)) = false := beq_eq_false_iff_ne.mpr c8
   have c8b1 : ((rd l0 x13_1) != (rd l1 x13_1)) = true := bne_iff_ne.mpr c8
   obtain rfl := sj_ H
   have p121 := pt_ x13_1
   have q121 := qt_ x13_1 l0.length
   obtain ⟨ad121, e121, hx121_0⟩ := Kd.at_int HR0.out x13_1 (oe_ p121) (oe_ q121)
   cases e121
   have p122 := pt_ x13_1
   have q122 := qt_ x13_1 l1.length
   obtain ⟨ad122, e122, hx122_0⟩ := Kd.at_int HR1.out x13_1 (oe_ p122) (oe_ q122)
   cases e122
   go_wp2
   repeat (go_quiet (fail); try go_wp2)
   go_ret
   exact ⟨ra_, dr_⟩
end Go.Proofs.YthkeonbmgcphkaaGreatDoor.PM
