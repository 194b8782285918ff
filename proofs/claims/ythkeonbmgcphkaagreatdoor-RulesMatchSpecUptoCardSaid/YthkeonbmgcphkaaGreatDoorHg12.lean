import Derived.Test.YthkeonbmgcphkaaGreatDoorHg6
import Derived.Test.YthkeonbmgcphkaaGreatDoorHg10
import Derived.Test.YthkeonbmgcphkaaGreatDoorHg11
namespace Go.Proofs.YthkeonbmgcphkaaGreatDoor.PM
open Go.RowKit Go.Proofs.YthkeonbmgcphkaaGreatDoorW.PrintWords Go.Proofs.YthkeonbmgcphkaaGreatDoorW.PrintLast Go.Proofs.YthkeonbmgcphkaaGreatDoorW.PrintMore
attribute [local go_sem] max2_int min2_int max_two min_two max_three min_three max_four min_four
set_option linter.unusedVariables false
set_option maxHeartbeats 16000000
set_option maxRecDepth 100000
set_option linter.unusedSimpArgs false
theorem aJ.closure (gy gk : Nat) (A : Option Addr) (c : Nat) (ys : List Int) (kk : Int) (x : S44) (W : World) (hy : W.cell? ⟨gy, 0, none⟩ = some (.slice A ys.length c)) (hk : W.cell? ⟨gk, 0, none⟩ = some (.int .i64 kk)) (hr : (Kd.int .i64).C W A ys.length ys) (h0 : 0 ≤ kk) (h1 : kk < ys.length) :
 Calls Tryz.prog 92 #[.agg #[.int .i64 x.f0, .int .i64 x.f1, .int .i64 x.f2, .int .i64 x.f3], .pointer (some ⟨gy, 0, none⟩), .pointer (some ⟨gk, 0, none⟩)] W fun e w' => e = .returned (.bool (decide (x.f3 ≤ rd ys kk))) ∧ Below W.heap.size W w' := by
 obtain ⟨ad, c0, rfl, _, hK, hc⟩ := Kd.C_get hr (0 : Int) kk h0 h1
 have hcell : W.cell? (ad.add kk.toNat) = some (.int .i64 (rd ys kk)) := by
  have h2 : c0 = [.int .i64 (rd ys kk)] := hK
  subst h2
  have := hc 0 _ rfl
  simpa [show (Kd.int .i64).sz = 1 from rfl] using this
 clear hc hK hr
 have q0 : (0 ≤ kk) = True := eq_true h0
 have q1 : (kk < (ys.length : Int)) = True := eq_true h1
 have b0 : W.cell? ⟨gy, 0, none⟩ = some (.slice (some ad) ys.length c) := hy
 have lt1 := World.block_lt_of_cell? W _ hy
 have lt2 := World.block_lt_of_cell? W _ hk
 have lt3 := World.block_lt_of_cell? W _ hcell
 have hu44 := Tryz.underlying44
 have hu72_ := Tryz.underlying72
 have hu3 := Tryz.underlying3
 obtain ⟨x0, x1, x2, x3⟩ := x
 go_enter Tryz.func92, Tryz.ntmps92
 go_wp2
 have e1 := Lib.cell?_alloc_some (Obj.cells #[Value.int IntKind.i64 x0, Value.int IntKind.i64 x1, Value.int IntKind.i64 x2, Value.int IntKind.i64 x3] 44) b0
 have e2 := Lib.cell?_alloc_some (Obj.cells #[Value.int IntKind.i64 x0, Value.int IntKind.i64 x1, Value.int IntKind.i64 x2, Value.int IntKind.i64 x3] 44) hk
 have e3 := Lib.cell?_alloc_some (Obj.cells #[Value.int IntKind.i64 x0, Value.int IntKind.i64 x1, Value.int IntKind.i64 x2, Value.int IntKind.i64 x3] 44) hcell
 have e4 : (W.alloc (Obj.cells #[Value.int IntKind.i64 x0, Value.int IntKind.i64 x1, Value.int IntKind.i64 x2, Value.int IntKind.i64 x3] 44)).cell? ⟨W.heap.size, 3, none⟩ = some (.int .i64 x3) := by
  show (match (W.heap.push _)[W.heap.size]? with | some (.cells c _ _) => if (none : Option _).isSome then none else c[3]? | _ => none) = _
  rw [Array.getElem?_push_size]; rfl
 have bel := below_alloc (Below.refl W.heap.size W) (Obj.cells #[Value.int IntKind.i64 x0, Value.int IntKind.i64 x1, Value.int IntKind.i64 x2, Value.int IntKind.i64 x3] 44)
 have BEL := am_ bel
 clear bel
 generalize W.alloc (Obj.cells #[Value.int IntKind.i64 x0, Value.int IntKind.i64 x1, Value.int IntKind.i64 x2, Value.int IntKind.i64 x3] 44) = w1 at e1 e2 e3 e4 BEL ⊢
 generalize hg : W.heap.size = g at e4 BEL ⊢
 clear b0 hk hcell hy
 go_quiet (fail)
 go_wp2
 go_ret
 exact ⟨rfl, by rw [hg]; exact pw_below_drewN BEL.out _⟩
def aJ.enc (x : S44) : List Value := [.int .i64 x.f0, .int .i64 x.f1, .int .i64 x.f2, .int .i64 x.f3]
theorem aJ.cells {W : World} {base g n cap : Nat} {xs : List S44} (h : W.ownsRow base 44 4 (.slice (some ⟨g, 0, none⟩) n cap) n (xs.flatMap aJ.enc)) (hn : xs.length = n) (j : Nat) (hj : j < n) (d : S44) (t : Nat) (v : Value) (hv : (aJ.enc (xs.getD j d))[t]? = some v) : W.cell? ⟨g, j * 4 + t, none⟩ = some v ∧ W.frozen? ⟨g, j * 4 + t, none⟩ = false := by
 letI : Inhabited S44 := ⟨z44⟩
 have ht : t < 4 := (List.getElem?_eq_some_iff.1 hv).1
 have hH := YthkeonbmgcphkaaGreatDoorSort.gX (enc := aJ.enc) (fun _ => rfl) h hn
 have h1 := hH (j * 4 + t) (by rw [Sort.size_flatK]; simp; omega)
 rw [Sort.get_flatK _ _ _ _ (by simp; omega), show (j * 4 + t) / 4 = j by omega, show (j * 4 + t) % 4 = t by omega, Nat.zero_add] at h1
 refine ⟨h1.1.trans ?_, h1.2⟩
 simp only [id]
 have hjl : j < xs.length := by omega
 rw [List.getD_eq_getElem?_getD, List.getElem?_eq_getElem hjl, Option.getD_some] at hv
 rw [show xs.toArray[j]! = xs[j] by simp [hjl], ← hv, List.getElem?_eq_getElem (show t < (aJ.enc xs[j]).length from ht), getElem!_pos _ t (show t < (aJ.enc xs[j]).length from ht)]
theorem aJ.bs {B gb : Nat} {w0 W : World} (h : Below B w0 W) (hg : B ≤ gb) (j : Nat) (u : Value) : Below B w0 (W.setCell ⟨gb, j, none⟩ u) :=
 ⟨h.os, h.tape, h.output, by show _ ≤ (W.heap.modify _ _).size; rw [Array.size_modify]; exact h.size, fun k hk => (Below.heap_setCell W ⟨gb, j, none⟩ u k (by show k ≠ gb; omega)).trans (h.block k hk)⟩
theorem aJ.bss {B gb : Nat} {w0 : World} : ∀ (vs : List Value) {W : World}, Below B w0 W → B ≤ gb → ∀ o, Below B w0 (W.setCells gb o vs)
 | [], _, h, _, _ => h
 | v :: r, _, h, hg, o => aJ.bss r (aJ.bs h hg o v) hg (o + 1)
theorem aJ.kss {gb : Nat} {w : World} {S : Nat → Prop} : ∀ (vs : List Value) {W : World}, Kept w W S → (S gb ∨ w.heap.size ≤ gb) → ∀ o, Kept w (W.setCells gb o vs) S
 | [], _, h, _, _ => h
 | v :: r, _, h, hg, o => aJ.kss r (Kept.setCell (p := ⟨gb, o, none⟩) h hg v) hg (o + 1)
theorem aJ.after {wr w2 w4 w w0 : World} {gb g n cap base B : Nat} {P0 : Nat → Prop} {x : S44} {cs : List Value} (hgb : gb = wr.heap.size) (hbox : w2.heap[gb]? = some (.cells #[.int .i64 0, .int .i64 0, .int .i64 0, .int .i64 0] 44 (0, 0))) (hb2 : Below wr.heap.size wr w2)
 (ho : wr.ownsRow base 44 4 (.slice (some ⟨g, 0, none⟩) n cap) n cs) (hB : Below B w0 wr) (hBr : B ≤ wr.heap.size) (hK : Kept w wr P0)
 (hb4 : Below ((((w2.setCell ⟨gb, 0, none⟩ (.int .i64 x.f0)).setCell ⟨gb, 1, none⟩ (.int .i64 x.f1)).setCell ⟨gb, 2, none⟩ (.int .i64 x.f2)).setCell ⟨gb, 3, none⟩ (.int .i64 x.f3)).heap.size ((((w2.setCell ⟨gb, 0, none⟩ (.int .i64 x.f0)).setCell ⟨gb, 1, none⟩ (.int .i64 x.f1)).setCell ⟨gb, 2, none⟩ (.int .i64 x.f2)).setCell ⟨gb, 3, none⟩ (.int .i64 x.f3)) w4) :
 w4.heap[gb]? = some (.cells #[.int .i64 x.f0, .int .i64 x.f1, .int .i64 x.f2, .int .i64 x.f3] 44 (0, 0)) ∧ w4.ownsRow base 44 4 (.slice (some ⟨g, 0, none⟩) n cap) n cs ∧ Below B w0 w4 ∧ Kept w w4 P0 := by
 have hlt : g < wr.heap.size := own_lt ho g rfl
 have hne : some gb ≠ (Value.slice (some ⟨g, 0, none⟩) n cap).ownBlock := by
  intro e
  have : gb = g := Option.some.inj e
  omega
 have b1 := blk_put (cs := #[.int .i64 x.f0, .int .i64 x.f1, .int .i64 x.f2, .int .i64 0]) (blk_put (cs := #[.int .i64 x.f0, .int .i64 x.f1, .int .i64 0, .int .i64 0]) (blk_put (cs := #[.int .i64 x.f0, .int .i64 0, .int .i64 0, .int .i64 0]) (blk_put (cs := #[.int .i64 0, .int .i64 0, .int .i64 0, .int .i64 0]) hbox 0 (.int .i64 x.f0) rfl) 1 (.int .i64 x.f1) rfl) 2 (.int .i64 x.f2) rfl) 3 (.int .i64 x.f3) rfl
 have hg1 := pw_own_below ho hb2
 have hg2 := own_setCell (p := ⟨gb, 3, none⟩) (own_setCell (p := ⟨gb, 2, none⟩) (own_setCell (p := ⟨gb, 1, none⟩) (own_setCell (p := ⟨gb, 0, none⟩) hg1 hne (.int .i64 x.f0)) hne (.int .i64 x.f1)) hne (.int .i64 x.f2)) hne (.int .i64 x.f3)
 have hBB : Below B w0 w2 := hB.trans ⟨hb2.os, hb2.tape, hb2.output, hb2.size, fun k hk => hb2.block k (by omega)⟩
 have hgB : B ≤ gb := by omega
 have hB3 := aJ.bs (aJ.bs (aJ.bs (aJ.bs hBB hgB 0 (.int .i64 x.f0)) hgB 1 (.int .i64 x.f1)) hgB 2 (.int .i64 x.f2)) hgB 3 (.int .i64 x.f3)
 have hwk : w.heap.size ≤ gb := by rw [hgb]; exact hK.1
 have hK3 := Kept.setCell (p := ⟨gb, 3, none⟩) (Kept.setCell (p := ⟨gb, 2, none⟩) (Kept.setCell (p := ⟨gb, 1, none⟩) (Kept.setCell (p := ⟨gb, 0, none⟩) (hK.below hb2) (.inr hwk) (.int .i64 x.f0)) (.inr hwk) (.int .i64 x.f1)) (.inr hwk) (.int .i64 x.f2)) (.inr hwk) (.int .i64 x.f3)
 refine ⟨(hb4.block gb (blk_lt b1)).trans b1, pw_own_below hg2 hb4, hB3.trans ⟨hb4.os, hb4.tape, hb4.output, hb4.size, fun k hk => hb4.block k ?_⟩, hK3.below hb4⟩
 have := blk_lt b1
 omega
theorem aJ.del (p : S44 → Bool) (gf : Nat) (lb : Array Value) (eg : ∀ args w, (callFunc gf args).run Tryz.prog w = .ok (.enter gf args) w) (now : List S44) (g cap n base B : Nat) (P0 : Nat → Prop) (w0 w : World) (hB : Below B w0 w) (hBw : B ≤ w.heap.size) (hBg : B ≤ g) (hg : P0 g)
 (ho : w.ownsRow base 44 4 (.slice (some ⟨g, 0, none⟩) n cap) n (now.flatMap aJ.enc)) (hn : now.length = n) (hn0 : 0 < n) (hbig : n ≤ 9223372036854775807)
 (hcl : ∀ (W : World) (x : S44), Kept w W P0 → Calls Tryz.prog gf (#[.agg #[.int .i64 x.f0, .int .i64 x.f1, .int .i64 x.f2, .int .i64 x.f3]] ++ lb) W fun e w' => e = .returned (.bool (p x)) ∧ Below W.heap.size W w') :
 Calls Tryz.prog 91 #[.slice (some ⟨g, 0, none⟩) n cap, .func (.func gf) #[] lb] w fun e w' => e = .returned (.slice (some ⟨g, 0, none⟩) (now.filter fun x => !p x).length cap) ∧ w'.ownsRow base 44 4 (.slice (some ⟨g, 0, none⟩) (now.filter fun x => !p x).length cap) (now.filter fun x => !p x).length ((now.filter fun x => !p x).flatMap aJ.enc) ∧ Below B w0 w' ∧ Kept w w' P0 := by
 letI : Inhabited S44 := ⟨z44⟩
 have hu44 := Tryz.underlying44
 have hu38 := Tryz.underlying38
 have hlt : g < w.heap.size := own_lt ho g rfl
 have hH := YthkeonbmgcphkaaGreatDoorSort.gX (enc := aJ.enc) (fun _ => rfl) ho hn
 have hcI : ∀ j, j < now.length → ∀ i v, (aJ.enc now[j]!)[i]? = some v → w.cell? ⟨g, 0 + j * 4 + i, none⟩ = some v := by
  intro j hj i v hv
  have hi : i < 4 := (List.getElem?_eq_some_iff.1 hv).1
  have h1 := (hH (j * 4 + i) (by rw [Sort.size_flatK]; simp; omega)).1
  rw [Sort.get_flatK _ _ _ _ (by simp; omega), show (j * 4 + i) / 4 = j by omega, show (j * 4 + i) % 4 = i by omega] at h1
  rw [Nat.add_assoc]
  refine h1.trans ?_
  simp only [id]
  rw [← hv, show now.toArray[j]! = now[j]! by simp, List.getElem?_eq_getElem (show i < (aJ.enc now[j]!).length from hi), getElem!_pos _ i (show i < (aJ.enc now[j]!).length from hi)]
 have hIF := Tryz.indexRects aJ.enc (fun _ => rfl) p gf lb eg g 0 n cap now w (fun W x hW => (hcl W x (Kept.of_below hW _)).mono fun e w' ⟨he, hb⟩ => ⟨he, hW.trans ⟨hb.os, hb.tape, hb.output, hb.size, fun k hk => hb.block k (Nat.lt_of_lt_of_le hk hW.size)⟩⟩) (by omega) hbig hlt hcI
 rw [show now.take n = now from List.take_of_length_le (by omega)] at hIF
 rcases idxByFrom_spec (fun _ y => p y) default now 0 with ⟨e1, hall⟩ | ⟨k0, hk0, e1, ht, hall⟩
 · have e2 : Lib.idxBy (fun _ y => p y) now default = -1 := e1
   rw [e2] at hIF
   have hf : (now.filter fun x => !p x) = now := by
    rw [List.filter_eq_self]
    intro x hx
    obtain ⟨j, hj, rfl⟩ := List.getElem_of_mem hx
    have := hall j hj
    rw [getElem!_pos now j hj] at this
    simp [this]
   rw [hf, hn]
   have HIF := am_ hIF
   have HO := am_ ho
   have HB := am_ hB
   clear hIF ho hB hcl hcI hH
   go_enter Tryz.func91, Tryz.ntmps91
   go_wp2_with (go_at_call 128; refine HIF.out.mono ?_; rintro e w' ⟨rfl, hb'⟩)
   go_ret
   exact ⟨rfl, pw_own_below HO.out hb', HB.out.trans ⟨hb'.os, hb'.tape, hb'.output, hb'.size, fun k hk => hb'.block k (by omega)⟩, Kept.of_below hb' _⟩
 have hk0' : k0 < n := by omega
 have e2 : Lib.idxBy (fun _ y => p y) now default = (k0 : Int) := by unfold Lib.idxBy; rw [e1]; simp
 rw [e2] at hIF
 have tl : ∀ j : Nat, now.toArray[j]! = now[j]! := fun j => by simp
 obtain ⟨kp, HKP⟩ : ∃ kp : Nat → Bool, Aside0 (kp = fun j => !p now.toArray[j]!) := ⟨_, ⟨rfl⟩⟩
 have hfil : (now.filter fun x => !p x) = Lib.keptUpTo kp now.toArray n := by
  rw [HKP.out]
  have := (Lib.keptUpTo_filter (fun x => !p x) now.toArray).symm
  rwa [show now.toArray.size = n by simpa using hn] at this
 have hkeep : ∀ j, j < k0 → kp j = true := fun j hj => by rw [HKP.out]; show (!p now.toArray[j]!) = true; rw [tl, hall j hj]; rfl
 have hdrop : kp k0 = false := by rw [HKP.out]; show (!p now.toArray[k0]!) = false; rw [tl, show p now[k0]! = true from ht]; rfl
 have hne1 : ((k0 : Int) == -1) = false := beq_eq_false_iff_ne.2 (by omega)
 rw [hfil]
 have HIF := am_ hIF
 have HO := am_ ho
 have HB := am_ hB
 have HCL := am_ hcl
 clear hIF ho hB hcl hcI hH hall ht e1 e2
 go_enter Tryz.func91, Tryz.ntmps91
 go_wp2_with (go_at_call 128; refine HIF.out.mono ?_; rintro e w1 ⟨rfl, hb1⟩)
 go_loopg [5, 6, 7] n (fun gg s5 s6 _ wr => ∃ (i j : Nat) (dk : Array S44), s5 = .int .i64 i ∧ s6 = .int .i64 j ∧ j ≤ n ∧ n - j ≤ gg ∧ Aside0 (wr.ownsRow base 44 4 (.slice (some ⟨g, 0, none⟩) n cap) n (dk.toList.flatMap aJ.enc)) ∧ Aside0 (Below B w0 wr) ∧ Aside0 (Kept w wr P0) ∧ Aside0 (Lib.KeptInv kp now.toArray j i dk))
 case atStart =>
  refine ⟨k0, k0 + 1, now.toArray, rfl, by go_num, by omega, by omega, ⟨by simpa using pw_own_below HO.out hb1⟩, ⟨HB.out.trans ⟨hb1.os, hb1.tape, hb1.output, hb1.size, fun k hk => hb1.block k (by omega)⟩⟩, ⟨Kept.of_below hb1 _⟩, ⟨Lib.KeptInv.start hkeep hdrop⟩⟩
 case round =>
  obtain ⟨i, j, dk, rfl, rfl, hjd, hgg, HO1, HB1, HK1, I2⟩ := hrel
  have hij := I2.out.lt
  have hds : dk.size = n := by have := I2.out.size; simpa [hn] using this
  by_cases hlt2 : j < n
  · have hltz : (j : Int) < (n : Int) := by omega
    obtain ⟨x, hx⟩ : ∃ x, Aside0 (now[j]! = x) := ⟨_, ⟨rfl⟩⟩
    have hdj : dk.toList.getD j z44 = x := by
     have h1 := I2.out.high j (by omega)
     rw [tl, hx.out] at h1
     rw [List.getD_eq_getElem?_getD, Array.getElem?_toList, ← h1]
     rw [Array.getElem?_eq_getElem (by omega), getElem!_pos dk j (by omega)]; rfl
    have cj := fun t v => aJ.cells HO1.out (by simp [hds]) j hlt2 z44 t v
    rw [hdj] at cj
    have c0 := (cj 0 _ rfl).1
    have c1 := (cj 1 _ rfl).1
    have c2 := (cj 2 _ rfl).1
    have c3 := (cj 3 _ rfl).1
    rw [Nat.add_zero] at c0
    clear cj hdj
    have hwg : wr.heap.size ≤ wr.heap.size := Nat.le_refl _
    have hglt : g < wr.heap.size := own_lt HO1.out g rfl
    cases hq : p x
    · go_wp2_with (first | ((with_reducible refine gn_ 7 rfl ?_); refine bx_ (N := 7) (cs := #[.int .i64 0, .int .i64 0, .int .i64 0, .int .i64 0]) (t := 44) ?_; intro gb hgb w2 hbox hb2; have z0 : w2.cell? ⟨gb, 0, none⟩ = some (.int .i64 0) := (blk_cell hbox 0).trans rfl; have z1 : w2.cell? ⟨gb, 1, none⟩ = some (.int .i64 0) := (blk_cell hbox 1).trans rfl; have z2 : w2.cell? ⟨gb, 2, none⟩ = some (.int .i64 0) := (blk_cell hbox 2).trans rfl; have z3 : w2.cell? ⟨gb, 3, none⟩ = some (.int .i64 0) := (blk_cell hbox 3).trans rfl; have y0 := blk_frozen hbox 0; have y1 := blk_frozen hbox 1; have y2 := blk_frozen hbox 2; have y3 := blk_frozen hbox 3; have HBOX := am_ hbox; have HGB := am_ hgb; have HB2 := am_ hb2; clear hbox hgb hb2) | (go_at_fn gf; refine (HCL.out _ x ?kp).mono ?_; (case kp => exact Kept.setCell (Kept.setCell (Kept.setCell (Kept.setCell (HK1.out.below HB2.out) (.inr (by rw [HGB.out]; exact HK1.out.1)) _) (.inr (by rw [HGB.out]; exact HK1.out.1)) _) (.inr (by rw [HGB.out]; exact HK1.out.1)) _) (.inr (by rw [HGB.out]; exact HK1.out.1)) _); rintro e w4 ⟨he, hb4⟩; rw [hq] at he; subst he; obtain ⟨hb5, ho5, hB5, hK5⟩ := aJ.after HGB.out HBOX.out HB2.out HO1.out HB1.out (Nat.le_trans hBw HK1.out.1) HK1.out hb4; have d0 : w4.cell? ⟨gb, 0, none⟩ = some (.int .i64 x.f0) := (blk_cell hb5 0).trans rfl; have d1 : w4.cell? ⟨gb, 1, none⟩ = some (.int .i64 x.f1) := (blk_cell hb5 1).trans rfl; have d2 : w4.cell? ⟨gb, 2, none⟩ = some (.int .i64 x.f2) := (blk_cell hb5 2).trans rfl; have d3 : w4.cell? ⟨gb, 3, none⟩ = some (.int .i64 x.f3) := (blk_cell hb5 3).trans rfl; obtain ⟨r0, q0⟩ := aJ.cells ho5 (by simp [hds]) i (by omega) z44 0 _ rfl; obtain ⟨r1, q1⟩ := aJ.cells ho5 (by simp [hds]) i (by omega) z44 1 _ rfl; obtain ⟨r2, q2⟩ := aJ.cells ho5 (by simp [hds]) i (by omega) z44 2 _ rfl; obtain ⟨r3, q3⟩ := aJ.cells ho5 (by simp [hds]) i (by omega) z44 3 _ rfl; rw [Nat.add_zero] at r0 q0; have HO5 := am_ ho5; have HB5 := am_ hB5; have HK5 := am_ hK5; clear hb4 hb5 ho5 hB5 hK5; have iz0 : (0 ≤ (i : Int)) = True := eq_true (by omega); have iz1 : ((i : Int) < (n : Int)) = True := eq_true (by omega)))
      go_roundg (n - (j + 1))
      case measure => omega
      case rel =>
       refine ⟨i + 1, j + 1, dk.setIfInBounds i x, by go_num, by go_num, by omega, Nat.le_refl _, ⟨?_⟩, ⟨?_⟩, ⟨?_⟩, ⟨?_⟩⟩
       · have := YthkeonbmgcphkaaGreatDoorSort.own_setElem (enc := aJ.enc) (fun _ => rfl) HO5.out (by simp [hds]) i (by omega) x
         rwa [show (dk.setIfInBounds i x).toList = dk.toList.set i x by simp]
       · exact aJ.bs (aJ.bs (aJ.bs (aJ.bs HB5.out hBg _ _) hBg _ _) hBg _ _) hBg _ _
       · exact Kept.setCell (Kept.setCell (Kept.setCell (Kept.setCell HK5.out (.inl hg) _) (.inl hg) _) (.inl hg) _) (.inl hg) _
       have := I2.out.keep (by simpa [hn] using hlt2) (by rw [HKP.out]; show (!p now.toArray[j]!) = true; rw [tl, hx.out, hq]; rfl)
       rwa [tl, hx.out] at this
    go_wp2_with (first | ((with_reducible refine gn_ 7 rfl ?_); refine bx_ (N := 7) (cs := #[.int .i64 0, .int .i64 0, .int .i64 0, .int .i64 0]) (t := 44) ?_; intro gb hgb w2 hbox hb2; have z0 : w2.cell? ⟨gb, 0, none⟩ = some (.int .i64 0) := (blk_cell hbox 0).trans rfl; have z1 : w2.cell? ⟨gb, 1, none⟩ = some (.int .i64 0) := (blk_cell hbox 1).trans rfl; have z2 : w2.cell? ⟨gb, 2, none⟩ = some (.int .i64 0) := (blk_cell hbox 2).trans rfl; have z3 : w2.cell? ⟨gb, 3, none⟩ = some (.int .i64 0) := (blk_cell hbox 3).trans rfl; have y0 := blk_frozen hbox 0; have y1 := blk_frozen hbox 1; have y2 := blk_frozen hbox 2; have y3 := blk_frozen hbox 3; have HBOX := am_ hbox; have HGB := am_ hgb; have HB2 := am_ hb2; clear hbox hgb hb2) | (go_at_fn gf; refine (HCL.out _ x ?kp).mono ?_; (case kp => exact Kept.setCell (Kept.setCell (Kept.setCell (Kept.setCell (HK1.out.below HB2.out) (.inr (by rw [HGB.out]; exact HK1.out.1)) _) (.inr (by rw [HGB.out]; exact HK1.out.1)) _) (.inr (by rw [HGB.out]; exact HK1.out.1)) _) (.inr (by rw [HGB.out]; exact HK1.out.1)) _); rintro e w4 ⟨he, hb4⟩; rw [hq] at he; subst he; obtain ⟨hb5, ho5, hB5, hK5⟩ := aJ.after HGB.out HBOX.out HB2.out HO1.out HB1.out (Nat.le_trans hBw HK1.out.1) HK1.out hb4; have d0 : w4.cell? ⟨gb, 0, none⟩ = some (.int .i64 x.f0) := (blk_cell hb5 0).trans rfl; have d1 : w4.cell? ⟨gb, 1, none⟩ = some (.int .i64 x.f1) := (blk_cell hb5 1).trans rfl; have d2 : w4.cell? ⟨gb, 2, none⟩ = some (.int .i64 x.f2) := (blk_cell hb5 2).trans rfl; have d3 : w4.cell? ⟨gb, 3, none⟩ = some (.int .i64 x.f3) := (blk_cell hb5 3).trans rfl; have HO5 := am_ ho5; have HB5 := am_ hB5; have HK5 := am_ hK5; clear hb4 hb5 ho5 hB5 hK5; have iz0 : (0 ≤ (i : Int)) = True := eq_true (by omega); have iz1 : ((i : Int) < (n : Int)) = True := eq_true (by omega)))
    go_roundg (n - (j + 1))
    case measure => omega
    case rel =>
     exact ⟨i, j + 1, dk, rfl, by go_num, by omega, Nat.le_refl _, HO5, HB5, HK5, ⟨I2.out.skip (by rw [HKP.out]; show (!p now.toArray[j]!) = false; rw [tl, hx.out, hq]; rfl)⟩⟩
  obtain rfl : j = n := by omega
  have hltz : ¬ (j : Int) < (j : Int) := by omega
  obtain ⟨zs, hzs⟩ : ∃ zs, (Builtin.zeroCells (Value.agg #[.int .i64 0, .int .i64 0, .int .i64 0, .int .i64 0]).cells (j - i)).toList = zs := ⟨_, rfl⟩
  have hzl : zs.length = (j - i) * 4 := by rw [← hzs]; simp [Builtin.zeroCells, Value.cells]
  have hz1 : ∀ v ∈ zs, v.oneCell' = true := by
   intro v hv
   rw [← hzs] at hv
   simp only [Builtin.zeroCells, Value.cells, Array.toList_map, List.mem_map] at hv
   obtain ⟨t, _, rfl⟩ := hv
   have : t % 4 < 4 := Nat.mod_lt _ (by decide)
   show (#[Value.int IntKind.i64 0, Value.int IntKind.i64 0, Value.int IntKind.i64 0, Value.int IntKind.i64 0] : Array Value)[t % 4]!.oneCell' = true
   rcases (by omega : t % 4 = 0 ∨ t % 4 = 1 ∨ t % 4 = 2 ∨ t % 4 = 3) with h | h | h | h <;> rw [h] <;> rfl
  have hca : ∀ t, t < zs.length → (wr.cell? ⟨g, i * 4 + t, none⟩).isSome = true ∧ wr.frozen? ⟨g, i * 4 + t, none⟩ = false := by
   intro t ht
   have h1 : t % 4 < 4 := Nat.mod_lt _ (by decide)
   have h2 : (aJ.enc (dk.toList.getD (i + t / 4) z44)).length = 4 := rfl
   have := aJ.cells HO1.out (by simp [hds]) (i + t / 4) (by omega) z44 (t % 4) _ (List.getElem?_eq_getElem (by omega))
   rw [show (i + t / 4) * 4 + t % 4 = i * 4 + t by omega] at this
   exact ⟨by rw [this.1]; rfl, this.2⟩
  have hcl2 : ∀ ty, (Builtin.clear_ #[38] ty #[.slice (some ⟨g, i * 4, none⟩) (j - i) (cap - i)]).run Tryz.prog wr = .ok (.tuple #[]) (wr.setCells g (i * 4) zs) := fun ty => YthkeonbmgcphkaaGreatDoorSort.run_clear_rows wr 38 44 ty _ Tryz.underlying38 Tryz.zeroValue44 g (i * 4) (j - i) (cap - i) zs hzs hz1 (by omega) (fun t ht => (hca t ht).1) (fun t ht => (hca t ht).2)
  have hic2 : i < cap := by have := own_cap HO1.out; omega
  have hic : i ≤ cap := by omega
  have hn1 : ¬ i = cap := by omega
  have hn2 : ¬ cap = i := by omega
  have hn3 : ¬ cap - i = 0 := by omega
  have hn4 : ¬ cap ≤ i := by omega
  clear hca hz1 hzs
  go_wp2
  go_ret
  have hlen := I2.out.len
  have htk : dk.toList.take i = Lib.keptUpTo kp now.toArray j := by
   apply List.ext_getElem?
   intro q
   by_cases hq : q < i
   · rw [List.getElem?_take_of_lt hq, I2.out.low q hq, Array.getElem?_toList, Array.getElem?_eq_getElem (by omega), getElem!_pos dk q (by omega)]
   rw [List.getElem?_eq_none (by rw [List.length_take]; omega), List.getElem?_eq_none (by omega)]
  have hst := YthkeonbmgcphkaaGreatDoorSort.own_struck (enc := aJ.enc) (fun _ => rfl) HO1.out (by simp [hds]) i (by omega) zs
  rw [htk] at hst
  rw [hlen]
  exact ⟨rfl, hst, aJ.bss zs HB1.out hBg _, aJ.kss zs HK1.out (.inl hg) _⟩
theorem aJ.clone (ad : Addr) (n c : Nat) (news : List Value) (w : World) (hl : news.length = n * 4) (hn : n ≤ maxLen) (hbig : n * 32 ≤ 140737488355328) (hc : ∀ j u, news[j]? = some u → w.cell? (ad.add j) = some u) (h1 : ∀ u ∈ news, u.oneCell' = true) :
 Calls Tryz.prog 86 #[.slice (some ad) n c] w fun e w' => ∃ v', e = .returned v' ∧ w'.ownsRow w.heap.size 44 4 v' n news ∧ Below w.heap.size w w' := by
 obtain ⟨i0, hi, hz⟩ := Option.map_eq_some_iff.1 info44
 simp only [Prod.mk.injEq] at hz
 obtain ⟨hz0, hz1, hz2⟩ := hz
 have t38 := Tryz.underlying38
 have q38 : ∀ (w : World) (a : Option Addr) (n c n' c' : Nat), (binOp .eql 38 (.slice a n c) (.slice none n' c')).run Tryz.prog w = .ok (.bool a.isNone) w := fun w a n c n' c' => Lib.run_eql_slice_nil w _ _ a n c n' c' t38
 have HC := am_ hc
 clear hc
 go_enter Tryz.func86, Tryz.ntmps86
 go_wp2_with (at_builtin; refine wpList_append_own _ rfl _ _ 38 rfl w.heap.size 44 i0 _ 4 32 t38 hi hz0 hz1 hz2 rfl (by decide) _ _ _ rfl (World.ownsRow_made w #[] 0 (Nat.le_refl _) (Nat.zero_le _) (by simp)) ad n c news rfl ?qc1 ?qc2 ?qc3 ?qc4 ?qc5 ?qc6 ?_)
 case qc1 => exact hl
 case qc2 => exact fun j u hj => Lib.cell?_alloc_some _ (HC.out j u hj)
 case qc3 => exact h1
 case qc4 => rw [Nat.zero_add]; exact hn
 case qc5 => rw [Nat.zero_add]; exact hbig
 case qc6 => simp
 intro v' w1 hown hgrow hnil
 go_wp2
 go_ret
 exact ⟨v', rfl, by simpa using hown, ((Below.refl _ w).alloc (Nat.le_refl _) _).grown hgrow (by simp) (by intro k hk; simp [Value.ownBlock] at hk; omega)⟩
theorem aJ.reps (l : List S44) (w : World) (base : Nat) (ok : Nat → Prop) : Reps (k44.M w base ok) 4 l (l.flatMap fun x => [Value.int .i64 x.f0, .int .i64 x.f1, .int .i64 x.f2, .int .i64 x.f3]) := by
 letI : Inhabited S44 := ⟨z44⟩
 refine ⟨?_, fun j p hj => ?_⟩
 · rw [YthkeonbmgcphkaaGreatDoorSort.flat_length _ 4 (fun _ => rfl)]
 have hlt := (List.getElem?_eq_some_iff.1 hj).1
 have : ((l.flatMap fun x : S44 => [Value.int .i64 x.f0, .int .i64 x.f1, .int .i64 x.f2, .int .i64 x.f3]).drop (j * 4)).take 4 = [Value.int .i64 p.f0, .int .i64 p.f1, .int .i64 p.f2, .int .i64 p.f3] := by
  apply List.ext_getElem?
  intro t
  by_cases ht : t < 4
  · rw [List.getElem?_take_of_lt ht, List.getElem?_drop, YthkeonbmgcphkaaGreatDoorSort.flat_get (fun x : S44 => [Value.int .i64 x.f0, .int .i64 x.f1, .int .i64 x.f2, .int .i64 x.f3]) 4 (fun _ => rfl) l _ (by omega)]
    rw [show (j * 4 + t) / 4 = j by omega, show (j * 4 + t) % 4 = t by omega, getElem!_pos _ j hlt, (List.getElem?_eq_some_iff.1 hj).2, getElem!_pos _ t (by exact ht), List.getElem?_eq_getElem]
    all_goals first | rfl | exact ht
  rw [List.getElem?_eq_none (by rw [List.length_take]; omega), List.getElem?_eq_none (by show 4 ≤ t; omega)]
 rw [this]
 exact jM w base ok p
theorem aJ.cloneR (A0 : Option Addr) (c0 : Nat) (l0 : List S44) (w : World) (hr0 : Kd.C k44 w A0 l0.length l0) (hbig : l0.length * 32 ≤ 140737488355328) :
 Calls Tryz.prog 86 #[.slice A0 l0.length c0] w fun e w' => ∃ v, e = .returned v ∧ Kd.R k44 44 w' w.heap.size (fun _ => True) v l0 ∧ Below w.heap.size w w' := by
 letI : Inhabited S44 := ⟨z44⟩
 cases A0 with
 | none =>
  have hz : l0.length = 0 := by
   rcases Nat.eq_zero_or_pos l0.length with h | h
   · exact h
   obtain ⟨_, _, hx⟩ := hr0
   obtain ⟨_, h2, _⟩ := hx h
   cases h2
  obtain rfl : l0 = [] := List.length_eq_zero_iff.1 hz
  exact (Tryz.cloneRects_nil 0 c0 w).mono fun e w' ⟨he, hw⟩ => ⟨_, he, Kd.R_nil _ _ _ _ _, by rw [hw]; exact Below.refl _ _⟩
 | some ad =>
  have hcells : ∀ j u, (l0.flatMap fun x : S44 => [Value.int .i64 x.f0, .int .i64 x.f1, .int .i64 x.f2, .int .i64 x.f3])[j]? = some u → w.cell? (ad.add j) = some u := by
   intro j u hj
   have hjl : j < l0.length * 4 := by
    have := (List.getElem?_eq_some_iff.1 hj).1
    rwa [YthkeonbmgcphkaaGreatDoorSort.flat_length _ 4 (fun _ => rfl)] at this
   obtain ⟨_, _, hx⟩ := hr0
   obtain ⟨ad', e1, hx⟩ := hx (by omega)
   obtain rfl := Option.some.inj e1
   have hjq : j / 4 < l0.length := by omega
   obtain ⟨cs, _, hK, hc⟩ := hx (j / 4) _ (List.getElem?_eq_getElem hjq)
   obtain rfl := k44_open hK
   rw [YthkeonbmgcphkaaGreatDoorSort.flat_get (fun x : S44 => [Value.int .i64 x.f0, .int .i64 x.f1, .int .i64 x.f2, .int .i64 x.f3]) 4 (fun _ => rfl) l0 j hjl, getElem!_pos l0 (j / 4) hjq] at hj
   have hm : j % 4 < 4 := Nat.mod_lt _ (by decide)
   have h2 := hc (j % 4) u (by rw [← hj, getElem!_pos _ (j % 4) (by exact hm), List.getElem?_eq_getElem])
   rw [show k44.sz = 4 from rfl, show j / 4 * 4 + j % 4 = j by omega] at h2
   exact h2
  refine (aJ.clone ad l0.length c0 _ w (by rw [YthkeonbmgcphkaaGreatDoorSort.flat_length _ 4 (fun _ => rfl)]) (by unfold maxLen; omega) hbig hcells ?_).mono fun e w' ⟨v, he, ho, hb⟩ => ⟨v, he, ⟨fun _ _ => trivial, _, ho, aJ.reps l0 _ _ _⟩, hb⟩
  intro u hu
  obtain ⟨x, _, hx⟩ := List.mem_flatMap.1 hu
  simp at hx
  rcases hx with rfl | rfl | rfl | rfl <;> rfl
theorem aJ.sortI (P0 : Nat → Prop) (u : Value) (ys : List Int) (base B : Nat) (w0 w : World) (hB : Below B w0 w) (hBw : B ≤ w.heap.size) (hbB : B ≤ base) (ho : Kd.R (Kd.int .i64) 3 w base P0 u ys) (hsz : ys.length < 4611686018427387904) :
 Calls Tryz.prog 89 #[u] w fun e w' => e = .returned (.tuple #[]) ∧ Kd.R (Kd.int .i64) 3 w' base P0 u (ys.mergeSort fun x y => decide (x ≤ y)) ∧ Below B w0 w' ∧ Kept w w' P0 := by
 by_cases hz : ys = []
 · subst hz
   obtain ⟨A, c, rfl⟩ := Kd.R_slice ho
   exact (Tryz.slices_Sort_int_none A c w).mono fun e w' ⟨he, hw⟩ => by
    subst hw
    exact ⟨he, by simpa using ho, hB, Kept.refl _ _⟩
 have hpos : 0 < ys.length := List.length_pos_iff.2 hz
 obtain ⟨g, cap, rfl, hbase, hlt, _⟩ := Kd.R_form ho hpos
 have hok := ho.1 g rfl
 have hown := Kd.own_of_R ho
 have hH := YthkeonbmgcphkaaGreatDoorSort.kC (enc := Value.int .i64) hown rfl
 refine (Tryz.slices_Sort_int g 0 cap ys w hH hlt hsz).mono fun e w' ⟨he, m, os, hw⟩ => ?_
 subst hw
 have h1 := YthkeonbmgcphkaaGreatDoorSort.own_putRow (enc := Value.int .i64) (m := m) (os := os) (n1 := ys.length) (d := (ys.mergeSort fun x y => decide (x ≤ y)).toArray) hown (by simp) (Nat.le_refl _)
 have hl : (ys.mergeSort fun x y => decide (x ≤ y)).length = ys.length := List.length_mergeSort _
 rw [List.toList_toArray, List.take_of_length_le (by omega)] at h1
 refine ⟨he, ?_, YthkeonbmgcphkaaGreatDoorSort.kH hB hBw (by omega), YthkeonbmgcphkaaGreatDoorSort.kS hok⟩
 exact Kd.R_of_own (by rw [hl]; exact h1) (fun k hk => by have : g = k := Option.some.inj hk; exact this ▸ hok)
theorem aJ.compactI (P0 : Nat → Prop) (u : Value) (ys : List Int) (base B : Nat) (w0 w : World) (hB : Below B w0 w) (hBw : B ≤ w.heap.size) (hbB : B ≤ base) (ho : Kd.R (Kd.int .i64) 3 w base P0 u ys) (hsz : ys.length ≤ 9223372036854775807) :
 Calls Tryz.prog 90 #[u] w fun e w' => ∃ v, e = .returned v ∧ Kd.R (Kd.int .i64) 3 w' base P0 v (Lib.compact ys) ∧ Below B w0 w' ∧ Kept w w' P0 := by
 by_cases hz : ys = []
 · subst hz
   obtain ⟨A, c, rfl⟩ := Kd.R_slice ho
   exact (Tryz.slices_Compact_int_empty A c w).mono fun e w' ⟨he, hw⟩ => by
    subst hw
    have hc : Lib.compact ([] : List Int) = [] := rfl
    rw [hc]
    exact ⟨_, he, ho, hB, Kept.refl _ _⟩
 have hpos : 0 < ys.length := List.length_pos_iff.2 hz
 obtain ⟨g, cap, rfl, hbase, hlt, _⟩ := Kd.R_form ho hpos
 have hok := ho.1 g rfl
 have hown := Kd.own_of_R ho
 have hH := YthkeonbmgcphkaaGreatDoorSort.kC (enc := Value.int .i64) hown rfl
 refine (Tryz.slices_Compact_int g 0 cap ys w hH hsz (own_cap hown)).mono fun e w' ⟨he, m, hw⟩ => ?_
 have hcl : (Lib.compact ys).length ≤ ys.length := by
  unfold Lib.compact Lib.compactUpTo
  rw [List.length_map]
  exact Nat.le_trans (List.length_filter_le _ _) (by simp)
 have h1 := YthkeonbmgcphkaaGreatDoorSort.own_putRow (enc := Value.int .i64) (m := m) (os := #[]) (n1 := (Lib.compact ys).length) (d := (Lib.compact ys ++ List.replicate (ys.length - (Lib.compact ys).length) 0).toArray) hown (by simp) hcl
 rw [List.toList_toArray, List.take_left' rfl] at h1
 rw [Sort.grow_empty] at h1
 have hb := YthkeonbmgcphkaaGreatDoorSort.kH (m := m) (g := g) (f := Sort.putCells (Value.int .i64) 0 (Lib.compact ys ++ List.replicate (ys.length - (Lib.compact ys).length) 0).toArray) (os := #[]) hB hBw (by omega)
 have hk := YthkeonbmgcphkaaGreatDoorSort.kS (w := w) (m := m) (g := g) (f := Sort.putCells (Value.int .i64) 0 (Lib.compact ys ++ List.replicate (ys.length - (Lib.compact ys).length) 0).toArray) (os := #[]) (S := P0) hok
 rw [Sort.grow_empty] at hb hk
 subst hw
 exact ⟨_, he, Kd.R_of_own h1 (fun k hk => by have : g = k := Option.some.inj hk; exact this ▸ hok), hb, hk⟩
def aJ.more (l : List S44) (y : Int) (next : Nat) : List S44 := (l.drop next).takeWhile fun r => decide (r.f1 ≤ y)
def aJ.l0 : Nat → List S44 → List Int → Nat → Nat → List S44 → List S118 → Option (List S118)
 | 0, _, _, _, _, _, _ => none
 | k + 1, l, ys, kk, next, now, out =>
  if kk + 1 < ys.length then
   (if (now.filter fun r => !decide (r.f3 ≤ rd ys kk)).length + (aJ.more l (rd ys kk) next).length ≤ 1000000000 then
    ((bG.f k ((now.filter fun r => !decide (r.f3 ≤ rd ys kk)) ++ aJ.more l (rd ys kk) next)).bind fun t =>
     ((dH.f k out (rd ys kk) (rd ys ((kk + 1 : Nat) : Int)) t.1).bind fun out1 =>
      aJ.l0 k l ys (kk + 1) (next + (aJ.more l (rd ys kk) next).length) t.2 out1))
   else none)
  else some out
def aJ.f (k : Nat) (l0 : List S44) : Option (List S118) :=
 if l0.length ≤ 1000000000 then ((aH.f l0).bind fun l => aJ.l0 k l (Lib.compact ((l.flatMap fun r => [r.f1, r.f3]).mergeSort fun x y => decide (x ≤ y))) 0 0 [] []) else none
def aJ.Inv1 (w wr : World) (gy : Nat) (vL : Value) (l : List S44) (ys : List Int) : Prop :=
 Kd.R k44 44 wr w.heap.size (fun _ => True) vL l ∧ (∃ v, wr.heap[gy]? = some (.cells #[v] 72 (0, 0)) ∧ Kd.R (Kd.int .i64) 3 wr w.heap.size (fun _ => True) v ys) ∧ Below w.heap.size w wr ∧ w.heap.size ≤ gy
theorem aJ.kY (l : List S44) : (l.flatMap fun r => [r.f1, r.f3]).length = 2 * l.length := by
 induction l with
 | nil => rfl
 | cons a q ih => simp only [List.flatMap_cons, List.length_append, List.length_cons, List.length_nil, ih]; omega
theorem aJ.put4 {w wr w5 : World} {gy gb : Nat} {vL : Value} {l : List S44} {ys : List Int} {q : S44} (hbox : w5.heap[gb]? = some (.cells #[.int .i64 0, .int .i64 0, .int .i64 0, .int .i64 0] 44 (0, 0))) (hgb : gb = wr.heap.size) (hb : Below wr.heap.size wr w5) (I : aJ.Inv1 w wr gy vL l ys) :
 ((((w5.setCell ⟨gb, 0, none⟩ (.int .i64 q.f0)).setCell ⟨gb, 1, none⟩ (.int .i64 q.f1)).setCell ⟨gb, 2, none⟩ (.int .i64 q.f2)).setCell ⟨gb, 3, none⟩ (.int .i64 q.f3)).heap[gb]? = some (.cells #[.int .i64 q.f0, .int .i64 q.f1, .int .i64 q.f2, .int .i64 q.f3] 44 (0, 0)) ∧
 aJ.Inv1 w ((((w5.setCell ⟨gb, 0, none⟩ (.int .i64 q.f0)).setCell ⟨gb, 1, none⟩ (.int .i64 q.f1)).setCell ⟨gb, 2, none⟩ (.int .i64 q.f2)).setCell ⟨gb, 3, none⟩ (.int .i64 q.f3)) gy vL l ys := by
 obtain ⟨h1, ⟨v, h2, h3⟩, h4, h5⟩ := I
 have hge : w.heap.size ≤ gb := by rw [hgb]; exact h4.size
 have r1 := Kd.R_mono (Kd.R_bound h1) (ok' := fun k => k ≠ gb) (fun k hk => by have := hk.2.2.1; omega)
 have r2 := Kd.R_mono (Kd.R_bound h3) (ok' := fun k => k ≠ gb) (fun k hk => by have := hk.2.2.1; omega)
 have r1 := Kd.R_below r1 hb
 have r2 := Kd.R_below r2 hb
 have hl := blk_lt h2
 have b2 := (hb.block gy hl).trans h2
 have hn : gy ≠ gb := by omega
 refine ⟨blk_put (cs := #[.int .i64 q.f0, .int .i64 q.f1, .int .i64 q.f2, .int .i64 0]) (blk_put (cs := #[.int .i64 q.f0, .int .i64 q.f1, .int .i64 0, .int .i64 0]) (blk_put (cs := #[.int .i64 q.f0, .int .i64 0, .int .i64 0, .int .i64 0]) (blk_put (cs := #[.int .i64 0, .int .i64 0, .int .i64 0, .int .i64 0]) hbox 0 (.int .i64 q.f0) rfl) 1 (.int .i64 q.f1) rfl) 2 (.int .i64 q.f2) rfl) 3 (.int .i64 q.f3) rfl, ?_, ⟨v, ?_, ?_⟩, ?_, h5⟩
 · exact Kd.R_mono (Kd.R_far (p := ⟨gb, 3, none⟩) (Kd.R_far (p := ⟨gb, 2, none⟩) (Kd.R_far (p := ⟨gb, 1, none⟩) (Kd.R_far (p := ⟨gb, 0, none⟩) r1 (fun _ h => h) _) (fun _ h => h) _) (fun _ h => h) _) (fun _ h => h) _) (fun _ _ => trivial)
 · exact blk_far (blk_far (blk_far (blk_far b2 (p := ⟨gb, 0, none⟩) hn _) (p := ⟨gb, 1, none⟩) hn _) (p := ⟨gb, 2, none⟩) hn _) (p := ⟨gb, 3, none⟩) hn _
 · exact Kd.R_mono (Kd.R_far (p := ⟨gb, 3, none⟩) (Kd.R_far (p := ⟨gb, 2, none⟩) (Kd.R_far (p := ⟨gb, 1, none⟩) (Kd.R_far (p := ⟨gb, 0, none⟩) r2 (fun _ h => h) _) (fun _ h => h) _) (fun _ h => h) _) (fun _ h => h) _) (fun _ _ => trivial)
 exact below_set (below_set (below_set (below_set (below_then h4 h4.size hb) hge) hge) hge) hge
theorem aJ.app2 {w w6 w7 w8 : World} {gy : Nat} {vL v v8 : Value} {l : List S44} {ys zs : List Int} (I : aJ.Inv1 w w6 gy vL l ys) (hbx : w6.heap[gy]? = some (.cells #[v] 72 (0, 0))) (hRy : Kd.R (Kd.int .i64) 3 w6 w.heap.size (fun _ => True) v ys)
 (hb7 : Below w6.heap.size w6 w7) (ho : Kd.R (Kd.int .i64) 3 w8 w.heap.size (fun _ => True) v8 zs) (hg : w7.grownBy w8 v.ownBlock) (hB : Below w.heap.size w w8) :
 w8.heap[gy]? = some (.cells #[v] 72 (0, 0)) ∧ aJ.Inv1 w (w8.setCell ⟨gy, 0, none⟩ v8) gy vL l zs := by
 obtain ⟨h1, _, h4, h5⟩ := I
 have b7 := (hb7.block gy (blk_lt hbx)).trans hbx
 have r7 := Kd.R_below h1 hb7
 have y7 := Kd.R_below hRy hb7
 have b8 := blk_grown b7 hg (Kd.R_ne y7 b7 (by decide))
 have r8 := Kd.R_over' r7 (Kd.R_typed y7) (by decide) hg
 exact ⟨b8, Kd.R_set r8 b8 (by decide) 0 _, ⟨v8, blk_put (cs := #[v]) b8 0 _ rfl, Kd.R_set ho b8 (by decide) 0 _⟩, below_set hB h5, h5⟩
theorem aJ.kept1 {w wr w1 : World} {gy : Nat} {vL v : Value} {l : List S44} {ys : List Int} (I : aJ.Inv1 w wr gy vL l ys) (hbx : wr.heap[gy]? = some (.cells #[v] 72 (0, 0))) (hRy : Kd.R (Kd.int .i64) 3 wr w.heap.size (fun _ => True) v ys)
 (hk : Kept wr w1 (fun k => some k = v.ownBlock)) (hB : Below w.heap.size w w1) : w1.heap[gy]? = some (.cells #[v] 72 (0, 0)) ∧ Kd.R k44 44 w1 w.heap.size (fun _ => True) vL l := by
 obtain ⟨h1, _, h4, h5⟩ := I
 exact ⟨blk_kept hbx hk (Kd.R_ne hRy hbx (by decide)), Kd.R_mono (Kd.R_kept (Kd.R_apart' h1 (Kd.R_typed hRy) (by decide)) hk (fun k h => h.2)) (fun _ _ => trivial)⟩
theorem aJ.own44 {w : World} {base : Nat} {ok : Nat → Prop} {v : Value} {xs : List S44} (h : Kd.R k44 44 w base ok v xs) : w.ownsRow base 44 4 v xs.length (xs.flatMap aJ.enc) := by
 obtain ⟨h0, inner, ho, hr⟩ := h
 have h1 := aJ.reps xs w base (fun k => ok k ∧ some k ≠ v.ownBlock)
 have : inner = xs.flatMap aJ.enc := by
  apply List.ext_getElem?
  intro t
  by_cases ht : t < xs.length * 4
  · have hj : t / 4 < xs.length := by omega
    have e1 := iH (hr.2 (t / 4) _ (List.getElem?_eq_getElem hj))
    have e2 := iH (h1.2 (t / 4) _ (List.getElem?_eq_getElem hj))
    have e3 := congrArg (fun l => l[t % 4]?) (e1.trans e2.symm)
    replace e3 : ((List.drop (t / 4 * k44.sz) inner).take k44.sz)[t % 4]? = ((List.drop (t / 4 * 4) (xs.flatMap aJ.enc)).take 4)[t % 4]? := e3
    have hm : t % 4 < 4 := Nat.mod_lt _ (by decide)
    rw [show k44.sz = 4 from rfl, List.getElem?_take_of_lt hm, List.getElem?_take_of_lt hm, List.getElem?_drop, List.getElem?_drop, show t / 4 * 4 + t % 4 = t by omega] at e3
    exact e3
  have l1 := hr.1
  have l2 := h1.1
  rw [show k44.sz = 4 from rfl] at l1
  rw [List.getElem?_eq_none (by omega), List.getElem?_eq_none (by show (xs.flatMap fun x : S44 => [Value.int .i64 x.f0, .int .i64 x.f1, .int .i64 x.f2, .int .i64 x.f3]).length ≤ t; omega)]
 rw [← this]
 exact ho
theorem aJ.of_own44 {w : World} {base : Nat} {ok : Nat → Prop} {v : Value} {xs : List S44} (h : w.ownsRow base 44 4 v xs.length (xs.flatMap aJ.enc)) (hok : ∀ k, v.ownBlock = some k → ok k) : Kd.R k44 44 w base ok v xs := ⟨hok, _, h, aJ.reps xs _ _ _⟩
theorem aJ.del0 (A : Option Addr) (c : Nat) (fv : Value) (w : World) : Calls Tryz.prog 91 #[.slice A 0 c, fv] w fun e w' => e = .returned (.slice A 0 c) ∧ w' = w := by
 have h0 : Calls Tryz.prog 128 #[.slice A 0 c, fv] w fun e w' => e = .returned (.int .i64 (-1)) ∧ w' = w := by
  go_enter Tryz.func128, Tryz.ntmps128
  go_wp2
  go_loopg [8] 0 (fun _ v8 wr => v8 = .int .i64 0 ∧ wr = w)
  case atStart => exact ⟨rfl, rfl⟩
  case round =>
   obtain ⟨rfl, rfl⟩ := hrel
   go_wp2
   go_ret
   exact ⟨rfl, rfl⟩
 go_enter Tryz.func91, Tryz.ntmps91
 go_wp2_with (go_at_call 128; refine h0.mono ?_; rintro e w' ⟨rfl, rfl⟩)
 go_ret
 exact ⟨rfl, rfl⟩
structure aJ.Inv2 (w wr : World) (gy gk : Nat) (vL vY vN vO : Value) (l now : List S44) (ys : List Int) (kk : Int) (out : List S118) : Prop where
 by_ : wr.heap[gy]? = some (.cells #[vY] 72 (0, 0))
 bk : wr.heap[gk]? = some (.cells #[.int .i64 kk] 3 (0, 0))
 rl : Kd.R k44 44 wr w.heap.size (fun k => some k = vL.ownBlock) vL l
 rn : Kd.R k44 44 wr w.heap.size (fun k => some k ≠ vL.ownBlock) vN now
 ry : Kd.R (Kd.int .i64) 3 wr w.heap.size (fun k => some k = vY.ownBlock) vY ys
 ro : Kd.S k118 118 wr w.heap.size (fun k => some k ≠ vY.ownBlock ∧ k ≠ gk) vO out
 ky : some gk ≠ vY.ownBlock
 bel : Below w.heap.size w wr
 gy_ : w.heap.size ≤ gy
 gk_ : w.heap.size ≤ gk
theorem aJ.Inv2.below {w wr w1 : World} {gy gk : Nat} {vL vY vN vO : Value} {l now : List S44} {ys : List Int} {kk : Int} {out : List S118} (I : aJ.Inv2 w wr gy gk vL vY vN vO l now ys kk out) (hb : Below wr.heap.size wr w1) : aJ.Inv2 w w1 gy gk vL vY vN vO l now ys kk out :=
 ⟨(hb.block gy (blk_lt I.by_)).trans I.by_, (hb.block gk (blk_lt I.bk)).trans I.bk, Kd.R_below I.rl hb, Kd.R_below I.rn hb, Kd.R_below I.ry hb, Kd.S_step I.ro (fun k _ hk => hb.block k hk), I.ky, below_then I.bel I.bel.size hb, I.gy_, I.gk_⟩
theorem aJ.Inv2.now_ {w wr w1 : World} {gy gk : Nat} {vL vY vN vO vN1 : Value} {l now now1 : List S44} {ys : List Int} {kk : Int} {out : List S118} (I : aJ.Inv2 w wr gy gk vL vY vN vO l now ys kk out) (hk : Kept wr w1 (fun k => some k = vN.ownBlock)) (hB : Below w.heap.size w w1) (hn : Kd.R k44 44 w1 w.heap.size (fun k => some k ≠ vL.ownBlock) vN1 now1) : aJ.Inv2 w w1 gy gk vL vY vN1 vO l now1 ys kk out :=
 ⟨blk_kept I.by_ hk (Kd.R_ne I.rn I.by_ (by decide)), blk_kept I.bk hk (Kd.R_ne I.rn I.bk (by decide)), Kd.R_kept I.rl hk (fun k h1 h2 => by
  have := I.rn.1 k h2.symm
  exact this h1), hn, Kd.R_mono (Kd.R_kept (Kd.R_apart' I.ry (Kd.R_typed I.rn) (by decide)) hk (fun k h => h.2)) (fun k h => h.1), Kd.S_mono (Kd.S_kept (Kd.S_apart' I.ro (Kd.R_typed I.rn) (by decide)) hk (fun k h => h.2)) (fun k h => h.1), I.ky, hB, I.gy_, I.gk_⟩
theorem aJ.compact_le (zs : List Int) : (Lib.compact zs).length ≤ zs.length := by
 unfold Lib.compact Lib.compactUpTo
 rw [List.length_map]
 exact Nat.le_trans (List.length_filter_le _ _) (by simp)
theorem aJ.init2 {w wC w9 : World} {gy gk : Nat} {vL vY u : Value} {l : List S44} {ys : List Int} {P : Nat → Prop} (hb : wC.heap[gy]? = some (.cells #[u] 72 (0, 0))) (hl : Kd.R k44 44 wC w.heap.size (fun _ => True) vL l) (hy : Kd.R (Kd.int .i64) 3 wC w.heap.size P vY ys)
 (hB : Below w.heap.size w wC) (hgy : w.heap.size ≤ gy) (hgk : gk = (wC.setCell ⟨gy, 0, none⟩ vY).heap.size) (hbk : w9.heap[gk]? = some (.cells #[.int .i64 0] 3 (0, 0))) (hb9 : Below (wC.setCell ⟨gy, 0, none⟩ vY).heap.size (wC.setCell ⟨gy, 0, none⟩ vY) w9) :
 aJ.Inv2 w (w9.setCell ⟨gk, 0, none⟩ (.int .i64 0)) gy gk vL vY (.slice none 0 0) (.slice none 0 0) l [] ys 0 [] := by
 have l1 := Kd.R_set hl hb (by decide) 0 vY
 have y1 := Kd.R_set hy hb (by decide) 0 vY
 have b1 := blk_put (cs := #[u]) hb 0 vY rfl
 have B1 : Below w.heap.size w (wC.setCell ⟨gy, 0, none⟩ vY) := below_set hB hgy
 have l1' := Kd.R_mono (Kd.R_bound l1) (ok' := fun k => k ≠ gk) (fun k hk => by have := hk.2.2.1; omega)
 have y1' := Kd.R_mono (Kd.R_bound y1) (ok' := fun k => k ≠ gk) (fun k hk => by have := hk.2.2.1; omega)
 have l2 := Kd.R_below l1' hb9
 have y2 := Kd.R_below y1' hb9
 have hlt := blk_lt b1
 have b2 := (hb9.block gy hlt).trans b1
 have hn : gy ≠ gk := by omega
 have B2 := below_then B1 B1.size hb9
 have hge : w.heap.size ≤ gk := by rw [hgk]; exact B1.size
 have l3 := Kd.R_far (p := ⟨gk, 0, none⟩) l2 (fun k h => h) (.int .i64 0)
 have y3 := Kd.R_far (p := ⟨gk, 0, none⟩) y2 (fun k h => h) (.int .i64 0)
 exact ⟨blk_far (p := ⟨gk, 0, none⟩) b2 hn _, blk_put (cs := #[.int .i64 0]) hbk 0 _ rfl, Kd.R_tight rfl l3, Kd.R_nil _ _ _ _ _, Kd.R_tight rfl y3, Kd.S_nil _ _ _ _ _, fun e => y3.1 gk e.symm rfl, below_set B2 hge, hgy, hge⟩
theorem aJ.delI {w wr : World} {gy gk : Nat} {vL vY vN vO : Value} {l now : List S44} {ys : List Int} {kk : Int} {out : List S118} (I : aJ.Inv2 w wr gy gk vL vY vN vO l now ys kk out) (h0 : 0 ≤ kk) (h1 : kk < ys.length) :
 Calls Tryz.prog 91 #[vN, .func (.func 92) #[] #[.pointer (some ⟨gy, 0, none⟩), .pointer (some ⟨gk, 0, none⟩)]] wr fun e w' => ∃ vN1, e = .returned vN1 ∧ aJ.Inv2 w w' gy gk vL vY vN1 vO l (now.filter fun r => !decide (r.f3 ≤ rd ys kk)) ys kk out := by
 by_cases hz : now = []
 · subst hz
   obtain ⟨A, c, e⟩ := Kd.R_slice I.rn
   subst e
   refine (aJ.del0 A c _ wr).mono fun e w' ⟨he, hw⟩ => ⟨_, he, ?_⟩
   subst hw
   exact I
 have hpos : 0 < now.length := List.length_pos_iff.2 hz
 have hn : now.length ≤ 9223372036854775807 := by obtain ⟨_, _, _, _, hc⟩ := Kd.R_reads I.rn; exact hc.2.1
 obtain ⟨g, cap, e, hbase, hlt, _⟩ := Kd.R_form I.rn hpos
 subst e
 obtain ⟨Ay, cy, ey⟩ := Kd.R_slice I.ry
 subst ey
 have eg : ∀ args w, (callFunc 92 args).run Tryz.prog w = .ok (.enter 92 args) w := enters_of Tryz.func92 (by kernel_rfl) rfl
 refine (aJ.del (fun x => decide (x.f3 ≤ rd ys kk)) 92 #[.pointer (some ⟨gy, 0, none⟩), .pointer (some ⟨gk, 0, none⟩)] eg now g cap now.length w.heap.size w.heap.size (fun k => some k = (Value.slice (some ⟨g, 0, none⟩) now.length cap).ownBlock) w wr I.bel I.bel.size hbase rfl (aJ.own44 I.rn) rfl hpos (by omega) (fun W x hW => ?_)).mono fun e w' ⟨he, ho, hB, hK⟩ => ⟨_, he, I.now_ hK hB (aJ.of_own44 ho (fun k hk => I.rn.1 k hk))⟩
 have b1 := blk_kept I.by_ hW (Kd.R_ne I.rn I.by_ (by decide))
 have b2 := blk_kept I.bk hW (Kd.R_ne I.rn I.bk (by decide))
 have r3 := Kd.R_kept (Kd.R_apart' I.ry (Kd.R_typed I.rn) (by decide)) hW (fun k h => h.2)
 exact aJ.closure gy gk Ay cy ys kk x W ((blk_cell b1 0).trans rfl) ((blk_cell b2 0).trans rfl) (Kd.R_reads' r3).2.2 h0 h1
theorem aJ.app1 {w w6 w7 w8 : World} {gy gk : Nat} {vL vY vN vO v8 : Value} {l now now1 : List S44} {ys : List Int} {kk : Int} {out : List S118} (I : aJ.Inv2 w w6 gy gk vL vY vN vO l now ys kk out) (hb7 : Below w6.heap.size w6 w7) (hg : w7.grownBy w8 vN.ownBlock) (hB : Below w.heap.size w w8) (ho : Kd.R k44 44 w8 w.heap.size (fun k => some k ≠ vL.ownBlock) v8 now1) :
 aJ.Inv2 w w8 gy gk vL vY v8 vO l now1 ys kk out :=
 (I.below hb7).now_ (Kept.of_grown hg (Kept.refl _ _) (fun k h => .inl h.symm)) hB ho
theorem aJ.strI {w W w1 : World} {gy gk : Nat} {vL vY vN vO vX : Value} {l now now1 : List S44} {ys xs : List Int} {kk : Int} {out : List S118} (I : aJ.Inv2 w W gy gk vL vY vN vO l now ys kk out) (hX : Kd.R (Kd.int .i64) 3 w1 w.heap.size (fun k => some k = vN.ownBlock ∨ W.heap.size ≤ k) vX xs)
 (hN : Kd.R k44 44 w1 w.heap.size (fun k => some k = vN.ownBlock ∨ W.heap.size ≤ k) vN now1) (hB : Below w.heap.size w w1) (hK : Kept W w1 (fun k => some k = vN.ownBlock)) :
 aJ.Inv2 w w1 gy gk vL vY vN vO l now1 ys kk out ∧ Kd.R (Kd.int .i64) 3 w1 w.heap.size (fun k => W.heap.size ≤ k) vX xs := by
 have hlt := Kd.R_lt I.rl
 refine ⟨I.now_ hK hB (Kd.R_mono hN (fun k hk he => ?_)), Kd.R_mono (Kd.R_bound hX) (fun k hk => ?_)⟩
 · rcases hk with hk | hk
   · exact I.rn.1 k hk.symm he
   have := hlt k he.symm
   omega
 rcases hk.1 with h | h
 · exfalso
   obtain ⟨_, _, _, q, hq, cells, hc⟩ := hk
   obtain ⟨cells2, hc2⟩ := Kd.R_typed hN k h.symm
   rw [hc] at hc2
   injection hc2 with hc2
   injection hc2 with _ hc2
   have h3 : q = 3 := by simpa [Kd.int, Kd.scalar] using hq
   rw [h3] at hc2
   exact absurd hc2 (by decide)
 exact h
def aJ.In (W : World) (gy gk : Nat) (vL vY vN : Value) (k : Nat) : Prop := (some k ≠ vY.ownBlock ∧ k ≠ gk) ∧ k < W.heap.size ∧ k ≠ gy ∧ some k ≠ vL.ownBlock ∧ some k ≠ vN.ownBlock
theorem aJ.roI {w W w1 : World} {gy gk : Nat} {vL vY vN vO : Value} {l now : List S44} {ys : List Int} {kk : Int} {out : List S118} (I : aJ.Inv2 w W gy gk vL vY vN vO l now ys kk out) (hK : Kept W w1 (fun k => some k = vN.ownBlock)) :
 Kd.S k118 118 w1 w.heap.size (aJ.In W gy gk vL vY vN) vO out := by
 have h1 := Kd.S_apart' (Kd.S_apart' (Kd.S_types I.ro I.by_ (by decide)) (Kd.R_typed I.rl) (by decide)) (Kd.R_typed I.rn) (by decide)
 have h2 := Kd.S_bound h1
 exact Kd.S_mono (Kd.S_kept h2 hK (fun k h => h.1.2)) (fun k h => ⟨h.1.1.1.1, h.2.2.1, h.1.1.1.2, h.1.1.2, h.1.2⟩)
theorem aJ.pushI {w W w1 w2 : World} {gy gk : Nat} {vL vY vN vO vO1 : Value} {l now now1 : List S44} {ys : List Int} {kk : Int} {out out0 out1 : List S118} (I : aJ.Inv2 w W gy gk vL vY vN vO l now ys kk out0) (I1 : aJ.Inv2 w w1 gy gk vL vY vN vO l now1 ys kk out) (hle : W.heap.size ≤ w1.heap.size)
 (hS : Kd.S k118 118 w2 w.heap.size (fun k => (aJ.In W gy gk vL vY vN k ∨ W.heap.size ≤ k) ∨ w1.heap.size ≤ k) vO1 out1) (hB : Below w.heap.size w w2) (hK : Kept w1 w2 (fun k => aJ.In W gy gk vL vY vN k ∨ W.heap.size ≤ k)) :
 aJ.Inv2 w w2 gy gk vL vY vN vO1 l now1 ys kk out1 := by
 have ly := Kd.R_lt I.ry
 have ll := Kd.R_lt I.rl
 have ln := Kd.R_lt I.rn
 have l1 := blk_lt I.by_
 have l2 := blk_lt I.bk
 refine ⟨blk_kept I1.by_ hK ?_, blk_kept I1.bk hK ?_, Kd.R_kept I1.rl hK ?_, ?_, Kd.R_kept I1.ry hK ?_, Kd.S_mono hS ?_, I1.ky, hB, I1.gy_, I1.gk_⟩
 · rintro (h | h)
   · exact h.2.2.1 rfl
   omega
 · rintro (h | h)
   · exact h.1.2 rfl
   omega
 · intro k h1 h2
   rcases h2 with h2 | h2
   · exact h2.2.2.2.1 h1
   have := ll k h1.symm; omega
 · have h0 := Kd.R_tight rfl I1.rn
   exact Kd.R_mono (Kd.R_kept h0 hK (fun k h1 h2 => by
    rcases h2 with h2 | h2
    · exact h2.2.2.2.2 h1
    have := ln k h1.symm; omega)) (fun k h => I1.rn.1 k h.symm)
 · intro k h1 h2
   rcases h2 with h2 | h2
   · exact h2.1.1 h1
   have := ly k h1.symm; omega
 intro k h
 have hbig : W.heap.size ≤ k → some k ≠ vY.ownBlock ∧ k ≠ gk := fun h => ⟨fun e => by have := ly k e.symm; omega, by omega⟩
 rcases h with (h | h) | h
 · exact h.1
 · exact hbig h
 exact hbig (by omega)
theorem aJ.newk {w w2 w9 : World} {gy gk gk1 : Nat} {vL vY vN vO : Value} {l now : List S44} {ys : List Int} {kk : Int} {out : List S118} (I : aJ.Inv2 w w2 gy gk vL vY vN vO l now ys kk out) (hgk : gk1 = w2.heap.size) (hbk : w9.heap[gk1]? = some (.cells #[.int .i64 0] 3 (0, 0))) (hb9 : Below w2.heap.size w2 w9) (k1 : Int) :
 aJ.Inv2 w ((w9.setCell ⟨gk1, 0, none⟩ (.int .i64 kk)).setCell ⟨gk1, 0, none⟩ (.int .i64 k1)) gy gk1 vL vY vN vO l now ys k1 out := by
 have l1 := Kd.R_mono (Kd.R_bound I.rl) (ok' := fun k => k ≠ gk1 ∧ some k = vL.ownBlock) (fun k hk => ⟨by have := hk.2.2.1; omega, hk.1⟩)
 have n1 := Kd.R_mono (Kd.R_bound I.rn) (ok' := fun k => k ≠ gk1 ∧ some k ≠ vL.ownBlock) (fun k hk => ⟨by have := hk.2.2.1; omega, hk.1⟩)
 have y1 := Kd.R_mono (Kd.R_bound I.ry) (ok' := fun k => k ≠ gk1 ∧ some k = vY.ownBlock) (fun k hk => ⟨by have := hk.2.2.1; omega, hk.1⟩)
 have o1 := Kd.S_mono (Kd.S_bound I.ro) (ok' := fun k => k ≠ gk1 ∧ some k ≠ vY.ownBlock) (fun k hk => ⟨by have := hk.2.2.1; omega, hk.1.1⟩)
 have l2 := Kd.R_far (p := ⟨gk1, 0, none⟩) (Kd.R_far (p := ⟨gk1, 0, none⟩) (Kd.R_below l1 hb9) (fun k h => h.1) (.int .i64 kk)) (fun k h => h.1) (.int .i64 k1)
 have n2 := Kd.R_far (p := ⟨gk1, 0, none⟩) (Kd.R_far (p := ⟨gk1, 0, none⟩) (Kd.R_below n1 hb9) (fun k h => h.1) (.int .i64 kk)) (fun k h => h.1) (.int .i64 k1)
 have y2 := Kd.R_far (p := ⟨gk1, 0, none⟩) (Kd.R_far (p := ⟨gk1, 0, none⟩) (Kd.R_below y1 hb9) (fun k h => h.1) (.int .i64 kk)) (fun k h => h.1) (.int .i64 k1)
 have o2 := Kd.S_far (p := ⟨gk1, 0, none⟩) (Kd.S_far (p := ⟨gk1, 0, none⟩) (Kd.S_below o1 hb9) (fun k h => h.1) (.int .i64 kk)) (fun k h => h.1) (.int .i64 k1)
 have hlt := blk_lt I.by_
 have hn : gy ≠ gk1 := by omega
 have b2 := blk_far (p := ⟨gk1, 0, none⟩) (blk_far (p := ⟨gk1, 0, none⟩) ((hb9.block gy hlt).trans I.by_) hn (.int .i64 kk)) hn (.int .i64 k1)
 have hge : w.heap.size ≤ gk1 := by rw [hgk]; exact I.bel.size
 have bk2 := blk_put (cs := #[.int .i64 kk]) (blk_put (cs := #[.int .i64 0]) hbk 0 (.int .i64 kk) rfl) 0 (.int .i64 k1) rfl
 exact ⟨b2, bk2, Kd.R_mono l2 (fun k h => h.2), Kd.R_mono n2 (fun k h => h.2), Kd.R_mono y2 (fun k h => h.2), Kd.S_mono o2 (fun k h => ⟨h.2, h.1⟩), fun e => (y2.1 gk1 e.symm).1 rfl, below_set (below_set (below_then I.bel I.bel.size hb9) hge) hge, I.gy_, hge⟩
theorem aJ.more_len (l : List S44) (y : Int) (next : Nat) (h : next ≤ l.length) : next + (aJ.more l y next).length ≤ l.length := by
 have h1 : (aJ.more l y next).length ≤ (l.drop next).length := (List.takeWhile_prefix _).length_le
 rw [List.length_drop] at h1
 omega
theorem aJ.more_at (l : List S44) (y : Int) (next j : Nat) (h : j < (aJ.more l y next).length) : ∃ q, l[next + j]? = some q ∧ q.f1 ≤ y ∧ (aJ.more l y next)[j]? = some q := by
 have hp : aJ.more l y next <+: l.drop next := List.takeWhile_prefix _
 have e := List.getElem?_eq_getElem h
 refine ⟨_, ?_, ?_, e⟩
 · rw [← List.getElem?_drop]
   exact List.prefix_iff_getElem?.1 hp j h
 have hm : (aJ.more l y next)[j] ∈ aJ.more l y next := List.getElem_mem h
 have := List.all_takeWhile (p := fun r : S44 => decide (r.f1 ≤ y)) (l := l.drop next)
 have h2 := List.all_eq_true.1 this _ hm
 exact of_decide_eq_true h2
theorem aJ.more_end (l : List S44) (y : Int) (next : Nat) (h : next + (aJ.more l y next).length < l.length) : ∃ q, l[next + (aJ.more l y next).length]? = some q ∧ ¬ q.f1 ≤ y := by
 refine ⟨_, List.getElem?_eq_getElem h, fun hc => ?_⟩
 have e : l.drop next = aJ.more l y next ++ (l.drop next).dropWhile fun r => decide (r.f1 ≤ y) := (List.takeWhile_append_dropWhile).symm
 have hd : l[next + (aJ.more l y next).length]? = ((l.drop next).dropWhile fun r => decide (r.f1 ≤ y))[0]? := by
  rw [← List.getElem?_drop, e, List.getElem?_append_right (Nat.le_refl _), Nat.sub_self, ← e]
 have hn := List.head?_dropWhile_not (fun r : S44 => decide (r.f1 ≤ y)) (l.drop next)
 rw [List.head?_eq_getElem?, ← hd, List.getElem?_eq_getElem h] at hn
 simp at hn
 omega
theorem aJ.sI {w w' : World} {gy gc cC kk : Nat} {ady : Addr} {vL vN vO : Value} {l now : List S44} {zs : List Int} {out : List S118} {ya yb : Int} (I : aJ.Inv2 w w' gy gc vL (.slice (some ady) zs.length cC) vN vO l now zs (kk : Int) out) (h1 : kk + 1 < zs.length) (ha : rd zs (kk : Int) = ya) (hb : rd zs ((kk + 1 : Nat) : Int) = yb) :
 w'.cell? ⟨gc, 0, none⟩ = some (.int .i64 (kk : Int)) ∧ w'.cell? ⟨gy, 0, none⟩ = some (.slice (some ady) zs.length cC) ∧ w'.cell? (ady.add kk) = some (.int .i64 ya) ∧ w'.cell? ⟨ady.block, ady.off + (kk + 1), none⟩ = some (.int .i64 yb) := by
 obtain ⟨a1, e1, c1⟩ := Kd.at_int (Kd.R_reads' I.ry).2.2 (kk : Int) (by omega) (by omega)
 obtain ⟨a2, e2, c2⟩ := Kd.at_int (Kd.R_reads' I.ry).2.2 ((kk + 1 : Nat) : Int) (by omega) (by omega)
 obtain rfl := Option.some.inj e1
 obtain rfl := Option.some.inj e2
 rw [Int.toNat_natCast] at c1 c2
 exact ⟨(blk_cell I.bk 0).trans rfl, (blk_cell I.by_ 0).trans rfl, by rw [← ha]; exact c1, by rw [← hb]; have e := add_field ady 0 (kk + 1) (by omega); rw [Nat.zero_add] at e; rw [e, show ady.add 0 = ady from by unfold Addr.add; rfl] at c2; exact c2⟩
theorem aJ.calls (k : Nat) (A0 : Option Addr) (c0 : Nat) (l0 : List S44) (r : List S118) (w : World) (hG : Tryz.GW w) (hr0 : Kd.C k44 w A0 l0.length l0) (hc0 : l0.length ≤ c0) (h : aJ.f k l0 = some r) :
 Calls Tryz.prog 51 #[.slice A0 l0.length c0] w fun e w' => ∃ v0_ : Value, e = .returned v0_ ∧ Kd.S k118 118 w' w.heap.size (fun _ => True) v0_ r ∧ Below w.heap.size w w' := by
 unfold aJ.f at h
 by_cases hl : l0.length ≤ 1000000000
 rotate_left
 · rw [if_neg hl] at h; cases h
 rw [if_pos hl] at h
 obtain ⟨l, hs, h⟩ := Option.bind_eq_some_iff.1 h
 have hu44 := Tryz.underlying44
 have hu72_ := Tryz.underlying72
 have hu38 := Tryz.underlying38
 have hu3 := Tryz.underlying3
 have HG := am_ hG
 have HR0 := am_ hr0
 have HS := am_ hs
 have H := am_ h
 clear hG hr0 hs h
 go_enter Tryz.func51, Tryz.ntmps51
 go_upto_block 0 with (first | (go_at_call 86; refine (aJ.cloneR A0 c0 l0 _ HR0.out (by omega)).mono ?_; rintro e w1 ⟨v, rfl, hR1, hb1⟩; have R1 := am_ hR1; have B1 := am_ hb1; clear hR1 hb1) | (go_at_call 87; refine (aH.calls (fun _ => True) v l0 l w _ (Tryz.dJ HG.out (Below.refl _ _)) B1.out R1.out HS.out).mono ?_; rintro e w2 ⟨rfl, hR2, hb2, hk2⟩; have R2 := am_ hR2; have B2 := am_ hb2; clear hR2 hb2 hk2; obtain ⟨A2, c2, e2⟩ := Kd.R_slice R2.out; subst e2) | ((with_reducible refine gn_ 3 rfl ?_); refine bx_ (N := 3) (cs := #[.slice none 0 0]) (t := 72) ?_; intro gy hgy w3 hbox hb3; have GY := am_ hgy; have BOX := am_ hbox; have B3 := am_ hb3; clear hgy hbox hb3))
 have I0 : Aside0 (aJ.Inv1 w w3 gy (.slice A2 l.length c2) l []) := ⟨Kd.R_mono (Kd.R_below R2.out B3.out) (fun _ _ => trivial), ⟨_, BOX.out, Kd.R_nil _ _ _ _ _⟩, below_then B2.out B2.out.size B3.out, by rw [GY.out]; exact B2.out.size⟩
 have hll : l.length ≤ 1000000000 := by have := (Kd.R_reads' R1.out).1; omega
 clear R1 R2 B1 BOX B3 HR0 B2
 go_cut [] (fun wc => Aside0 (aJ.Inv1 w wc gy (.slice A2 l.length c2) l (l.flatMap fun r => [r.f1, r.f3])))
 case first =>
  go_wp2
  go_loopg [16] l.length (fun gg v16 wr => ∃ i : Nat, v16 = .int .i64 i ∧ i ≤ l.length ∧ l.length - i ≤ gg ∧ Aside0 (aJ.Inv1 w wr gy (.slice A2 l.length c2) l ((l.take i).flatMap fun r => [r.f1, r.f3])))
  case atStart => exact ⟨0, rfl, Nat.zero_le _, by omega, I0⟩
  case round =>
   obtain ⟨i, rfl, hi, hgg, I1⟩ := hrel
   clear I0 GY
   by_cases hlt : i < l.length
   rotate_left
   · have d0 : decide (i < l.length) = false := decide_eq_false hlt
     obtain rfl : i = l.length := by omega
     rw [List.take_of_length_le (Nat.le_refl _)] at I1
     go_wp2
     go_meet
     exact I1
   obtain ⟨ys, hys⟩ : ∃ ys, Aside0 (((l.take i).flatMap fun r => [r.f1, r.f3]) = ys) := ⟨_, ⟨rfl⟩⟩
   have hyl : ys.length ≤ 2000000000 := by rw [← hys.out, aJ.kY]; have := List.length_take_le i l; omega
   rw [hys.out] at I1
   obtain ⟨ad, eA, x0, x1, x2, x3⟩ := dS (Kd.R_reads' I1.out.1).2.2 (i : Int) (by omega) (by omega)
   subst eA
   obtain ⟨q, hq⟩ : ∃ q, Aside0 (aI l (i : Int) = q ∧ l[i]? = some q) := ⟨_, ⟨rfl, by unfold aI; rw [List.getD_eq_getElem?_getD, Int.toNat_natCast, List.getElem?_eq_getElem hlt, Option.getD_some]⟩⟩
   rw [hq.out.1] at x0 x1 x2 x3
   rw [Int.toNat_natCast] at x0 x1 x2 x3
   have d0 : decide (i < l.length) = true := decide_eq_true hlt
   have p0 : (0 ≤ (i : Int)) = True := eq_true (by omega)
   have q0 : ((i : Int) < (l.length : Int)) = True := eq_true (by omega)
   go_upto_region 7 with (first | ((with_reducible refine gn_ 5 rfl ?_); refine bx_ (N := 5) (cs := #[.int .i64 0, .int .i64 0, .int .i64 0, .int .i64 0]) (t := 44) ?_; intro gb hgb w5 hbox hb5; have z0 : w5.cell? ⟨gb, 0, none⟩ = some (.int .i64 0) := (blk_cell hbox 0).trans rfl; have z1 : w5.cell? ⟨gb, 1, none⟩ = some (.int .i64 0) := (blk_cell hbox 1).trans rfl; have z2 : w5.cell? ⟨gb, 2, none⟩ = some (.int .i64 0) := (blk_cell hbox 2).trans rfl; have z3 : w5.cell? ⟨gb, 3, none⟩ = some (.int .i64 0) := (blk_cell hbox 3).trans rfl; have y0 := blk_frozen hbox 0; have y1 := blk_frozen hbox 1; have y2 := blk_frozen hbox 2; have y3 := blk_frozen hbox 3; have HBOX := am_ hbox; have HGB := am_ hgb; have HB5 := am_ hb5; clear hbox hgb hb5))
   obtain ⟨b4, I4⟩ := aJ.put4 (q := q) HBOX.out HGB.out HB5.out I1.out
   have I4 := am_ I4
   clear z0 z1 z2 z3 y0 y1 y2 y3 HBOX HB5 x0 x1 x2 x3
   generalize (((w5.setCell { block := gb, off := 0 } (Value.int IntKind.i64 q.f0)).setCell { block := gb, off := 1 } (Value.int IntKind.i64 q.f1)).setCell { block := gb, off := 2 } (Value.int IntKind.i64 q.f2)).setCell { block := gb, off := 3 } (Value.int IntKind.i64 q.f3) = w6 at b4 I4 ⊢
   obtain ⟨vy, hbx, hRy⟩ := I4.out.2.1
   obtain ⟨Ay, cy, ey⟩ := Kd.R_slice hRy
   subst ey
   have g0 : w6.cell? ⟨gy, 0, none⟩ = some (.slice Ay ys.length cy) := (blk_cell hbx 0).trans rfl
   have g1 : w6.cell? ⟨gb, 1, none⟩ = some (.int .i64 q.f1) := (blk_cell b4 1).trans rfl
   have g3 : w6.cell? ⟨gb, 3, none⟩ = some (.int .i64 q.f3) := (blk_cell b4 3).trans rfl
   have RY := am_ hRy
   have BX := am_ hbx
   clear hRy hbx b4
   go_wp2_with (first | ((with_reducible refine gn_ 25 rfl ?_); refine Kd.R_lit (Kd.int .i64) _ 3 ?hg (N := 25) ?hd (xs := ([q.f1, q.f3] : List Int)) (inner := [.int .i64 q.f1, .int .i64 q.f3]) (ok := fun _ => True) (okp := fun _ => True) ?hr ?hp (fun _ hk => hk) trivial (Below.refl _ _) (Nat.le_refl _) (by simp) ?_; (case hd => rfl); (case hg => rfl); (case hr => first | (go_simp; done) | (go_simp; rfl)); (case hp => exact (Reps.one (show Kd.M (Kd.int .i64) _ _ _ q.f1 [.int .i64 q.f1] from rfl) (Reps.one (show Kd.M (Kd.int .i64) _ _ _ q.f3 [.int .i64 q.f3] from rfl) (Reps.none _ _)))); intro v7 w7 ho7 hb7 hg7 hn7; have O7 := am_ ho7; have B7 := am_ hb7; clear ho7 hb7 hg7 hn7; obtain ⟨A7, c7, e7⟩ := Kd.R_slice O7.out; subst e7) | ((with_reducible refine gate_builtin (b := .append) (xs := #[.tmp 20, .tmp 25]) rfl ?_); at_builtin; refine Kd.R_append_rows (Kd.int .i64) (w0 := w) w.heap.size rfl (.tmp 20) (.tmp 25) 72 3 (.int .i64 0) 8 rfl Tryz.underlying72 info3 rfl (by decide) (by omega) (.slice Ay ys.length cy) ys [q.f1, q.f3] _ _ _ (fun _ => True) (fun _ => False) rfl rfl ?aO ?aR (fun _ _ h => h) (fun _ h => h.elim) (fun _ _ => trivial) ?aB ?aS ?aL ?_; (case aR => exact (Kd.R_reads' O7.out).2.2); (case aB => exact below_then I4.out.2.2.1 I4.out.2.2.1.size B7.out); (case aO => exact Kd.R_below RY.out B7.out); (case aS => exact Nat.le_trans I4.out.2.2.1.size B7.out.size); (case aL => simp; omega); intro v8 w8 ho8 hb8 hg8 hat8; obtain ⟨A8, c8, e8⟩ := Kd.R_slice ho8; subst e8; obtain ⟨hbx8, hI8⟩ := aJ.app2 I4.out BX.out RY.out B7.out ho8 hg8 hb8; have I8 := am_ hI8; have f0 := blk_frozen hbx8 0; have f1 : w8.cell? ⟨gy, 0, none⟩ = some (.slice Ay ys.length cy) := (blk_cell hbx8 0).trans rfl; clear ho8 hb8 hg8 hat8 hbx8 hI8))
   go_roundg (l.length - (i + 1))
   case measure => omega
   case rel =>
    refine ⟨i + 1, by go_num, by omega, Nat.le_refl _, ⟨?_⟩⟩
    have e1 : (l.take (i + 1)).flatMap (fun r => [r.f1, r.f3]) = ys ++ [q.f1, q.f3] := by
     rw [List.take_add_one, hq.out.2, List.flatMap_append, hys.out]
     rfl
    rw [e1]
    have e2 : (ys ++ [q.f1, q.f3]).length = ys.length + 2 := by simp
    have e3 := I8.out
    rw [e2] at e3
    exact e3
 case rest =>
  have I1 := hcut
  clear hcut I0 GY
  obtain ⟨ys, hys⟩ : ∃ ys, Aside0 ((l.flatMap fun r => [r.f1, r.f3]) = ys) := ⟨_, ⟨rfl⟩⟩
  have hyl : ys.length ≤ 2000000000 := by rw [← hys.out, aJ.kY]; omega
  rw [hys.out] at I1
  obtain ⟨vy, hbx, hRy⟩ := I1.out.2.1
  obtain ⟨Ay, cy, ey⟩ := Kd.R_slice hRy
  subst ey
  have g0 := (blk_cell hbx 0).trans rfl
  have RY := am_ hRy
  have BX := am_ hbx
  clear hRy hbx
  have gy_ := I1.out.2.2.2
  have GYL := am_ (blk_lt BX.out)
  obtain ⟨zs, hzs⟩ : ∃ zs, Aside0 (Lib.compact (ys.mergeSort fun x y => decide (x ≤ y)) = zs) := ⟨_, ⟨rfl⟩⟩
  have hzl : zs.length ≤ 2000000000 := by rw [← hzs.out]; have h1 := aJ.compact_le (ys.mergeSort fun x y => decide (x ≤ y)); rw [List.length_mergeSort] at h1; omega
  go_upto_block 2 with (first
   | (go_at_call 89; refine (aJ.sortI (fun k => some k = (Value.slice Ay ys.length cy).ownBlock) _ ys w.heap.size w.heap.size w _ I1.out.2.2.1 I1.out.2.2.1.size (Nat.le_refl _) (Kd.R_tight rfl RY.out) (by omega)).mono ?_; rintro e wS ⟨rfl, hS, hbS, hkS⟩; obtain ⟨bxS, rlS⟩ := aJ.kept1 I1.out BX.out RY.out hkS hbS; have IS := am_ (show aJ.Inv1 w wS gy (.slice A2 l.length c2) l (ys.mergeSort fun x y => decide (x ≤ y)) from ⟨rlS, ⟨_, bxS, Kd.R_mono hS (fun _ _ => trivial)⟩, hbS, gy_⟩); have BXS := am_ bxS; have HSS := am_ hS; have gS := (blk_cell bxS 0).trans rfl; clear hS hbS hkS bxS rlS)
   | (go_at_call 90; refine (aJ.compactI (fun k => some k = (Value.slice Ay ys.length cy).ownBlock) _ (ys.mergeSort fun x y => decide (x ≤ y)) w.heap.size w.heap.size w _ IS.out.2.2.1 IS.out.2.2.1.size (Nat.le_refl _) HSS.out (by rw [List.length_mergeSort]; omega)).mono ?_; rintro e wC ⟨vC, rfl, hC, hbC, hkC⟩; rw [hzs.out] at hC; obtain ⟨AC, cC, eC⟩ := Kd.R_slice hC; subst eC; obtain ⟨bxC, rlC⟩ := aJ.kept1 IS.out BXS.out (Kd.R_mono HSS.out (fun _ _ => trivial)) hkC hbC; have BXC := am_ bxC; have HCC := am_ hC; have RLC := am_ rlC; have HBC := am_ hbC; have gC := (blk_cell bxC 0).trans rfl; have fC := blk_frozen bxC 0; clear hC hbC hkC bxC rlC)
   | ((with_reducible refine gn_ 9 rfl ?_); refine bx_ (N := 9) (cs := #[.int .i64 0]) (t := 3) ?_; intro gc hgc w9 hbox hb9; have z9 := (blk_cell hbox 0).trans rfl; have y9 := blk_frozen hbox 0; have HGK := am_ hgc; have BX9 := am_ hbox; have HB9 := am_ hb9; clear hgc hbox hb9))
  have J0 := am_ (aJ.init2 BXC.out RLC.out HCC.out HBC.out gy_ HGK.out BX9.out HB9.out)
  have H2 := H.out
  rw [hys.out, hzs.out] at H2
  have HH := am_ H2
  clear H H2 BXC RLC HCC HBC HGK BX9 HB9 z9 y9 g0 gS gC fC I1 IS BXS HSS RY BX GYL hys hzs hyl HS h
  generalize hvL : Value.slice A2 l.length c2 = vL at J0
  have HVL := am_ hvL
  clear hvL
  go_wp2
  go_loopg [6, 7, 8, 9] k (fun gg v6 v7 v8 v9 wr => ∃ (gc : Nat) (kk next : Nat) (now : List S44) (out : List S118), v8 = .int .i64 next ∧ v9 = .pointer (some ⟨gc, 0, none⟩) ∧ Aside0 (aJ.l0 gg l zs kk next now out = some r) ∧ next ≤ l.length ∧ kk ≤ zs.length ∧ Aside0 (aJ.Inv2 w wr gy gc vL (.slice AC zs.length cC) v7 v6 l now zs kk out))
  case atStart => exact ⟨gc, 0, 0, [], [], rfl, rfl, HH, Nat.zero_le _, Nat.zero_le _, J0⟩
  case round =>
   clear HH J0
   obtain ⟨gc, kk, next, now, out, rfl, rfl, HA, hnx, hkz, J⟩ := hrel
   cases gk with
   | zero => exact absurd HA.out (by simp [aJ.l0])
   | succ k1 =>
    have H := HA.out
    clear HA
    rw [aJ.l0] at H
    have c1 : wr.cell? ⟨gc, 0, none⟩ = some (.int .i64 (kk : Int)) := (blk_cell J.out.bk 0).trans rfl
    have c2_ : wr.cell? ⟨gy, 0, none⟩ = some (.slice AC zs.length cC) := (blk_cell J.out.by_ 0).trans rfl
    by_cases h1 : kk + 1 < zs.length
    rotate_left
    · have d1 : decide (kk + 1 < zs.length) = false := decide_eq_false h1
      rw [if_neg h1] at H
      obtain rfl := sj_ H
      go_wp2
      go_ret
      exact ⟨_, rfl, Kd.S_mono J.out.ro (fun _ _ => trivial), J.out.bel⟩
    have d1 : decide (kk + 1 < zs.length) = true := decide_eq_true h1
    rw [if_pos h1] at H
    by_cases h2 : (now.filter fun r => !decide (r.f3 ≤ rd zs kk)).length + (aJ.more l (rd zs kk) next).length ≤ 1000000000
    rotate_left
    · rw [if_neg h2] at H; cases H
    rw [if_pos h2] at H
    obtain ⟨t, ht, H3⟩ := Option.bind_eq_some_iff.1 H
    obtain ⟨o1, ho1, H4⟩ := Option.bind_eq_some_iff.1 H3
    have HT := am_ ht
    have HO1 := am_ ho1
    have HR := am_ H4
    clear ht ho1 H H3 H4
    go_upto_block 4 with (go_at_call 91; refine (aJ.delI J.out (by omega) (by omega)).mono ?_; rintro e wD ⟨vN1, rfl, hD⟩; have JD := am_ hD; clear hD)
    obtain ⟨more, hmore⟩ : ∃ more, Aside0 (aJ.more l (rd zs kk) next = more) := ⟨_, ⟨rfl⟩⟩
    obtain ⟨now1, hnow1⟩ : ∃ now1, Aside0 ((now.filter fun r => !decide (r.f3 ≤ rd zs kk)) = now1) := ⟨_, ⟨rfl⟩⟩
    rw [hmore.out, hnow1.out] at h2
    rw [hmore.out] at HR
    rw [hmore.out, hnow1.out] at HT
    rw [hnow1.out] at JD
    go_cut [7, 8] (fun v7 v8 wc => ∃ m : Nat, Aside0 (m = next + more.length) ∧ v8 = .int .i64 (m : Int) ∧ Aside0 (aJ.Inv2 w wc gy gc vL (.slice AC zs.length cC) v7 u6 l (now1 ++ more) zs kk out))
    case first =>
     go_wp2
     go_loopg [7, 8] more.length (fun gg v7 v8 wi => ∃ j m : Nat, Aside0 (m = next + j) ∧ v8 = .int .i64 (m : Int) ∧ j ≤ more.length ∧ more.length - j ≤ gg ∧ Aside0 (aJ.Inv2 w wi gy gc vL (.slice AC zs.length cC) v7 u6 l (now1 ++ more.take j) zs kk out))
     case atStart => exact ⟨0, next, ⟨rfl⟩, rfl, Nat.zero_le _, by omega, ⟨by simpa using JD.out⟩⟩
     case round =>
      obtain ⟨j, m, hm, rfl, hj, hgg, JI⟩ := hrel
      obtain ⟨nw, hnw⟩ : ∃ nw, Aside0 (now1 ++ more.take j = nw) := ⟨_, ⟨rfl⟩⟩
      have HLN : Aside0 (nw.length ≤ 1000000000) := ⟨by have := List.length_take_le j more; rw [← hnw.out, List.length_append]; omega⟩
      rw [hnw.out] at JI
      obtain ⟨An, cn, eN⟩ := Kd.R_slice JI.out.rn
      subst eN
      have c1 : wr.cell? ⟨gc, 0, none⟩ = some (.int .i64 (kk : Int)) := (blk_cell JI.out.bk 0).trans rfl
      have c2_ : wr.cell? ⟨gy, 0, none⟩ = some (.slice AC zs.length cC) := (blk_cell JI.out.by_ 0).trans rfl
      obtain ⟨ady, eAy, cy0⟩ := Kd.at_int (Kd.R_reads' JI.out.ry).2.2 (kk : Int) (by omega) (by omega)
      subst eAy
      rw [Int.toNat_natCast] at cy0
      obtain ⟨ya, hya⟩ : ∃ ya, Aside0 (rd zs (kk : Int) = ya) := ⟨_, ⟨rfl⟩⟩
      rw [hya.out] at cy0
      have p1 : (0 ≤ (kk : Int)) = True := eq_true (by omega)
      have q1 : ((kk : Int) < (zs.length : Int)) = True := eq_true (by omega)
      have hml := aJ.more_len l (rd zs kk) next hnx
      rw [hmore.out] at hml
      by_cases hlt : j < more.length
      · have hq := aJ.more_at l (rd zs kk) next j (by rw [hmore.out]; exact hlt)
        rw [hmore.out, hya.out] at hq
        obtain ⟨q, hq1, hq2, hq3⟩ := hq
        have hmo := hm.out
        rw [← hmo] at hq1
        have hlen : m < l.length := by omega
        clear hmo
        obtain ⟨Al, cl, eL⟩ := Kd.R_slice JI.out.rl
        have HEL := am_ eL
        clear eL
        have hrl := JI.out.rl
        rw [HEL.out] at hrl
        obtain ⟨ad, eA, x0, x1, x2, x3⟩ := dS (Kd.R_reads' hrl).2.2 (m : Int) (by omega) (by omega)
        subst eA
        have hq4 : aI l (m : Int) = q := by unfold aI; rw [List.getD_eq_getElem?_getD, Int.toNat_natCast, hq1, Option.getD_some]
        rw [hq4, Int.toNat_natCast] at x0 x1 x2 x3
        clear hrl hq4
        have e1 : decide (m < l.length) = true := decide_eq_true hlen
        have e2 : decide (q.f1 ≤ ya) = true := decide_eq_true hq2
        have p2 : (0 ≤ (m : Int)) = True := eq_true (by omega)
        have q2 : ((m : Int) < (l.length : Int)) = True := eq_true (by omega)
        have hvl := HEL.out
        subst hvl
        go_wp2
        go_quiet (fail)
        have JQ := JI.out
        clear JI
        go_wp2_with ((with_reducible refine gate_builtin (b := .append) (xs := #[.tmp 58, .tmp 63]) rfl ?_); at_builtin; refine Kd.R_append k44 (w0 := w) w.heap.size rfl (.tmp 58) (.tmp 63) 38 44 _ 32 rfl Tryz.underlying38 info44 rfl (by decide) (by omega) (.slice An nw.length cn) nw q [.int .i64 q.f0, .int .i64 q.f1, .int .i64 q.f2, .int .i64 q.f3] (fun k => some k ≠ (Value.slice (some ad) l.length cl).ownBlock) (fun _ => False) rfl rfl (jM _ _ _ q) (fun _ h => h.elim) ?aF ?aO ?aB ?aS ?aL ?_; (case aF => intro k_ hk he; have := Kd.R_lt JQ.rl k_ he.symm; have h3 : wr.heap.size ≤ k_ := hk; omega); (case aB => exact pw_below_drewN JQ.bel _); (case aO => exact Kd.R_drewN JQ.rn _); (case aS => exact JQ.bel.size); (case aL => have := HLN.out; omega); intro v8 w8 ho8 hb8 hg8 hat8; have J8 := am_ (aJ.app1 (JQ.below (pw_below_drewN (Below.refl _ _) _)) (Below.refl _ _) hg8 hb8 ho8); clear ho8 hb8 hg8 hat8)
        go_roundg (more.length - (j + 1))
        case measure => omega
        case rel =>
         refine ⟨j + 1, m + 1, ⟨by have := hm.out; omega⟩, by go_num, by omega, Nat.le_refl _, ⟨?_⟩⟩
         have e5 : now1 ++ more.take (j + 1) = nw ++ [q] := by rw [List.take_add_one, hq3, ← hnw.out, List.append_assoc]; rfl
         rw [e5]
         exact J8.out
      have hjm : j = more.length := by omega
      have hfin : Aside0 (m = next + more.length ∧ now1 ++ more = nw) := ⟨by have := hm.out; omega, by rw [← hnw.out, hjm, List.take_of_length_le (Nat.le_refl _)]⟩
      clear hnw hm
      obtain ⟨Al, cl, eL⟩ := Kd.R_slice JI.out.rl
      subst eL
      by_cases hlen : m < l.length
      · have hq := aJ.more_end l (rd zs kk) next (by rw [hmore.out, ← hfin.out.1]; exact hlen)
        rw [hmore.out, ← hfin.out.1, hya.out] at hq
        obtain ⟨q, hq1, hq2⟩ := hq
        obtain ⟨ad, eA, x0, x1, x2, x3⟩ := dS (Kd.R_reads' JI.out.rl).2.2 (m : Int) (by omega) (by omega)
        subst eA
        have hq4 : aI l (m : Int) = q := by unfold aI; rw [List.getD_eq_getElem?_getD, Int.toNat_natCast, hq1, Option.getD_some]
        rw [hq4, Int.toNat_natCast] at x0 x1 x2 x3
        clear hq4 hjm
        have e1 : decide (m < l.length) = true := decide_eq_true hlen
        have e2 : decide (q.f1 ≤ ya) = false := decide_eq_false hq2
        have p2 : (0 ≤ (m : Int)) = True := eq_true (by omega)
        have q2 : ((m : Int) < (l.length : Int)) = True := eq_true (by omega)
        go_wp2
        go_quiet (fail)
        go_wp2
        go_meet
        exact ⟨m, ⟨hfin.out.1⟩, rfl, ⟨by rw [hfin.out.2]; exact JI.out.below (pw_below_drewN (Below.refl _ _) _)⟩⟩
      have e1 : decide (m < l.length) = false := decide_eq_false hlen
      clear hjm
      go_wp2
      go_quiet (fail)
      go_wp2
      go_meet
      exact ⟨m, ⟨hfin.out.1⟩, rfl, ⟨by rw [hfin.out.2]; exact JI.out.below (pw_below_drewN (Below.refl _ _) _)⟩⟩
    case rest =>
     obtain ⟨m, hm, rfl, JM⟩ := hcut
     clear JD J c1 c2_
     obtain ⟨ady, cz, eAy, _⟩ := Kd.C_get (Kd.R_reads' JM.out.ry).2.2 (0 : Int) (kk : Int) (by omega) (by omega)
     subst eAy
     obtain ⟨ya, hya⟩ : ∃ ya, Aside0 (rd zs (kk : Int) = ya) := ⟨_, ⟨rfl⟩⟩
     obtain ⟨yb, hyb⟩ : ∃ yb, Aside0 (rd zs ((kk + 1 : Nat) : Int) = yb) := ⟨_, ⟨rfl⟩⟩
     rw [hya.out, hyb.out] at HO1
     have SI := aJ.sI JM.out h1 hya.out hyb.out
     go_upto_region 20 with (fail)
     have p1 : (0 ≤ (kk : Int)) = True := eq_true (by omega)
     have q1 : ((kk : Int) < (zs.length : Int)) = True := eq_true (by omega)
     have p2 : (0 ≤ (kk : Int) + 1) = True := eq_true (by omega)
     have q2 : ((kk : Int) + 1 < (zs.length : Int)) = True := eq_true (by omega)
     have n2 : ((kk : Int) + 1).toNat = kk + 1 := by omega
     have w2 : IntKind.i64.wrap ((kk : Int) + 1) = (kk : Int) + 1 := IntWalk.i64_in _ (by omega)
     refine start_ (n := 15) (S := fun w' => w'.cell? ⟨gc, 0, none⟩ = some (.int .i64 (kk : Int)) ∧ w'.cell? ⟨gy, 0, none⟩ = some (.slice (some ady) zs.length cC) ∧ w'.cell? (ady.add kk) = some (.int .i64 ya) ∧ w'.cell? ⟨ady.block, ady.off + (kk + 1), none⟩ = some (.int .i64 yb)) (ds := []) (bv 15 0) (by kernel_rfl) rfl rfl SI (fun hHeld => ?_)
     obtain ⟨wn, hwn⟩ : ∃ wn, wc.drew = wn := ⟨_, rfl⟩
     have JN : Aside0 (aJ.Inv2 w wn gy gc vL (.slice (some ady) zs.length cC) u7 u6 l (now1 ++ more) zs kk out) := ⟨by rw [← hwn]; exact JM.out.below ((Below.refl _ _).drew)⟩
     rw [hwn] at hHeld ⊢
     clear hwn JM SI
     refine pu_ 0 67 (bv 15 1) ?_
     refine tk_ 1 68 (bv 15 3) hHeld ?_
     refine tk_ 2 69 (bv 15 7) hHeld ?_
     refine pu_ 3 70 (bv 15 15) ?_
     refine tk_ 4 71 (bv 15 31) hHeld ?_
     refine tk_ 5 72 (bv 15 63) hHeld ?_
     refine tk_ 6 73 (bv 15 127) hHeld ?_
     refine pu_ 7 74 (bv 15 255) ?_
     refine pu_ 8 75 (bv 15 511) ?_
     refine tk_ 9 76 (bv 15 1023) hHeld ?_
     refine pu_ 10 77 (bv 15 2047) ?_
     refine one_ (i := 11) (N := some 78) (bv 15 4095) rfl rfl (by kernel_rfl) (by decide) (fun K hK => ?_)
     refine goes_ Tryz.func94 (by kernel_rfl) rfl #[u7] (by rfl) rfl rfl (by (try simp only [List.map_toArray, List.map_cons, List.map_nil]); first | done | rfl) ?_
     refine (bG.calls k1 (fun k => some k = Value.ownBlock u7) u7 (now1 ++ more) t.1 t.2 w _ HG.out JN.out.bel (Kd.R_tight rfl JN.out.rn) HT.out).mono ?_
     rintro e wX ⟨vX, rfl, hX, hN, hBX, hKX⟩
     obtain ⟨hI1, hX1⟩ := aJ.strI JN.out hX hN hBX hKX
     have RO := am_ (aJ.roI JN.out hKX)
     have JX := am_ hI1
     have HX := am_ hX1
     have LE := am_ hKX.1
     clear hX hN hBX hKX hI1 hX1
     obtain ⟨AX, cX, eX⟩ := Kd.R_slice HX.out
     subst eX
     refine ⟨_, rfl, ?_⟩
     refine hK.out _ _ (aJ.sI JX.out h1 hya.out hyb.out) (fun hHeld => ?_)
     clear hK K
     refine norm_ (a' := ?_) ?_ ?_
     rotate_left
     · show Act.put _ (some 78) _ = _
       simp only [Act.put, List.setIfInBounds_toArray, List.set_cons_zero, List.set_cons_succ, i64_w, i32_w]
       rfl
     refine pu_ 12 79 (bv 15 8191) ?_
     refine one_ (i := 13) (N := some 80) (bv 15 16383) rfl rfl (by kernel_rfl) (by decide) (fun K hK => ?_)
     refine goes_ Tryz.func93 (by kernel_rfl) rfl #[u6, .agg #[.int .i64 ya, .int .i64 yb, .slice AX t.1.length cX]] (by rfl) rfl rfl (by (try simp only [List.map_toArray, List.map_cons, List.map_nil]); first | done | rfl) ?_
     refine (dH.calls k1 (aJ.In wn gy gc vL (.slice (some ady) zs.length cC) u7) u6 out ya yb (fun k => wn.heap.size ≤ k) (.slice AX t.1.length cX) t.1 o1 w _ HG.out JX.out.bel RO.out (fun k h1 h2 => Nat.lt_irrefl _ (Nat.lt_of_lt_of_le h1.2.1 h2)) HX.out (fun k h1 h2 => Nat.lt_irrefl _ (Nat.lt_of_lt_of_le h2.2.1 h1)) HO1.out).mono ?_
     rintro e wP ⟨vP, rfl, hS, hBP, hKP⟩
     have JP := am_ (aJ.pushI JN.out JX.out LE.out hS hBP hKP)
     clear hS hBP hKP
     refine ⟨_, rfl, ?_⟩
     refine hK.out _ _ (aJ.sI JP.out h1 hya.out hyb.out) (fun hHeld => ?_)
     clear hK K
     refine norm_ (a' := ?_) ?_ ?_
     rotate_left
     · show Act.put _ (some 80) _ = _
       simp only [Act.put, List.setIfInBounds_toArray, List.set_cons_zero, List.set_cons_succ, i64_w, i32_w]
       rfl
     refine pu_ 14 6 (bv 15 32767) ?_
     refine done_ (by kernel_rfl) ?_
     have k1_ := (blk_cell JP.out.bk 0).trans rfl
     clear hHeld JX RO HX LE JN HT HO1
     go_wp2_with ((with_reducible refine gn_ 9 rfl ?_); refine bx_ (N := 9) (cs := #[.int .i64 0]) (t := 3) ?_; intro g9 hg9 w10 hbox hb9; have z9 : w10.cell? ⟨g9, 0, none⟩ = some (.int .i64 0) := (blk_cell hbox 0).trans rfl; have y9 := blk_frozen hbox 0; have HG9 := am_ hg9; have BX9 := am_ hbox; have HB9 := am_ hb9; have JK := am_ (aJ.newk JP.out hg9 hbox hb9 ((kk : Int) + 1)); clear hg9 hbox hb9)
     go_roundg k1
     case measure => omega
     case rel => exact ⟨g9, kk + 1, m, t.2, o1, rfl, rfl, ⟨by rw [hm.out]; exact HR.out⟩, by have := hm.out; have h8 := aJ.more_len l (rd zs kk) next hnx; rw [hmore.out] at h8; omega, by omega, JK⟩
end Go.Proofs.YthkeonbmgcphkaaGreatDoor.PM
