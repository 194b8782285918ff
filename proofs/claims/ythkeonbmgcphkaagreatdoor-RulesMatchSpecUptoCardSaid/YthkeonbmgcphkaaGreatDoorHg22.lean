import Derived.Test.YthkeonbmgcphkaaGreatDoorHg6
import Derived.Test.YthkeonbmgcphkaaGreatDoorHg21
namespace Go.Proofs.YthkeonbmgcphkaaGreatDoor.PM
open Go.RowKit Go.Proofs.YthkeonbmgcphkaaGreatDoorW.PrintWords Go.Proofs.YthkeonbmgcphkaaGreatDoorW.PrintLast Go.Proofs.YthkeonbmgcphkaaGreatDoorW.PrintMore
attribute [local go_sem] max2_int min2_int max_two min_two max_three min_three max_four min_four
set_option linter.unusedVariables false
set_option maxHeartbeats 8000000
set_option maxRecDepth 100000
set_option linter.unusedSimpArgs false
attribute [local go_sem high] eqA171
def dE.l0 : Nat → List Int → Int → Int → Int → Option (List Int)
 | 0, _, _, _, _ => none
 | k + 1, x0, x1, x5, x6 => if x5 < x6 then (if 0 ≤ (wrap64 (Int.tdiv (wrap64 (x5 + x6)) 2)) then (if (wrap64 (Int.tdiv (wrap64 (x5 + x6)) 2)) < (x0.length : Int) then (if (rd x0 (wrap64 (Int.tdiv (wrap64 (x5 + x6)) 2))) < x1 then (dE.l0 k x0 x1 (wrap64 ((wrap64 (Int.tdiv (wrap64 (x5 + x6)) 2)) + 1)) x6) else (dE.l0 k x0 x1 x5 (wrap64 (Int.tdiv (wrap64 (x5 + x6)) 2)))) else (none)) else (none)) else (if x5 < (x0.length : Int) then (if 0 ≤ x5 then (if (rd x0 x5) = x1 then (some x0) else (if x5 ≤ (x0.length : Int) then ((some (x0.take (x5 : Int).toNat : List Int)).bind fun y238 => (if ([] : List Int).length + y238.length < 17592186044416 then ((some (([] : List Int) ++ y238 : List Int)).bind fun y242 => (if y242.length < 17592186044416 then ((some (y242 ++ [x1] : List Int)).bind fun y245 => ((some (x0.drop (x5 : Int).toNat : List Int)).bind fun y248 => (if y245.length + y248.length < 17592186044416 then (some (y245 ++ y248)) else (none)))) else (none))) else (none))) else (none))) else (none)) else (if 0 ≤ x5 then (if x5 ≤ (x0.length : Int) then ((some (x0.take (x5 : Int).toNat : List Int)).bind fun y255 => (if ([] : List Int).length + y255.length < 17592186044416 then ((some (([] : List Int) ++ y255 : List Int)).bind fun y259 => (if y259.length < 17592186044416 then ((some (y259 ++ [x1] : List Int)).bind fun y262 => ((some (x0.drop (x5 : Int).toNat : List Int)).bind fun y265 => (if y262.length + y265.length < 17592186044416 then (some (y262 ++ y265)) else (none)))) else (none))) else (none))) else (none)) else (none)))
def dE.f (k : Nat) (l0 : List Int) (a1 : Int) : Option (List Int) := dE.l0 k l0 a1 0 (l0.length : Int)
theorem dE.calls (k : Nat) (P0_ : Nat → Prop) (u9000_ : Value) (l0 : List Int) (a1 : Int) (r : List Int) (w0 w : World) (hG : Tryz.GW w0) (hB : Below w0.heap.size w0 w) (ho0 : Kd.R (Kd.int .i64) 3 w w0.heap.size P0_ u9000_ l0) (h : dE.f k l0 a1 = some r) :
 Calls Tryz.prog 146 #[u9000_, .int .i64 a1] w fun e w' => ∃ v0_ : Value, e = .returned (v0_) ∧ Kd.R (Kd.int .i64) 3 w' w0.heap.size (fun k_ => (P0_ k_ ∨ w.heap.size ≤ k_)) v0_ r ∧ Below w0.heap.size w0 w' ∧ Kept w w' (fun k_ => P0_ k_) := by
 have HO0 := am_ (show Kd.R (Kd.int .i64) 3 w w0.heap.size (fun k_ => (P0_ k_ ∨ w.heap.size ≤ k_)) u9000_ l0 from Kd.R_mono ho0 (fun k_ hk => (.inl hk)))
 have HK := am_ (Kept.refl w (fun k_ => P0_ k_))
 have HG := am_ hG
 clear hG
 have HW0 := am_ hB.size
 have HB := am_ hB
 clear hB
 have H : (dE.l0 k l0 a1 0 (l0.length : Int)) = some r := h
 clear h
 replace H := am_ H
 obtain ⟨Ao3, co3, eo3⟩ := Kd.R_slice HO0.out
 subst eo3
 go_enter Tryz.func146, Tryz.ntmps146
 go_wp2
 go_loopg [5, 6] k (fun kq v5 v6 w' => ∃ (x5_1 : Int) (x6_1 : Int), v5 = .int .i64 x5_1 ∧ v6 = .int .i64 x6_1 ∧ Aside0 (dE.l0 kq l0 a1 x5_1 x6_1 = some r) ∧ Aside0 (kq ≤ k) ∧ Aside0 (Kd.R (Kd.int .i64) 3 w' w0.heap.size (fun k_ => (P0_ k_ ∨ w.heap.size ≤ k_)) (.slice Ao3 l0.length co3) l0) ∧ Aside0 (Kept w w' (fun k_ => P0_ k_)) ∧ Aside0 (Below w0.heap.size w0 w'))
 case atStart => exact ⟨(0), ((l0.length : Int)), ra_, ra_, H, ⟨Nat.le_refl _⟩, ⟨rr_ HO0⟩, ⟨by repeat (first | (with_reducible first | exact HK.out | apply Kept.alloc | apply Kept.drewN | apply Kept.drew) | exact HK.out)⟩, ⟨bl_⟩⟩
 case round =>
  clear H
  try clear c1
  try clear p2
  obtain ⟨x5_1, x6_1, rfl, rfl, HA, HK1, HO_0, HK, HB⟩ := hrel
  cases gk with
  | zero => exact absurd HA.out (by simp [dE.l0])
  | succ k1 =>
   have H := HA.out
   clear HA
   simp only [dE.l0] at H
   by_cases c4 : x5_1 < x6_1
   · rw [if_pos c4] at H
     have c4b0 := decide_eq_true c4
     clear c4
     obtain ⟨ji5, hji5⟩ : ∃ j_ : Int, (wrap64 (Int.tdiv (wrap64 (x5_1 + x6_1)) 2)) = j_ := ⟨_, rfl⟩
     first | rw [hji5] at H | simp only [hji5] at H
     have hji5w : (IntKind.i64.wrap (Int.tdiv (wrap64 (x5_1 + x6_1)) 2)) = ji5 := (i64_w _).trans hji5
     obtain ⟨c6b0, H⟩ := ifd_ H
     obtain ⟨c7b0, H⟩ := ifd_ H
     by_cases c8 : (rd l0 (ji5)) < a1
     · rw [if_pos c8] at H
       have c8b0 := decide_eq_true c8
       clear c8
       replace H := am_ H
       have p236 := pt_ (ji5)
       have q236 := qt_ (ji5) l0.length
       obtain ⟨ad236, e236, hx236_0⟩ := Kd.at_int (Kd.R_reads' HO_0.out).2.2 (ji5) (oe_ p236) (oe_ q236)
       cases e236
       go_wp2
       go_roundg k1
       case measure => have := HK1.out; omega
       case rel => exact ⟨(wrap64 ((ji5) + 1)), (x6_1), (by first | rfl | (simp; done) | (simp only [← hji5] <;> (first | rfl | simp)) | (simp [*]; done)), ra_, H, ⟨by have := HK1.out; omega⟩, ⟨rr_ HO_0⟩, ⟨by repeat (first | (with_reducible first | exact HK.out | apply Kept.alloc | apply Kept.drewN | apply Kept.drew) | exact HK.out)⟩, ⟨bl_⟩⟩
     rw [if_neg c8] at H
     have c8b0 := decide_eq_false c8
     clear c8
     replace H := am_ H
     have p236 := pt_ (ji5)
     have q236 := qt_ (ji5) l0.length
     obtain ⟨ad236, e236, hx236_0⟩ := Kd.at_int (Kd.R_reads' HO_0.out).2.2 (ji5) (oe_ p236) (oe_ q236)
     cases e236
     go_wp2
     go_roundg k1
     case measure => have := HK1.out; omega
     case rel => exact ⟨(x5_1), (ji5), ra_, (by first | rfl | (simp; done) | (simp only [← hji5] <;> (first | rfl | simp)) | (simp [*]; done)), H, ⟨by have := HK1.out; omega⟩, ⟨rr_ HO_0⟩, ⟨by repeat (first | (with_reducible first | exact HK.out | apply Kept.alloc | apply Kept.drewN | apply Kept.drew) | exact HK.out)⟩, ⟨bl_⟩⟩
   rw [if_neg c4] at H
   have c4b0 := decide_eq_false c4
   clear c4
   by_cases c9 : x5_1 < (l0.length : Int)
   rotate_left
   · rw [if_neg c9] at H
     have c9b0 := decide_eq_false c9
     clear c9
     obtain ⟨c24, H⟩ := ifn_ H
     have c24b0 := eq_true c24
     have c24b1 := decide_eq_true c24
     clear c24
     obtain ⟨c25, H⟩ := ifn_ H
     have c25b0 := eq_true c25
     have c25b1 := decide_eq_true c25
     clear c25
     obtain ⟨y255, hy255⟩ : ∃ y_ : List Int, y_ = (l0.take (x5_1 : Int).toNat) := ⟨_, rfl⟩
     replace H : (if ([] : List Int).length + y255.length < 17592186044416 then ((some (([] : List Int) ++ y255 : List Int)).bind fun y259 => (if y259.length < 17592186044416 then ((some (y259 ++ [a1] : List Int)).bind fun y262 => ((some (l0.drop (x5_1 : Int).toNat : List Int)).bind fun y265 => (if y262.length + y265.length < 17592186044416 then (some (y262 ++ y265)) else (none)))) else (none))) else (none)) = some r := by first | (rw [hy255]; with_reducible exact H) | (have H2_ := (Option.bind_some _ _).symm.trans H; rw [hy255]; with_reducible exact H2_) | (have H2_ := (Option.bind_some _ _).symm.trans H; with_reducible exact H2_) | with_reducible exact H | (rw [hy255]; exact H) | exact H
     have Ny255 := am_ hy255
     clear hy255
     obtain ⟨LMc26, H⟩ := ifa_ H
     obtain ⟨y259, hy259⟩ : ∃ y_ : List Int, y_ = (([] : List Int) ++ y255) := ⟨_, rfl⟩
     replace H : (if y259.length < 17592186044416 then ((some (y259 ++ [a1] : List Int)).bind fun y262 => ((some (l0.drop (x5_1 : Int).toNat : List Int)).bind fun y265 => (if y262.length + y265.length < 17592186044416 then (some (y262 ++ y265)) else (none)))) else (none)) = some r := by first | (rw [hy259]; with_reducible exact H) | (have H2_ := (Option.bind_some _ _).symm.trans H; rw [hy259]; with_reducible exact H2_) | (have H2_ := (Option.bind_some _ _).symm.trans H; with_reducible exact H2_) | with_reducible exact H | (rw [hy259]; exact H) | exact H
     have Ny259 := am_ hy259
     clear hy259
     obtain ⟨LMc27, H⟩ := ifa_ H
     obtain ⟨y262, hy262⟩ : ∃ y_ : List Int, y_ = (y259 ++ [a1]) := ⟨_, rfl⟩
     replace H : ((some (l0.drop (x5_1 : Int).toNat : List Int)).bind fun y265 => (if y262.length + y265.length < 17592186044416 then (some (y262 ++ y265)) else (none))) = some r := by first | (rw [hy262]; with_reducible exact H) | (have H2_ := (Option.bind_some _ _).symm.trans H; rw [hy262]; with_reducible exact H2_) | (have H2_ := (Option.bind_some _ _).symm.trans H; with_reducible exact H2_) | with_reducible exact H | (rw [hy262]; exact H) | exact H
     have Ny262 := am_ hy262
     clear hy262
     have c28b0 := eq_true (dt_ : 0 ≤ x5_1)
     have c29b0 := eq_true (dt_ : x5_1 ≤ (l0.length : Int))
     obtain ⟨y265, hy265⟩ : ∃ y_ : List Int, y_ = (l0.drop (x5_1 : Int).toNat) := ⟨_, rfl⟩
     replace H : (if y262.length + y265.length < 17592186044416 then (some (y262 ++ y265)) else (none)) = some r := by first | (rw [hy265]; with_reducible exact H) | (have H2_ := (Option.bind_some _ _).symm.trans H; rw [hy265]; with_reducible exact H2_) | (have H2_ := (Option.bind_some _ _).symm.trans H; with_reducible exact H2_) | with_reducible exact H | (rw [hy265]; exact H) | exact H
     have Ny265 := am_ hy265
     clear hy265
     obtain ⟨LMc30, H⟩ := ifa_ H
     obtain ⟨y269, hy269⟩ : ∃ y_ : List Int, y_ = (y262 ++ y265) := ⟨_, rfl⟩
     replace H : (some y269) = some r := by first | (rw [hy269]; with_reducible exact H) | (have H2_ := (Option.bind_some _ _).symm.trans H; rw [hy269]; with_reducible exact H2_) | (have H2_ := (Option.bind_some _ _).symm.trans H; with_reducible exact H2_) | with_reducible exact H | (rw [hy269]; exact H) | exact H
     have Ny269 := am_ hy269
     clear hy269
     obtain rfl := sj_ H
     have q31 : (x5_1 : Int) ≤ ((l0.length : Int) : Int) := dt_
     obtain ⟨i031, hi031, _, hsz31, _⟩ := info_parts info3
     have hroom31 : l0.length ≤ co3 := (Kd.R_reads' HO_0.out).2.1
     have hC31 : Kd.C (Kd.int .i64) _ Ao3 l0.length l0 := (Kd.R_reads' HO_0.out).2.2
     have hcut31 := cut_to (P := Tryz.prog) 72 3 .i64 Tryz.underlying72 hi031 Ao3 l0.length co3 x5_1 (dt_) q31 hroom31
     have hr31 := Kd.C_take (m := (x5_1 : Int).toNat) hC31 (by omega)
     have hy31 : y255.length = (x5_1 : Int).toNat := (by rw [Ny255.out, List.length_take]; omega)
     rw [← Ny255.out] at hr31
     rw [← hy31] at hcut31
     have HR258 := am_ hr31
     have HC258 := am_ (show y255.length ≤ co3 from by omega)
     clear hr31 hC31 hroom31 hi031 hsz31
     have KY31 := am_ hy31
     clear hy31
     have KL31 := am_ (show (x5_1 : Int).toNat ≤ l0.length from by omega)
     replace q31 := eq_true q31
     go_wp2_with (first | ((with_reducible refine gate_builtin (b := .append) (xs := #[.tmp 40, .tmp 43]) rfl ?_); at_builtin; refine Kd.R_append_rows (Kd.int .i64) (w0 := w0) w0.heap.size rfl (.tmp 40) (.tmp 43) 72 3 (.int .i64 0) 8 rfl Tryz.underlying72 info3 rfl (by decide) (by omega) (.slice none 0 0) ([] : List Int) y255 _ _ _ (fun k_ => (P0_ k_ ∨ w.heap.size ≤ k_) ∧ some k_ ≠ (.slice Ao3 l0.length co3 : Value).ownBlock) (fun _ => False) rfl rfl ?aO ?aR (fun _ _ h => h) (fun _ h => h.elim) ?aF ?aB ?aS ?aL ?_; (case aR => repeat (first | exact (by repeat (first | (with_reducible exact HR258.out) | (with_reducible refine Kd.C_alloc ?_ _) | (with_reducible refine Kd.C_drewN ?_ _) | (with_reducible refine Kd.C_drew ?_) | exact HR258.out)) | (with_reducible refine Kd.C_alloc ?_ _) | (with_reducible refine Kd.C_drewN ?_ _) | (with_reducible refine Kd.C_drew ?_))); (case aB => exact bl_); (case aF => exact (fun k_ hk => ⟨(.inr (Nat.le_trans (by first | exact HK.out.1 | exact (show Kept w _ (fun k_ => P0_ k_) from by repeat (first | (with_reducible first | exact HK.out | apply Kept.alloc | apply Kept.drewN | apply Kept.drew) | exact HK.out)).1) hk)), Kd.fresh' (Kd.R_lt (rr_ HO_0)) k_ hk⟩)); (case aO => exact ((Kd.R_nil _ _ _ _ (fun k_ => (P0_ k_ ∨ w.heap.size ≤ k_) ∧ some k_ ≠ (.slice Ao3 l0.length co3 : Value).ownBlock)))); (case aS => exact (below_size bl_)); (case aL => have := LMc26.out; omega); intro v260 w32 ho hb hg hat; rw [← Ny259.out] at ho; have HO261 := am_ (ho); replace HB := am_ (hb); replace HK := am_ (Kept.of_grown (S := (fun k_ => P0_ k_)) hg (by repeat (first | (with_reducible first | exact HK.out | apply Kept.alloc | apply Kept.drewN | apply Kept.drew) | exact HK.out)) (fun k_ e_ => by simp [Value.ownBlock] at e_)); replace HR258 := am_ ((show Kd.C (Kd.int .i64) w32 Ao3 y255.length y255 from by rw [Ny255.out]; exact Kd.C_take (m := (x5_1 : Int).toNat) ((Kd.R_reads' (Kd.R_after (Kd.R_apart_nil (rr_ HO_0)) hg hat)).2.2) KL31.out)); replace HO_0 := am_ (Kd.R_after (Kd.R_apart_nil (rr_ HO_0)) hg hat); clear ho hb hg hat) | ((with_reducible refine gate_builtin (b := .append) (xs := #[.tmp 45, .tmp 47]) rfl ?_); at_builtin; refine Kd.R_append (Kd.int .i64) (w0 := w0) w0.heap.size rfl (.tmp 45) (.tmp 47) 72 3 (.int .i64 0) 8 rfl Tryz.underlying72 info3 rfl (by decide) (by omega) v260 y259 a1 [.int .i64 a1] (fun k_ => (P0_ k_ ∨ w.heap.size ≤ k_) ∧ some k_ ≠ (.slice Ao3 l0.length co3 : Value).ownBlock) (fun _ => False) rfl rfl ?aP (fun _ hk => hk.elim) ?aF ?aO ?aB ?aS ?aL ?_; (case aP => exact rfl); (case aB => exact bl_); (case aF => exact (fun k_ hk => ⟨(.inr (Nat.le_trans (by first | exact HK.out.1 | exact (show Kept w _ (fun k_ => P0_ k_) from by repeat (first | (with_reducible first | exact HK.out | apply Kept.alloc | apply Kept.drewN | apply Kept.drew) | exact HK.out)).1) hk)), Kd.fresh' (Kd.R_lt (rr_ HO_0)) k_ hk⟩)); (case aO => exact (rr_ HO261)); (case aS => exact (below_size bl_)); (case aL => have := LMc27.out; omega); intro v263 w33 ho hb hg hat; rw [← Ny262.out] at ho; have n0_ := am_ (Kd.R_after (ok := (fun k_ => (P0_ k_ ∨ w.heap.size ≤ k_))) (rr_ HO_0) hg hat); have n1_ := am_ (hb); have n2_ := am_ (Kept.of_grown (S := (fun k_ => P0_ k_)) hg (by repeat (first | (with_reducible first | exact HK.out | apply Kept.alloc | apply Kept.drewN | apply Kept.drew) | exact HK.out)) (fun k_ e_ => (HO261.out.1 k_ e_).1)); have n3_ := am_ ((show Kd.C (Kd.int .i64) w33 Ao3 y255.length y255 from by rw [Ny255.out]; exact Kd.C_take (m := (x5_1 : Int).toNat) ((Kd.R_reads' (Kd.R_after (ok := (fun k_ => (P0_ k_ ∨ w.heap.size ≤ k_))) (rr_ HO_0) hg hat)).2.2) KL31.out)); have n4_ := am_ (ho); clear HO_0; clear HB; clear HK; clear HR258; clear HO261; have HO_0 := n0_; have HB := n1_; have HK := n2_; have HR258 := n3_; have HO264 := n4_; clear n0_ n1_ n2_ n3_ n4_; clear ho hb hg hat; have q34 : (x5_1 : Int) ≤ ((l0.length : Int) : Int) := dt_; obtain ⟨i034, hi034, _, hsz34, _⟩ := info_parts info3; have hroom34 : l0.length ≤ co3 := (Kd.R_reads' HO_0.out).2.1; have hC34 : Kd.C (Kd.int .i64) _ Ao3 l0.length l0 := (Kd.R_reads' HO_0.out).2.2; have q034 : (0 : Int) ≤ (x5_1 : Int) := dt_; have hcut34 := cut_from (P := Tryz.prog) 72 3 .i64 Tryz.underlying72 hi034 1 hsz34 Ao3 l0.length co3 x5_1 q034 q34; have hr34 := Kd.C_drop (m := (x5_1 : Int).toNat) (c := co3) hC34 (by omega) hroom34; obtain ⟨A34, hA34⟩ : ∃ A1, A1 = (if co3 = (x5_1 : Int).toNat then Ao3 else (Ao3 : Option Addr).map (·.add ((x5_1 : Int).toNat * 1))) := ⟨_, rfl⟩; obtain ⟨c34, hc34⟩ : ∃ c1, c1 = co3 - (x5_1 : Int).toNat := ⟨_, rfl⟩; have hy34 : y265.length = l0.length - (x5_1 : Int).toNat := (by rw [Ny265.out, List.length_drop] <;> omega); rw [show (l0).drop (x5_1 : Int).toNat = y265 from Ny265.out.symm] at hr34; replace hr34 : Kd.C (Kd.int .i64) _ A34 y265.length y265 := (by rw [hA34]; exact hr34); rw [← hy34, ← hA34, ← hc34] at hcut34; have HR268 := am_ hr34; have HC268 := am_ (show y265.length ≤ c34 from by rw [hy34, hc34]; exact Nat.sub_le_sub_right hroom34 _); clear hr34 hC34 hroom34 hi034 hsz34 hc34; have KY34 := am_ hy34; have KA34 := am_ hA34; clear hy34 hA34; have KL34 := am_ (show (x5_1 : Int).toNat ≤ l0.length from by omega); replace q34 := eq_true q34) | ((with_reducible refine gate_builtin (b := .append) (xs := #[.tmp 49, .tmp 52]) rfl ?_); at_builtin; refine Kd.R_append_rows (Kd.int .i64) (w0 := w0) w0.heap.size rfl (.tmp 49) (.tmp 52) 72 3 (.int .i64 0) 8 rfl Tryz.underlying72 info3 rfl (by decide) (by omega) v263 y262 y265 _ _ _ (fun k_ => (P0_ k_ ∨ w.heap.size ≤ k_) ∧ some k_ ≠ (.slice Ao3 l0.length co3 : Value).ownBlock) (fun _ => False) rfl rfl ?aO ?aR (fun _ _ h => h) (fun _ h => h.elim) ?aF ?aB ?aS ?aL ?_; (case aR => repeat (first | exact (by repeat (first | (with_reducible exact HR268.out) | (with_reducible refine Kd.C_alloc ?_ _) | (with_reducible refine Kd.C_drewN ?_ _) | (with_reducible refine Kd.C_drew ?_) | exact HR268.out)) | (with_reducible refine Kd.C_alloc ?_ _) | (with_reducible refine Kd.C_drewN ?_ _) | (with_reducible refine Kd.C_drew ?_))); (case aB => exact bl_); (case aF => exact (fun k_ hk => ⟨(.inr (Nat.le_trans (by first | exact HK.out.1 | exact (show Kept w _ (fun k_ => P0_ k_) from by repeat (first | (with_reducible first | exact HK.out | apply Kept.alloc | apply Kept.drewN | apply Kept.drew) | exact HK.out)).1) hk)), Kd.fresh' (Kd.R_lt (rr_ HO_0)) k_ hk⟩)); (case aO => exact (rr_ HO264)); (case aS => exact (below_size bl_)); (case aL => have := LMc30.out; omega); intro v270 w35 ho hb hg hat; rw [← Ny269.out] at ho; have n0_ := am_ (Kd.R_after (ok := (fun k_ => (P0_ k_ ∨ w.heap.size ≤ k_))) (rr_ HO_0) hg hat); have n1_ := am_ (hb); have n2_ := am_ (Kept.of_grown (S := (fun k_ => P0_ k_)) hg (by repeat (first | (with_reducible first | exact HK.out | apply Kept.alloc | apply Kept.drewN | apply Kept.drew) | exact HK.out)) (fun k_ e_ => (HO264.out.1 k_ e_).1)); have n3_ := am_ ((show Kd.C (Kd.int .i64) w35 Ao3 y255.length y255 from by rw [Ny255.out]; exact Kd.C_take (m := (x5_1 : Int).toNat) ((Kd.R_reads' (Kd.R_after (ok := (fun k_ => (P0_ k_ ∨ w.heap.size ≤ k_))) (rr_ HO_0) hg hat)).2.2) KL31.out)); have n4_ := am_ ((show Kd.C (Kd.int .i64) w35 A34 y265.length y265 from by rw [Ny265.out, KA34.out]; exact Kd.C_drop (m := (x5_1 : Int).toNat) (c := co3) ((Kd.R_reads' (Kd.R_after (ok := (fun k_ => (P0_ k_ ∨ w.heap.size ≤ k_))) (rr_ HO_0) hg hat)).2.2) KL34.out ((Kd.R_reads' (Kd.R_after (ok := (fun k_ => (P0_ k_ ∨ w.heap.size ≤ k_))) (rr_ HO_0) hg hat)).2.1))); have n5_ := am_ (ho); clear HO_0; clear HB; clear HK; clear HR258; clear HR268; clear HO264; have HO_0 := n0_; have HB := n1_; have HK := n2_; have HR258 := n3_; have HR268 := n4_; have HO271 := n5_; clear n0_ n1_ n2_ n3_ n4_ n5_; clear ho hb hg hat))
     go_ret
     exact ⟨_, er_, by (with_reducible repeat (first | apply Kd.R_alloc | apply Kd.R_drewN | apply Kd.R_drew)); exact Kd.R_mono HO271.out (fun _ hk => hk.1), bl_, by repeat (first | (with_reducible first | exact HK.out | apply Kept.alloc | apply Kept.drewN | apply Kept.drew) | exact HK.out)⟩
   rw [if_pos c9] at H
   have c9b0 := decide_eq_true c9
   clear c9
   obtain ⟨c10b0, H⟩ := ifd_ H
   by_cases c11 : (rd l0 x5_1) = a1
   · rw [if_pos c11] at H
     have c11b0 : ((rd l0 x5_1) == a1) = true := beq_iff_eq.mpr c11
     have c11b1 : ((rd l0 x5_1) != a1) = false := bne_eq_false_iff_eq.mpr c11
     clear c11
     obtain rfl := sj_ H
     have p237 := pt_ x5_1
     have q237 := qt_ x5_1 l0.length
     obtain ⟨ad237, e237, hx237_0⟩ := Kd.at_int (Kd.R_reads' HO_0.out).2.2 x5_1 (oe_ p237) (oe_ q237)
     cases e237
     go_wp2
     go_ret
     exact ⟨_, er_, rr_ HO_0, bl_, by repeat (first | (with_reducible first | exact HK.out | apply Kept.alloc | apply Kept.drewN | apply Kept.drew) | exact HK.out)⟩
   rw [if_neg c11] at H
   have c11b0 : ((rd l0 x5_1) == a1) = false := beq_eq_false_iff_ne.mpr c11
   have c11b1 : ((rd l0 x5_1) != a1) = true := bne_iff_ne.mpr c11
   have c12b0 := eq_true (dt_ : 0 ≤ x5_1)
   obtain ⟨c13, H⟩ := ifn_ H
   have c13b0 := eq_true c13
   have c13b1 := decide_eq_true c13
   clear c13
   obtain ⟨y238, hy238⟩ : ∃ y_ : List Int, y_ = (l0.take (x5_1 : Int).toNat) := ⟨_, rfl⟩
   replace H : (if ([] : List Int).length + y238.length < 17592186044416 then ((some (([] : List Int) ++ y238 : List Int)).bind fun y242 => (if y242.length < 17592186044416 then ((some (y242 ++ [a1] : List Int)).bind fun y245 => ((some (l0.drop (x5_1 : Int).toNat : List Int)).bind fun y248 => (if y245.length + y248.length < 17592186044416 then (some (y245 ++ y248)) else (none)))) else (none))) else (none)) = some r := by first | (rw [hy238]; with_reducible exact H) | (have H2_ := (Option.bind_some _ _).symm.trans H; rw [hy238]; with_reducible exact H2_) | (have H2_ := (Option.bind_some _ _).symm.trans H; with_reducible exact H2_) | with_reducible exact H | (rw [hy238]; exact H) | exact H
   have Ny238 := am_ hy238
   clear hy238
   obtain ⟨LMc14, H⟩ := ifa_ H
   obtain ⟨y242, hy242⟩ : ∃ y_ : List Int, y_ = (([] : List Int) ++ y238) := ⟨_, rfl⟩
   replace H : (if y242.length < 17592186044416 then ((some (y242 ++ [a1] : List Int)).bind fun y245 => ((some (l0.drop (x5_1 : Int).toNat : List Int)).bind fun y248 => (if y245.length + y248.length < 17592186044416 then (some (y245 ++ y248)) else (none)))) else (none)) = some r := by first | (rw [hy242]; with_reducible exact H) | (have H2_ := (Option.bind_some _ _).symm.trans H; rw [hy242]; with_reducible exact H2_) | (have H2_ := (Option.bind_some _ _).symm.trans H; with_reducible exact H2_) | with_reducible exact H | (rw [hy242]; exact H) | exact H
   have Ny242 := am_ hy242
   clear hy242
   obtain ⟨LMc15, H⟩ := ifa_ H
   obtain ⟨y245, hy245⟩ : ∃ y_ : List Int, y_ = (y242 ++ [a1]) := ⟨_, rfl⟩
   replace H : ((some (l0.drop (x5_1 : Int).toNat : List Int)).bind fun y248 => (if y245.length + y248.length < 17592186044416 then (some (y245 ++ y248)) else (none))) = some r := by first | (rw [hy245]; with_reducible exact H) | (have H2_ := (Option.bind_some _ _).symm.trans H; rw [hy245]; with_reducible exact H2_) | (have H2_ := (Option.bind_some _ _).symm.trans H; with_reducible exact H2_) | with_reducible exact H | (rw [hy245]; exact H) | exact H
   have Ny245 := am_ hy245
   clear hy245
   have c16b0 := eq_true (dt_ : 0 ≤ x5_1)
   have c17b0 := eq_true (dt_ : x5_1 ≤ (l0.length : Int))
   obtain ⟨y248, hy248⟩ : ∃ y_ : List Int, y_ = (l0.drop (x5_1 : Int).toNat) := ⟨_, rfl⟩
   replace H : (if y245.length + y248.length < 17592186044416 then (some (y245 ++ y248)) else (none)) = some r := by first | (rw [hy248]; with_reducible exact H) | (have H2_ := (Option.bind_some _ _).symm.trans H; rw [hy248]; with_reducible exact H2_) | (have H2_ := (Option.bind_some _ _).symm.trans H; with_reducible exact H2_) | with_reducible exact H | (rw [hy248]; exact H) | exact H
   have Ny248 := am_ hy248
   clear hy248
   obtain ⟨LMc18, H⟩ := ifa_ H
   obtain ⟨y252, hy252⟩ : ∃ y_ : List Int, y_ = (y245 ++ y248) := ⟨_, rfl⟩
   replace H : (some y252) = some r := by first | (rw [hy252]; with_reducible exact H) | (have H2_ := (Option.bind_some _ _).symm.trans H; rw [hy252]; with_reducible exact H2_) | (have H2_ := (Option.bind_some _ _).symm.trans H; with_reducible exact H2_) | with_reducible exact H | (rw [hy252]; exact H) | exact H
   have Ny252 := am_ hy252
   clear hy252
   obtain rfl := sj_ H
   have p237 := pt_ x5_1
   have q237 := qt_ x5_1 l0.length
   obtain ⟨ad237, e237, hx237_0⟩ := Kd.at_int (Kd.R_reads' HO_0.out).2.2 x5_1 (oe_ p237) (oe_ q237)
   cases e237
   have q19 : (x5_1 : Int) ≤ ((l0.length : Int) : Int) := dt_
   obtain ⟨i019, hi019, _, hsz19, _⟩ := info_parts info3
   have hroom19 : l0.length ≤ co3 := (Kd.R_reads' HO_0.out).2.1
   have hC19 : Kd.C (Kd.int .i64) _ (some ad237) l0.length l0 := (Kd.R_reads' HO_0.out).2.2
   have hcut19 := cut_to (P := Tryz.prog) 72 3 .i64 Tryz.underlying72 hi019 (some ad237) l0.length co3 x5_1 (dt_) q19 hroom19
   have hr19 := Kd.C_take (m := (x5_1 : Int).toNat) hC19 (by omega)
   have hy19 : y238.length = (x5_1 : Int).toNat := (by rw [Ny238.out, List.length_take]; omega)
   rw [← Ny238.out] at hr19
   rw [← hy19] at hcut19
   have HR241 := am_ hr19
   have HC241 := am_ (show y238.length ≤ co3 from by omega)
   clear hr19 hC19 hroom19 hi019 hsz19
   have KY19 := am_ hy19
   clear hy19
   have KL19 := am_ (show (x5_1 : Int).toNat ≤ l0.length from by omega)
   replace q19 := eq_true q19
   go_wp2_with (first | ((with_reducible refine gate_builtin (b := .append) (xs := #[.tmp 40, .tmp 43]) rfl ?_); at_builtin; refine Kd.R_append_rows (Kd.int .i64) (w0 := w0) w0.heap.size rfl (.tmp 40) (.tmp 43) 72 3 (.int .i64 0) 8 rfl Tryz.underlying72 info3 rfl (by decide) (by omega) (.slice none 0 0) ([] : List Int) y238 _ _ _ (fun k_ => (P0_ k_ ∨ w.heap.size ≤ k_) ∧ some k_ ≠ (.slice (some ad237) l0.length co3 : Value).ownBlock) (fun _ => False) rfl rfl ?aO ?aR (fun _ _ h => h) (fun _ h => h.elim) ?aF ?aB ?aS ?aL ?_; (case aR => repeat (first | exact (by repeat (first | (with_reducible exact HR241.out) | (with_reducible refine Kd.C_alloc ?_ _) | (with_reducible refine Kd.C_drewN ?_ _) | (with_reducible refine Kd.C_drew ?_) | exact HR241.out)) | (with_reducible refine Kd.C_alloc ?_ _) | (with_reducible refine Kd.C_drewN ?_ _) | (with_reducible refine Kd.C_drew ?_))); (case aB => exact bl_); (case aF => exact (fun k_ hk => ⟨(.inr (Nat.le_trans (by first | exact HK.out.1 | exact (show Kept w _ (fun k_ => P0_ k_) from by repeat (first | (with_reducible first | exact HK.out | apply Kept.alloc | apply Kept.drewN | apply Kept.drew) | exact HK.out)).1) hk)), Kd.fresh' (Kd.R_lt (rr_ HO_0)) k_ hk⟩)); (case aO => exact ((Kd.R_nil _ _ _ _ (fun k_ => (P0_ k_ ∨ w.heap.size ≤ k_) ∧ some k_ ≠ (.slice (some ad237) l0.length co3 : Value).ownBlock)))); (case aS => exact (below_size bl_)); (case aL => have := LMc14.out; omega); intro v243 w20 ho hb hg hat; rw [← Ny242.out] at ho; have HO244 := am_ (ho); replace HB := am_ (hb); replace HK := am_ (Kept.of_grown (S := (fun k_ => P0_ k_)) hg (by repeat (first | (with_reducible first | exact HK.out | apply Kept.alloc | apply Kept.drewN | apply Kept.drew) | exact HK.out)) (fun k_ e_ => by simp [Value.ownBlock] at e_)); replace HR241 := am_ ((show Kd.C (Kd.int .i64) w20 (some ad237) y238.length y238 from by rw [Ny238.out]; exact Kd.C_take (m := (x5_1 : Int).toNat) ((Kd.R_reads' (Kd.R_after (Kd.R_apart_nil (rr_ HO_0)) hg hat)).2.2) KL19.out)); replace HO_0 := am_ (Kd.R_after (Kd.R_apart_nil (rr_ HO_0)) hg hat); clear ho hb hg hat) | ((with_reducible refine gate_builtin (b := .append) (xs := #[.tmp 45, .tmp 47]) rfl ?_); at_builtin; refine Kd.R_append (Kd.int .i64) (w0 := w0) w0.heap.size rfl (.tmp 45) (.tmp 47) 72 3 (.int .i64 0) 8 rfl Tryz.underlying72 info3 rfl (by decide) (by omega) v243 y242 a1 [.int .i64 a1] (fun k_ => (P0_ k_ ∨ w.heap.size ≤ k_) ∧ some k_ ≠ (.slice (some ad237) l0.length co3 : Value).ownBlock) (fun _ => False) rfl rfl ?aP (fun _ hk => hk.elim) ?aF ?aO ?aB ?aS ?aL ?_; (case aP => exact rfl); (case aB => exact bl_); (case aF => exact (fun k_ hk => ⟨(.inr (Nat.le_trans (by first | exact HK.out.1 | exact (show Kept w _ (fun k_ => P0_ k_) from by repeat (first | (with_reducible first | exact HK.out | apply Kept.alloc | apply Kept.drewN | apply Kept.drew) | exact HK.out)).1) hk)), Kd.fresh' (Kd.R_lt (rr_ HO_0)) k_ hk⟩)); (case aO => exact (rr_ HO244)); (case aS => exact (below_size bl_)); (case aL => have := LMc15.out; omega); intro v246 w21 ho hb hg hat; rw [← Ny245.out] at ho; have n0_ := am_ (Kd.R_after (ok := (fun k_ => (P0_ k_ ∨ w.heap.size ≤ k_))) (rr_ HO_0) hg hat); have n1_ := am_ (hb); have n2_ := am_ (Kept.of_grown (S := (fun k_ => P0_ k_)) hg (by repeat (first | (with_reducible first | exact HK.out | apply Kept.alloc | apply Kept.drewN | apply Kept.drew) | exact HK.out)) (fun k_ e_ => (HO244.out.1 k_ e_).1)); have n3_ := am_ ((show Kd.C (Kd.int .i64) w21 (some ad237) y238.length y238 from by rw [Ny238.out]; exact Kd.C_take (m := (x5_1 : Int).toNat) ((Kd.R_reads' (Kd.R_after (ok := (fun k_ => (P0_ k_ ∨ w.heap.size ≤ k_))) (rr_ HO_0) hg hat)).2.2) KL19.out)); have n4_ := am_ (ho); clear HO_0; clear HB; clear HK; clear HR241; clear HO244; have HO_0 := n0_; have HB := n1_; have HK := n2_; have HR241 := n3_; have HO247 := n4_; clear n0_ n1_ n2_ n3_ n4_; clear ho hb hg hat; have q22 : (x5_1 : Int) ≤ ((l0.length : Int) : Int) := dt_; obtain ⟨i022, hi022, _, hsz22, _⟩ := info_parts info3; have hroom22 : l0.length ≤ co3 := (Kd.R_reads' HO_0.out).2.1; have hC22 : Kd.C (Kd.int .i64) _ (some ad237) l0.length l0 := (Kd.R_reads' HO_0.out).2.2; have q022 : (0 : Int) ≤ (x5_1 : Int) := dt_; have hcut22 := cut_from (P := Tryz.prog) 72 3 .i64 Tryz.underlying72 hi022 1 hsz22 (some ad237) l0.length co3 x5_1 q022 q22; have hr22 := Kd.C_drop (m := (x5_1 : Int).toNat) (c := co3) hC22 (by omega) hroom22; obtain ⟨A22, hA22⟩ : ∃ A1, A1 = (if co3 = (x5_1 : Int).toNat then (some ad237) else ((some ad237) : Option Addr).map (·.add ((x5_1 : Int).toNat * 1))) := ⟨_, rfl⟩; obtain ⟨c22, hc22⟩ : ∃ c1, c1 = co3 - (x5_1 : Int).toNat := ⟨_, rfl⟩; have hy22 : y248.length = l0.length - (x5_1 : Int).toNat := (by rw [Ny248.out, List.length_drop] <;> omega); rw [show (l0).drop (x5_1 : Int).toNat = y248 from Ny248.out.symm] at hr22; replace hr22 : Kd.C (Kd.int .i64) _ A22 y248.length y248 := (by rw [hA22]; exact hr22); rw [← hy22, ← hA22, ← hc22] at hcut22; have HR251 := am_ hr22; have HC251 := am_ (show y248.length ≤ c22 from by rw [hy22, hc22]; exact Nat.sub_le_sub_right hroom22 _); clear hr22 hC22 hroom22 hi022 hsz22 hc22; have KY22 := am_ hy22; have KA22 := am_ hA22; clear hy22 hA22; have KL22 := am_ (show (x5_1 : Int).toNat ≤ l0.length from by omega); replace q22 := eq_true q22) | ((with_reducible refine gate_builtin (b := .append) (xs := #[.tmp 49, .tmp 52]) rfl ?_); at_builtin; refine Kd.R_append_rows (Kd.int .i64) (w0 := w0) w0.heap.size rfl (.tmp 49) (.tmp 52) 72 3 (.int .i64 0) 8 rfl Tryz.underlying72 info3 rfl (by decide) (by omega) v246 y245 y248 _ _ _ (fun k_ => (P0_ k_ ∨ w.heap.size ≤ k_) ∧ some k_ ≠ (.slice (some ad237) l0.length co3 : Value).ownBlock) (fun _ => False) rfl rfl ?aO ?aR (fun _ _ h => h) (fun _ h => h.elim) ?aF ?aB ?aS ?aL ?_; (case aR => repeat (first | exact (by repeat (first | (with_reducible exact HR251.out) | (with_reducible refine Kd.C_alloc ?_ _) | (with_reducible refine Kd.C_drewN ?_ _) | (with_reducible refine Kd.C_drew ?_) | exact HR251.out)) | (with_reducible refine Kd.C_alloc ?_ _) | (with_reducible refine Kd.C_drewN ?_ _) | (with_reducible refine Kd.C_drew ?_))); (case aB => exact bl_); (case aF => exact (fun k_ hk => ⟨(.inr (Nat.le_trans (by first | exact HK.out.1 | exact (show Kept w _ (fun k_ => P0_ k_) from by repeat (first | (with_reducible first | exact HK.out | apply Kept.alloc | apply Kept.drewN | apply Kept.drew) | exact HK.out)).1) hk)), Kd.fresh' (Kd.R_lt (rr_ HO_0)) k_ hk⟩)); (case aO => exact (rr_ HO247)); (case aS => exact (below_size bl_)); (case aL => have := LMc18.out; omega); intro v253 w23 ho hb hg hat; rw [← Ny252.out] at ho; have n0_ := am_ (Kd.R_after (ok := (fun k_ => (P0_ k_ ∨ w.heap.size ≤ k_))) (rr_ HO_0) hg hat); have n1_ := am_ (hb); have n2_ := am_ (Kept.of_grown (S := (fun k_ => P0_ k_)) hg (by repeat (first | (with_reducible first | exact HK.out | apply Kept.alloc | apply Kept.drewN | apply Kept.drew) | exact HK.out)) (fun k_ e_ => (HO247.out.1 k_ e_).1)); have n3_ := am_ ((show Kd.C (Kd.int .i64) w23 (some ad237) y238.length y238 from by rw [Ny238.out]; exact Kd.C_take (m := (x5_1 : Int).toNat) ((Kd.R_reads' (Kd.R_after (ok := (fun k_ => (P0_ k_ ∨ w.heap.size ≤ k_))) (rr_ HO_0) hg hat)).2.2) KL19.out)); have n4_ := am_ ((show Kd.C (Kd.int .i64) w23 A22 y248.length y248 from by rw [Ny248.out, KA22.out]; exact Kd.C_drop (m := (x5_1 : Int).toNat) (c := co3) ((Kd.R_reads' (Kd.R_after (ok := (fun k_ => (P0_ k_ ∨ w.heap.size ≤ k_))) (rr_ HO_0) hg hat)).2.2) KL22.out ((Kd.R_reads' (Kd.R_after (ok := (fun k_ => (P0_ k_ ∨ w.heap.size ≤ k_))) (rr_ HO_0) hg hat)).2.1))); have n5_ := am_ (ho); clear HO_0; clear HB; clear HK; clear HR241; clear HR251; clear HO247; have HO_0 := n0_; have HB := n1_; have HK := n2_; have HR241 := n3_; have HR251 := n4_; have HO254 := n5_; clear n0_ n1_ n2_ n3_ n4_ n5_; clear ho hb hg hat))
   go_ret
   exact ⟨_, er_, by (with_reducible repeat (first | apply Kd.R_alloc | apply Kd.R_drewN | apply Kd.R_drew)); exact Kd.R_mono HO254.out (fun _ hk => hk.1), bl_, by repeat (first | (with_reducible first | exact HK.out | apply Kept.alloc | apply Kept.drewN | apply Kept.drew) | exact HK.out)⟩
def bU.l0 : Nat → List (S44) → List Int → Int → Option (List Int)
 | 0, _, _, _ => none
 | k + 1, x0, x3, x4 => if x4 < (x0.length : Int) then (if 0 ≤ x4 then ((dE.f k x3 ((aI x0 x4).f1)).bind fun t273 => ((dE.f k t273 ((aI x0 x4).f3)).bind fun t277 => (bU.l0 k x0 t277 (wrap64 (x4 + 1))))) else (none)) else (some x3)
def bU.f (k : Nat) (l0 : List (S44)) : Option (List Int) := bU.l0 k l0 ([] : List Int) 0
def bU.T5 : Bool × List (List Nat × List Nat) := (true, [([], []), ([], []), ([], []), ([1, 2], [1, 2]), ([3], [3]), ([4], [4]), ([0, 5], [0, 5]), ([], []), ([], []), ([7, 8], [7, 8]), ([9], [9]), ([10], [10]), ([6, 11, 6], [6, 11]), ([12, 12, 0, 1, 2, 3, 4, 5, 6, 7, 8, 9, 10, 11, 12], [0, 12])])
def bU.B5 : List Nat := [0, 0, 0, 6, 14, 30, 63, 0, 0, 384, 896, 1920, 4095, 8191]
theorem bU.tab5 : rtab .any (opsOf Tryz.f116 5) = bU.T5 := by kernel_rfl
theorem bU.bits5 : waitsOk bU.T5.2 bU.B5 = true := by kernel_rfl
theorem bU.calls (k : Nat) (A0 : Option Addr) (c0 : Nat) (l0 : List (S44)) (r : List Int) (w : World) (hG : Tryz.GW w) (hr0 : Kd.C k44 w A0 l0.length l0) (hc0 : l0.length ≤ c0) (h : bU.f k l0 = some r) :
 Calls Tryz.prog 116 #[.slice A0 l0.length c0] w fun e w' => ∃ v0_ : Value, e = .returned (v0_) ∧ Kd.R (Kd.int .i64) 3 w' w.heap.size (fun _ => True) v0_ r ∧ Below w.heap.size w w' := by
 have HR0 := am_ hr0
 have HC0 := am_ hc0
 clear hr0 hc0
 have HG := am_ hG
 clear hG
 have HB := am_ (Below.refl w.heap.size w)
 have H : (bU.l0 k l0 ([] : List Int) 0) = some r := h
 clear h
 replace H := am_ H
 go_enter Tryz.func116, Tryz.ntmps116
 go_wp2
 go_loopg [3, 4] k (fun kq v3 v4 w' => ∃ (x3_1 : List Int) (x4_1 : Int), v4 = .int .i64 x4_1 ∧ Aside0 (bU.l0 kq l0 x3_1 x4_1 = some r) ∧ Aside0 (kq ≤ k) ∧ Aside0 (Kd.R (Kd.int .i64) 3 w' w.heap.size (fun _ => True) v3 x3_1) ∧ Aside0 (Below w.heap.size w w'))
 case atStart => exact ⟨(([] : List Int)), (0), ra_, H, ⟨Nat.le_refl _⟩, ⟨by first | exact Kd.R_nil _ _ _ _ _ | exact Kd.N_nil _ _ _ _ _ | exact Kd.V_nil _ _ _ _ _ | exact Kd.Q_nil _ _ _ _ _ | exact Kd.S_nil _ _ _ _ _⟩, ⟨bl_⟩⟩
 case round =>
  clear H
  try clear c1
  obtain ⟨x3_1, x4_1, rfl, HA, HK1, HO_3, HB⟩ := hrel
  cases gk with
  | zero => exact absurd HA.out (by simp [bU.l0])
  | succ k1 =>
   have H := HA.out
   clear HA
   simp only [bU.l0] at H
   by_cases c2 : x4_1 < (l0.length : Int)
   rotate_left
   · rw [if_neg c2] at H
     have c2b0 := decide_eq_false c2
     clear c2
     obtain rfl := sj_ H
     go_wp2
     go_ret
     exact ⟨_, er_, rr_ HO_3, bl_⟩
   rw [if_pos c2] at H
   have c2b0 := decide_eq_true c2
   clear c2
   obtain ⟨c3b0, H⟩ := ifd_ H
   obtain ⟨t273, A4, H⟩ := bs_ H
   obtain ⟨t277, A5, H⟩ := bs_ H
   replace H := am_ H
   try go_wp2
   replace HO_3 := am_ (Kd.R_drew HO_3.out)
   replace HB := am_ (below_drew1 HB.out)
   have p272 := pt_ x4_1
   have q272 := qt_ x4_1 l0.length
   obtain ⟨ad272, e272, hx272_0, hx272_1, hx272_2, hx272_3⟩ := dS HR0.out x4_1 (oe_ p272) (oe_ q272)
   have hw272_3 := hx272_3
   have hw272_2 := hx272_2
   have hw272_1 := hx272_1
   have hw272_0 := hx272_0
   cases e272
   replace hx272_0 := ce_ HB hx272_0
   replace hx272_1 := ce_ HB hx272_1
   replace hx272_2 := ce_ HB hx272_2
   replace hx272_3 := ce_ HB hx272_3
   have p276 := pt_ x4_1
   have q276 := qt_ x4_1 l0.length
   obtain ⟨ad276, e276, hx276_0, hx276_1, hx276_2, hx276_3⟩ := dS HR0.out x4_1 (oe_ p276) (oe_ q276)
   have hw276_3 := hx276_3
   have hw276_2 := hx276_2
   have hw276_1 := hx276_1
   have hw276_0 := hx276_0
   obtain rfl : ad272 = ad276 := (by injection e276)
   replace hx276_0 := ce_ HB hx276_0
   replace hx276_1 := ce_ HB hx276_1
   replace hx276_2 := ce_ HB hx276_2
   replace hx276_3 := ce_ HB hx276_3
   obtain ⟨Ao7, co7, eo7⟩ := Kd.R_slice HO_3.out
   (first | subst eo7 | (injection eo7 with f1_ f2_ f3_; have f4_ := f1_.symm; have f5_ := f3_.symm; clear f1_ f2_ f3_; subst f4_; subst f5_))
   refine start_ (n := 14) (S := fun w' => w'.cell? (ad272.add ((x4_1).toNat * 4)) = some (.int .i64 ((aI l0 x4_1).f0)) ∧ w'.cell? ⟨(ad272.add ((x4_1).toNat * 4)).block, (ad272.add ((x4_1).toNat * 4)).off + 1, none⟩ = some (.int .i64 ((aI l0 x4_1).f1)) ∧ w'.cell? ⟨(ad272.add ((x4_1).toNat * 4)).block, (ad272.add ((x4_1).toNat * 4)).off + 2, none⟩ = some (.int .i64 ((aI l0 x4_1).f2)) ∧ w'.cell? ⟨(ad272.add ((x4_1).toNat * 4)).block, (ad272.add ((x4_1).toNat * 4)).off + 3, none⟩ = some (.int .i64 ((aI l0 x4_1).f3)) ∧ w'.cell? (ad272.add ((x4_1).toNat * 4)) = some (.int .i64 ((aI l0 x4_1).f0)) ∧ w'.cell? ⟨(ad272.add ((x4_1).toNat * 4)).block, (ad272.add ((x4_1).toNat * 4)).off + 1, none⟩ = some (.int .i64 ((aI l0 x4_1).f1)) ∧ w'.cell? ⟨(ad272.add ((x4_1).toNat * 4)).block, (ad272.add ((x4_1).toNat * 4)).off + 2, none⟩ = some (.int .i64 ((aI l0 x4_1).f2)) ∧ w'.cell? ⟨(ad272.add ((x4_1).toNat * 4)).block, (ad272.add ((x4_1).toNat * 4)).off + 3, none⟩ = some (.int .i64 ((aI l0 x4_1).f3))) (ds := []) (bv 14 0) (by kernel_rfl) rfl rfl ⟨(ce_ HB hw272_0), (ce_ HB hw272_1), (ce_ HB hw272_2), (ce_ HB hw272_3), (ce_ HB hw276_0), (ce_ HB hw276_1), (ce_ HB hw276_2), (ce_ HB hw276_3)⟩ (fun hHeld => ?_); refine with_tabW bU.tab5 bU.bits5 (fun HT_ HW_ => ?_)
   generalize wr.drew = w6 at HO_3 HB hx272_0 hx272_1 hx272_2 hx272_3 hx276_0 hx276_1 hx276_2 hx276_3 hHeld ⊢
   refine pu_ 0 11 (bv 14 1) ?_
   refine pu_ 1 12 (bv 14 3) ?_
   refine pu_ 2 13 (bv 14 7) ?_
   refine pu_ 3 14 (bv 14 15) ?_
   refine pu_ 4 15 (bv 14 31) ?_
   refine pu_ 7 18 (bv 14 159) ?_
   refine pu_ 8 19 (bv 14 415) ?_
   refine pu_ 9 20 (bv 14 927) ?_
   refine pu_ 10 21 (bv 14 1951) ?_
   refine tk_ 5 16 (bv 14 1983) hHeld ?_
   refine tk_ 11 22 (bv 14 4031) hHeld ?_
   refine one_ (i := 6) (N := some 17) (bv 14 4095) rfl rfl (one_of HT_.out (by kernel_rfl)) (by decide) (fun K hK => ?_)
   refine goes_ Tryz.func146 (by kernel_rfl) rfl #[.slice Ao7 x3_1.length co7, .int .i64 ((aI l0 x4_1).f1)] (by rfl) rfl rfl (by (try simp only [List.map_toArray, List.map_cons, List.map_nil]); first | done | rfl | (simp only [List.length_drop, List.length_take]; rfl)) ?_
   with_reducible refine (dE.calls k1 (fun k_ => some k_ = (.slice Ao7 x3_1.length co7 : Value).ownBlock) (.slice Ao7 x3_1.length co7) x3_1 ((aI l0 x4_1).f1) t273 w _ ?s1 ?s2 ?s3 A4.out).mono ?_
   (case s1 => exact HG.out)
   (case s2 => repeat (first | (with_reducible first | exact HB.out | apply below_alloc | apply pw_below_drewN | apply below_drew1) | exact HB.out))
   (case s3 => exact Kd.R_tight rfl HO_3.out)
   rintro e w8 ⟨v274, rfl, ho0, hb, hkp⟩
   refine ⟨_, rfl, ?_⟩
   have n0_ := am_ (Kd.R_mono (ok' := fun k_ => True) ho0 (fun k_ hk_ => trivial))
   have n1_ := am_ (hb)
   clear HB
   clear HO_3
   have HO275 := n0_
   have HB := n1_
   clear n0_ n1_
   (try clear hb)
   (try clear hkp)
   (try clear ho0)
   obtain ⟨Ao9, co9, eo9⟩ := Kd.R_slice HO275.out
   (first | subst eo9 | (injection eo9 with f1_ f2_ f3_; have f4_ := f1_.symm; have f5_ := f3_.symm; clear f1_ f2_ f3_; subst f4_; subst f5_))
   refine hK.out _ _ ⟨(ce_ HB hw272_0), (ce_ HB hw272_1), (ce_ HB hw272_2), (ce_ HB hw272_3), (ce_ HB hw276_0), (ce_ HB hw276_1), (ce_ HB hw276_2), (ce_ HB hw276_3)⟩ (fun hHeld => ?_)
   clear hK K
   refine norm_ (a' := ?_) ?_ ?_
   rotate_left
   · show Act.put _ (some 17) _ = _
     simp only [Act.put, List.setIfInBounds_toArray, List.set_cons_zero, List.set_cons_succ, i64_w, i32_w]
     rfl
   refine one_ (i := 12) (N := some 23) (bv 14 8191) rfl rfl (one_of HT_.out (by kernel_rfl)) (by decide) (fun K hK => ?_)
   refine goes_ Tryz.func146 (by kernel_rfl) rfl #[.slice Ao9 t273.length co9, .int .i64 ((aI l0 x4_1).f3)] (by rfl) rfl rfl (by (try simp only [List.map_toArray, List.map_cons, List.map_nil]); first | done | rfl | (simp only [List.length_drop, List.length_take]; rfl)) ?_
   with_reducible refine (dE.calls k1 (fun k_ => some k_ = (.slice Ao9 t273.length co9 : Value).ownBlock) (.slice Ao9 t273.length co9) t273 ((aI l0 x4_1).f3) t277 w _ ?s1 ?s2 ?s3 A5.out).mono ?_
   (case s1 => exact HG.out)
   (case s2 => repeat (first | (with_reducible first | exact HB.out | apply below_alloc | apply pw_below_drewN | apply below_drew1) | exact HB.out))
   (case s3 => exact Kd.R_tight rfl HO275.out)
   rintro e w10 ⟨v278, rfl, ho0, hb, hkp⟩
   refine ⟨_, rfl, ?_⟩
   have n0_ := am_ (Kd.R_mono (ok' := fun k_ => True) ho0 (fun k_ hk_ => trivial))
   have n1_ := am_ (hb)
   clear HB
   clear HO275
   have HO279 := n0_
   have HB := n1_
   clear n0_ n1_
   (try clear hb)
   (try clear hkp)
   (try clear ho0)
   refine hK.out _ _ ⟨(ce_ HB hw272_0), (ce_ HB hw272_1), (ce_ HB hw272_2), (ce_ HB hw272_3), (ce_ HB hw276_0), (ce_ HB hw276_1), (ce_ HB hw276_2), (ce_ HB hw276_3)⟩ (fun hHeld => ?_)
   clear hK K
   refine norm_ (a' := ?_) ?_ ?_
   rotate_left
   · show Act.put _ (some 23) _ = _
     simp only [Act.put, List.setIfInBounds_toArray, List.set_cons_zero, List.set_cons_succ, i64_w, i32_w]
     rfl
   refine pu_ 13 3 (bv 14 16383) ?_
   refine done_ (done_of HT_.out (by kernel_rfl)) ?_
   try go_wp2
   go_roundg k1
   case measure => have := HK1.out; omega
   case rel => exact ⟨(t277), (wrap64 (x4_1 + 1)), ra_, H, ⟨by have := HK1.out; omega⟩, ⟨rr_ HO279⟩, ⟨bl_⟩⟩
def bV.l0 : Nat → List (S171) → List (S171) → Int → Option (Bool)
 | 0, _, _, _ => none
 | k + 1, x0, x1, x5 => if x5 < (x0.length : Int) then (if 0 ≤ x5 then (if x5 < (x1.length : Int) then (if (!(((dC x0 x5).f0) == ((dC x1 x5).f0)) || (!(((dC x0 x5).f1) == ((dC x1 x5).f1)))) = true then (some false) else (bV.l0 k x0 x1 (wrap64 (x5 + 1)))) else (none)) else (none)) else (some true)
def bV.f (k : Nat) (l0 : List (S171)) (l1 : List (S171)) : Option (Bool) := if (l0.length : Int) = (l1.length : Int) then (bV.l0 k l0 l1 0) else (some false)
theorem bV.calls (k : Nat) (A0 : Option Addr) (c0 : Nat) (l0 : List (S171)) (A1 : Option Addr) (c1 : Nat) (l1 : List (S171)) (r : Bool) (w : World) (hG : Tryz.GW w) (hr0 : Kd.C k171 w A0 l0.length l0) (hc0 : l0.length ≤ c0) (hr1 : Kd.C k171 w A1 l1.length l1) (hc1 : l1.length ≤ c1) (h : bV.f k l0 l1 = some r) :
 Calls Tryz.prog 147 #[.slice A0 l0.length c0, .slice A1 l1.length c1] w fun e w' => e = .returned (.bool r) ∧ Drawn0 w w' := by
 have hu171 := Tryz.underlying171
 have HR0 := am_ hr0
 have HC0 := am_ hc0
 clear hr0 hc0
 have HR1 := am_ hr1
 have HC1 := am_ hc1
 clear hr1 hc1
 have HG := am_ hG
 clear hG
 have H : (if (l0.length : Int) = (l1.length : Int) then (bV.l0 k l0 l1 0) else (some false)) = some r := h
 clear h
 by_cases c3 : (l0.length : Int) = (l1.length : Int)
 rotate_left
 · rw [if_neg c3] at H
   have c3b0 : ((l0.length : Int) == (l1.length : Int)) = false := beq_eq_false_iff_ne.mpr c3
   have c3b1 : ((l0.length : Int) != (l1.length : Int)) = true := bne_iff_ne.mpr c3
   have c3b2 : (l0.length == l1.length) = false := by first | simpa using c3 | (simp at c3 ⊢; omega)
   obtain rfl := sj_ H
   go_enter Tryz.func147, Tryz.ntmps147
   go_wp2
   repeat (go_quiet (fail); try go_wp2)
   go_ret
   exact ⟨ra_, dr_⟩
 rw [if_pos c3] at H
 have c3b0 : ((l0.length : Int) == (l1.length : Int)) = true := beq_iff_eq.mpr c3
 have c3b1 : ((l0.length : Int) != (l1.length : Int)) = false := bne_eq_false_iff_eq.mpr c3
 have c3b2 : (l0.length == l1.length) = true := by first | simpa using c3 | (simp at c3 ⊢; omega)
 clear c3
 replace H := am_ H
 go_enter Tryz.func147, Tryz.ntmps147
 go_wp2
 repeat (go_quiet (fail); try go_wp2)
 go_loopg [5] k (fun kq v5 w' => ∃ (x5_1 : Int), v5 = .int .i64 x5_1 ∧ Aside0 (bV.l0 kq l0 l1 x5_1 = some r) ∧ Aside0 (kq ≤ k) ∧ Drawn0 w w')
 case atStart => exact ⟨(0), ra_, H, ⟨Nat.le_refl _⟩, dr_⟩
 case round =>
  clear H
  try clear c1
  try clear p2
  try clear c3
  try clear c3b0
  try clear c3b1
  try clear c3b2
  obtain ⟨x5_1, rfl, HA, HK1, ⟨m1, rfl⟩⟩ := hrel
  cases gk with
  | zero => exact absurd HA.out (by simp [bV.l0])
  | succ k1 =>
   have H := HA.out
   clear HA
   simp only [bV.l0] at H
   by_cases c4 : x5_1 < (l0.length : Int)
   rotate_left
   · rw [if_neg c4] at H
     have c4b0 := decide_eq_false c4
     clear c4
     obtain rfl := sj_ H
     go_wp2
     repeat (go_quiet (fail); try go_wp2)
     go_ret
     exact ⟨ra_, dr_⟩
   rw [if_pos c4] at H
   have c4b0 := decide_eq_true c4
   clear c4
   obtain ⟨c5b0, H⟩ := ifd_ H
   obtain ⟨c6b0, H⟩ := ifd_ H
   by_cases c7 : (!(((dC l0 x5_1).f0) == ((dC l1 x5_1).f0)) || (!(((dC l0 x5_1).f1) == ((dC l1 x5_1).f1)))) = true
   · rw [if_pos c7] at H
     have c7b0 : (!(((dC l0 x5_1).f0) == ((dC l1 x5_1).f0)) || (!(((dC l0 x5_1).f1) == ((dC l1 x5_1).f1)))) = true := c7
     clear c7
     obtain rfl := sj_ H
     have p280 := pt_ x5_1
     have q280 := qt_ x5_1 l0.length
     obtain ⟨ad280, e280, hx280_0, hx280_1⟩ := fU HR0.out x5_1 (oe_ p280) (oe_ q280)
     cases e280
     have p281 := pt_ x5_1
     have q281 := qt_ x5_1 l1.length
     obtain ⟨ad281, e281, hx281_0, hx281_1⟩ := fU HR1.out x5_1 (oe_ p281) (oe_ q281)
     cases e281
     go_wp2
     repeat (go_quiet (fail); try go_wp2)
     go_ret
     exact ⟨ra_, dr_⟩
   rw [if_neg c7] at H
   have c7b0 : (!(((dC l0 x5_1).f0) == ((dC l1 x5_1).f0)) || (!(((dC l0 x5_1).f1) == ((dC l1 x5_1).f1)))) = false := by simpa using c7
   clear c7
   replace H := am_ H
   have p280 := pt_ x5_1
   have q280 := qt_ x5_1 l0.length
   obtain ⟨ad280, e280, hx280_0, hx280_1⟩ := fU HR0.out x5_1 (oe_ p280) (oe_ q280)
   cases e280
   have p281 := pt_ x5_1
   have q281 := qt_ x5_1 l1.length
   obtain ⟨ad281, e281, hx281_0, hx281_1⟩ := fU HR1.out x5_1 (oe_ p281) (oe_ q281)
   cases e281
   go_wp2
   repeat (go_quiet (fail); try go_wp2)
   go_roundg k1
   case measure => have := HK1.out; omega
   case rel => exact ⟨(wrap64 (x5_1 + 1)), ra_, H, ⟨by have := HK1.out; omega⟩, dr_⟩
end Go.Proofs.YthkeonbmgcphkaaGreatDoor.PM
