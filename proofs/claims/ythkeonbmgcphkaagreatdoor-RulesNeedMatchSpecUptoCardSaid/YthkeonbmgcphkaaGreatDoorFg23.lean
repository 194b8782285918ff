import Derived.Test.YthkeonbmgcphkaaGreatDoorFg6
import Derived.Test.YthkeonbmgcphkaaGreatDoorFg22
namespace Go.Proofs.YthkeonbmgcphkaaGreatDoor.PN
open Go.RowKit Go.Proofs.YthkeonbmgcphkaaGreatDoorW.PrintWords Go.Proofs.YthkeonbmgcphkaaGreatDoorW.PrintLast Go.Proofs.YthkeonbmgcphkaaGreatDoorW.PrintMore
attribute [local go_sem] max2_int min2_int max_two min_two max_three min_three max_four min_four
set_option linter.unusedVariables false
set_option maxHeartbeats 8000000
set_option maxRecDepth 100000
set_option linter.unusedSimpArgs false
attribute [local go_sem high] eqA171
def dL.l0 : Nat → List Int → Int → Int → Int → Option (List Int)
 | 0, _, _, _, _ => none
 | k + 1, x0, x1, x5, x6 => if x5 < x6 then (if 0 ≤ (wrap64 (Int.tdiv (wrap64 (x5 + x6)) 2)) then (if (wrap64 (Int.tdiv (wrap64 (x5 + x6)) 2)) < (x0.length : Int) then (if (rd x0 (wrap64 (Int.tdiv (wrap64 (x5 + x6)) 2))) < x1 then (dL.l0 k x0 x1 (wrap64 ((wrap64 (Int.tdiv (wrap64 (x5 + x6)) 2)) + 1)) x6) else (dL.l0 k x0 x1 x5 (wrap64 (Int.tdiv (wrap64 (x5 + x6)) 2)))) else (none)) else (none)) else (if x5 < (x0.length : Int) then (if 0 ≤ x5 then (if (rd x0 x5) = x1 then (some x0) else (if x5 ≤ (x0.length : Int) then ((some (x0.take (x5 : Int).toNat : List Int)).bind fun y282 => (if ([] : List Int).length + y282.length < 17592186044416 then ((some (([] : List Int) ++ y282 : List Int)).bind fun y286 => (if y286.length < 17592186044416 then ((some (y286 ++ [x1] : List Int)).bind fun y289 => ((some (x0.drop (x5 : Int).toNat : List Int)).bind fun y292 => (if y289.length + y292.length < 17592186044416 then (some (y289 ++ y292)) else (none)))) else (none))) else (none))) else (none))) else (none)) else (if 0 ≤ x5 then (if x5 ≤ (x0.length : Int) then ((some (x0.take (x5 : Int).toNat : List Int)).bind fun y299 => (if ([] : List Int).length + y299.length < 17592186044416 then ((some (([] : List Int) ++ y299 : List Int)).bind fun y303 => (if y303.length < 17592186044416 then ((some (y303 ++ [x1] : List Int)).bind fun y306 => ((some (x0.drop (x5 : Int).toNat : List Int)).bind fun y309 => (if y306.length + y309.length < 17592186044416 then (some (y306 ++ y309)) else (none)))) else (none))) else (none))) else (none)) else (none)))
def dL.f (k : Nat) (l0 : List Int) (a1 : Int) : Option (List Int) := dL.l0 k l0 a1 0 (l0.length : Int)
theorem dL.calls (k : Nat) (P0_ : Nat → Prop) (u9000_ : Value) (l0 : List Int) (a1 : Int) (r : List Int) (w0 w : World) (hG : Tryz.GW w0) (hB : Below w0.heap.size w0 w) (ho0 : Kd.R (Kd.int .i64) 3 w w0.heap.size P0_ u9000_ l0) (h : dL.f k l0 a1 = some r) :
 Calls Tryz.prog 146 #[u9000_, .int .i64 a1] w fun e w' => ∃ v0_ : Value, e = .returned (v0_) ∧ Kd.R (Kd.int .i64) 3 w' w0.heap.size (fun k_ => (P0_ k_ ∨ w.heap.size ≤ k_)) v0_ r ∧ Below w0.heap.size w0 w' ∧ Kept w w' (fun k_ => P0_ k_) := by
 have HO0 := am_ (show Kd.R (Kd.int .i64) 3 w w0.heap.size (fun k_ => (P0_ k_ ∨ w.heap.size ≤ k_)) u9000_ l0 from Kd.R_mono ho0 (fun k_ hk => (.inl hk)))
 have HK := am_ (Kept.refl w (fun k_ => P0_ k_))
 have HG := am_ hG
 clear hG
 have HW0 := am_ hB.size
 have HB := am_ hB
 clear hB
 have H : (dL.l0 k l0 a1 0 (l0.length : Int)) = some r := h
 clear h
 replace H := am_ H
 obtain ⟨Ao3, co3, eo3⟩ := Kd.R_slice HO0.out
 subst eo3
 go_enter Tryz.func146, Tryz.ntmps146
 go_wp2
 go_loopg [5, 6] k (fun kq v5 v6 w' => ∃ (x5_1 : Int) (x6_1 : Int), v5 = .int .i64 x5_1 ∧ v6 = .int .i64 x6_1 ∧ Aside0 (dL.l0 kq l0 a1 x5_1 x6_1 = some r) ∧ Aside0 (kq ≤ k) ∧ Aside0 (Kd.R (Kd.int .i64) 3 w' w0.heap.size (fun k_ => (P0_ k_ ∨ w.heap.size ≤ k_)) (.slice Ao3 l0.length co3) l0) ∧ Aside0 (Kept w w' (fun k_ => P0_ k_)) ∧ Aside0 (Below w0.heap.size w0 w'))
 case atStart => exact ⟨(0), ((l0.length : Int)), ra_, ra_, H, ⟨Nat.le_refl _⟩, ⟨rr_ HO0⟩, ⟨by repeat (first | (with_reducible first | exact HK.out | apply Kept.alloc | apply Kept.drewN | apply Kept.drew) | exact HK.out)⟩, ⟨bl_⟩⟩
 case round =>
  clear H
  try clear c1
  try clear p2
  obtain ⟨x5_1, x6_1, rfl, rfl, HA, HK1, HO_0, HK, HB⟩ := hrel
  cases gk with
  | zero => exact absurd HA.out (by simp [dL.l0])
  | succ k1 =>
   have H := HA.out
   clear HA
   simp only [dL.l0] at H
   by_cases c4 : x5_1 < x6_1
   · rw [if_pos c4] at H
     have c4b0 := decide_eq_true c4
     clear c4
     obtain ⟨ji5, hji5⟩ : ∃ j_ : Int, (wrap64 (Int.tdiv (wrap64 (x5_1 + x6_1)) 2)) = j_ := ⟨_, rfl⟩
     first | rw [hji5] at H | simp only [hji5] at H
     have hji5w : (IntKind.i64.wrap (Int.tdiv (wrap64 (x5_1 + x6_1)) 2)) = ji5 := (i64_w _).trans hji5
     obtain ⟨c6b0, H⟩ := ifd_ H
     obtain ⟨c7b0, H⟩ := ifd_ H
     by_cases c8 : (rd l0 (ji5)) < a1
     · rw [if_pos c8] at H
       have c8b0 := decide_eq_true c8
       clear c8
       replace H := am_ H
       have p280 := pt_ (ji5)
       have q280 := qt_ (ji5) l0.length
       obtain ⟨ad280, e280, hx280_0⟩ := Kd.at_int (Kd.R_reads' HO_0.out).2.2 (ji5) (oe_ p280) (oe_ q280)
       cases e280
       go_wp2
       go_roundg k1
       case measure => have := HK1.out; omega
       case rel => exact ⟨(wrap64 ((ji5) + 1)), (x6_1), (by first | rfl | (simp; done) | (simp only [← hji5] <;> (first | rfl | simp)) | (simp [*]; done)), ra_, H, ⟨by have := HK1.out; omega⟩, ⟨rr_ HO_0⟩, ⟨by repeat (first | (with_reducible first | exact HK.out | apply Kept.alloc | apply Kept.drewN | apply Kept.drew) | exact HK.out)⟩, ⟨bl_⟩⟩
     rw [if_neg c8] at H
     have c8b0 := decide_eq_false c8
     clear c8
     replace H := am_ H
     have p280 := pt_ (ji5)
     have q280 := qt_ (ji5) l0.length
     obtain ⟨ad280, e280, hx280_0⟩ := Kd.at_int (Kd.R_reads' HO_0.out).2.2 (ji5) (oe_ p280) (oe_ q280)
     cases e280
     go_wp2
     go_roundg k1
     case measure => have := HK1.out; omega
     case rel => exact ⟨(x5_1), (ji5), ra_, (by first | rfl | (simp; done) | (simp only [← hji5] <;> (first | rfl | simp)) | (simp [*]; done)), H, ⟨by have := HK1.out; omega⟩, ⟨rr_ HO_0⟩, ⟨by repeat (first | (with_reducible first | exact HK.out | apply Kept.alloc | apply Kept.drewN | apply Kept.drew) | exact HK.out)⟩, ⟨bl_⟩⟩
   rw [if_neg c4] at H
   have c4b0 := decide_eq_false c4
   clear c4
   by_cases c9 : x5_1 < (l0.length : Int)
   rotate_left
   · rw [if_neg c9] at H
     have c9b0 := decide_eq_false c9
     clear c9
     obtain ⟨c24, H⟩ := ifn_ H
     have c24b0 := eq_true c24
     have c24b1 := decide_eq_true c24
     clear c24
     obtain ⟨c25, H⟩ := ifn_ H
     have c25b0 := eq_true c25
     have c25b1 := decide_eq_true c25
     clear c25
     obtain ⟨y299, hy299⟩ : ∃ y_ : List Int, y_ = (l0.take (x5_1 : Int).toNat) := ⟨_, rfl⟩
     replace H : (if ([] : List Int).length + y299.length < 17592186044416 then ((some (([] : List Int) ++ y299 : List Int)).bind fun y303 => (if y303.length < 17592186044416 then ((some (y303 ++ [a1] : List Int)).bind fun y306 => ((some (l0.drop (x5_1 : Int).toNat : List Int)).bind fun y309 => (if y306.length + y309.length < 17592186044416 then (some (y306 ++ y309)) else (none)))) else (none))) else (none)) = some r := by have H2_ := (Option.bind_some _ _).symm.trans H; rw [hy299]; with_reducible exact H2_
     have Ny299 := am_ hy299
     clear hy299
     obtain ⟨LMc26, H⟩ := ifa_ H
     obtain ⟨y303, hy303⟩ : ∃ y_ : List Int, y_ = (([] : List Int) ++ y299) := ⟨_, rfl⟩
     replace H : (if y303.length < 17592186044416 then ((some (y303 ++ [a1] : List Int)).bind fun y306 => ((some (l0.drop (x5_1 : Int).toNat : List Int)).bind fun y309 => (if y306.length + y309.length < 17592186044416 then (some (y306 ++ y309)) else (none)))) else (none)) = some r := by have H2_ := (Option.bind_some _ _).symm.trans H; rw [hy303]; with_reducible exact H2_
     have Ny303 := am_ hy303
     clear hy303
     obtain ⟨LMc27, H⟩ := ifa_ H
     obtain ⟨y306, hy306⟩ : ∃ y_ : List Int, y_ = (y303 ++ [a1]) := ⟨_, rfl⟩
     replace H : ((some (l0.drop (x5_1 : Int).toNat : List Int)).bind fun y309 => (if y306.length + y309.length < 17592186044416 then (some (y306 ++ y309)) else (none))) = some r := by have H2_ := (Option.bind_some _ _).symm.trans H; rw [hy306]; with_reducible exact H2_
     have Ny306 := am_ hy306
     clear hy306
     have c28b0 := eq_true (dt_ : 0 ≤ x5_1)
     have c29b0 := eq_true (dt_ : x5_1 ≤ (l0.length : Int))
     obtain ⟨y309, hy309⟩ : ∃ y_ : List Int, y_ = (l0.drop (x5_1 : Int).toNat) := ⟨_, rfl⟩
     replace H : (if y306.length + y309.length < 17592186044416 then (some (y306 ++ y309)) else (none)) = some r := by have H2_ := (Option.bind_some _ _).symm.trans H; rw [hy309]; with_reducible exact H2_
     have Ny309 := am_ hy309
     clear hy309
     obtain ⟨LMc30, H⟩ := ifa_ H
     obtain ⟨y313, hy313⟩ : ∃ y_ : List Int, y_ = (y306 ++ y309) := ⟨_, rfl⟩
     replace H : (some y313) = some r := by rw [hy313]; with_reducible exact H
     have Ny313 := am_ hy313
     clear hy313
     obtain rfl := sj_ H
     have q31 : (x5_1 : Int) ≤ ((l0.length : Int) : Int) := dt_
     obtain ⟨i031, hi031, _, hsz31, _⟩ := info_parts info3
     have hroom31 : l0.length ≤ co3 := (Kd.R_reads' HO_0.out).2.1
     have hC31 : Kd.C (Kd.int .i64) _ Ao3 l0.length l0 := (Kd.R_reads' HO_0.out).2.2
     have hcut31 := cut_to (P := Tryz.prog) 72 3 .i64 Tryz.underlying72 hi031 Ao3 l0.length co3 x5_1 (dt_) q31 hroom31
     have hr31 := Kd.C_take (m := (x5_1 : Int).toNat) hC31 (by omega)
     have hy31 : y299.length = (x5_1 : Int).toNat := (by rw [Ny299.out, List.length_take]; omega)
     rw [← Ny299.out] at hr31
     rw [← hy31] at hcut31
     have HR302 := am_ hr31
     have HC302 := am_ (show y299.length ≤ co3 from by omega)
     clear hr31 hC31 hroom31 hi031 hsz31
     have KY31 := am_ hy31
     clear hy31
     have KL31 := am_ (show (x5_1 : Int).toNat ≤ l0.length from by omega)
     replace q31 := eq_true q31
     go_wp2_with (first | ((with_reducible refine gate_builtin (b := .append) (xs := #[.tmp 40, .tmp 43]) rfl ?_); at_builtin; refine Kd.R_append_rows (Kd.int .i64) (w0 := w0) w0.heap.size rfl (.tmp 40) (.tmp 43) 72 3 (.int .i64 0) 8 rfl Tryz.underlying72 info3 rfl (by decide) (by omega) (.slice none 0 0) ([] : List Int) y299 _ _ _ (fun k_ => (P0_ k_ ∨ w.heap.size ≤ k_) ∧ some k_ ≠ (.slice Ao3 l0.length co3 : Value).ownBlock) (fun _ => False) rfl rfl ?aO ?aR (fun _ _ h => h) (fun _ h => h.elim) ?aF ?aB ?aS ?aL ?_; (case aR => repeat (first | exact (by repeat (first | (with_reducible exact HR302.out) | (with_reducible refine Kd.C_alloc ?_ _) | (with_reducible refine Kd.C_drewN ?_ _) | (with_reducible refine Kd.C_drew ?_) | exact HR302.out)) | (with_reducible refine Kd.C_alloc ?_ _) | (with_reducible refine Kd.C_drewN ?_ _) | (with_reducible refine Kd.C_drew ?_))); (case aB => exact bl_); (case aF => exact (fun k_ hk => ⟨(.inr (Nat.le_trans (by first | exact HK.out.1 | exact (show Kept w _ (fun k_ => P0_ k_) from by repeat (first | (with_reducible first | exact HK.out | apply Kept.alloc | apply Kept.drewN | apply Kept.drew) | exact HK.out)).1) hk)), Kd.fresh' (Kd.R_lt (rr_ HO_0)) k_ hk⟩)); (case aO => exact ((Kd.R_nil _ _ _ _ (fun k_ => (P0_ k_ ∨ w.heap.size ≤ k_) ∧ some k_ ≠ (.slice Ao3 l0.length co3 : Value).ownBlock)))); (case aS => exact (below_size bl_)); (case aL => have := LMc26.out; omega); intro v304 w32 ho hb hg hat; rw [← Ny303.out] at ho; have HO305 := am_ (ho); replace HB := am_ (hb); replace HK := am_ (Kept.of_grown (S := (fun k_ => P0_ k_)) hg (by repeat (first | (with_reducible first | exact HK.out | apply Kept.alloc | apply Kept.drewN | apply Kept.drew) | exact HK.out)) (fun k_ e_ => by simp [Value.ownBlock] at e_)); replace HR302 := am_ ((show Kd.C (Kd.int .i64) w32 Ao3 y299.length y299 from by rw [Ny299.out]; exact Kd.C_take (m := (x5_1 : Int).toNat) ((Kd.R_reads' (Kd.R_after (Kd.R_apart_nil (rr_ HO_0)) hg hat)).2.2) KL31.out)); replace HO_0 := am_ (Kd.R_after (Kd.R_apart_nil (rr_ HO_0)) hg hat); clear ho hb hg hat) | ((with_reducible refine gate_builtin (b := .append) (xs := #[.tmp 45, .tmp 47]) rfl ?_); at_builtin; refine Kd.R_append (Kd.int .i64) (w0 := w0) w0.heap.size rfl (.tmp 45) (.tmp 47) 72 3 (.int .i64 0) 8 rfl Tryz.underlying72 info3 rfl (by decide) (by omega) v304 y303 a1 [.int .i64 a1] (fun k_ => (P0_ k_ ∨ w.heap.size ≤ k_) ∧ some k_ ≠ (.slice Ao3 l0.length co3 : Value).ownBlock) (fun _ => False) rfl rfl ?aP (fun _ hk => hk.elim) ?aF ?aO ?aB ?aS ?aL ?_; (case aP => exact rfl); (case aB => exact bl_); (case aF => exact (fun k_ hk => ⟨(.inr (Nat.le_trans (by first | exact HK.out.1 | exact (show Kept w _ (fun k_ => P0_ k_) from by repeat (first | (with_reducible first | exact HK.out | apply Kept.alloc | apply Kept.drewN | apply Kept.drew) | exact HK.out)).1) hk)), Kd.fresh' (Kd.R_lt (rr_ HO_0)) k_ hk⟩)); (case aO => exact (rr_ HO305)); (case aS => exact (below_size bl_)); (case aL => have := LMc27.out; omega); intro v307 w33 ho hb hg hat; rw [← Ny306.out] at ho; have n0_ := am_ (Kd.R_after (ok := (fun k_ => (P0_ k_ ∨ w.heap.size ≤ k_))) (rr_ HO_0) hg hat); have n1_ := am_ (hb); have n2_ := am_ (Kept.of_grown (S := (fun k_ => P0_ k_)) hg (by repeat (first | (with_reducible first | exact HK.out | apply Kept.alloc | apply Kept.drewN | apply Kept.drew) | exact HK.out)) (fun k_ e_ => (HO305.out.1 k_ e_).1)); have n3_ := am_ ((show Kd.C (Kd.int .i64) w33 Ao3 y299.length y299 from by rw [Ny299.out]; exact Kd.C_take (m := (x5_1 : Int).toNat) ((Kd.R_reads' (Kd.R_after (ok := (fun k_ => (P0_ k_ ∨ w.heap.size ≤ k_))) (rr_ HO_0) hg hat)).2.2) KL31.out)); have n4_ := am_ (ho); clear HO_0; clear HB; clear HK; clear HR302; clear HO305; have HO_0 := n0_; have HB := n1_; have HK := n2_; have HR302 := n3_; have HO308 := n4_; clear n0_ n1_ n2_ n3_ n4_; clear ho hb hg hat; have q34 : (x5_1 : Int) ≤ ((l0.length : Int) : Int) := dt_; obtain ⟨i034, hi034, _, hsz34, _⟩ := info_parts info3; have hroom34 : l0.length ≤ co3 := (Kd.R_reads' HO_0.out).2.1; have hC34 : Kd.C (Kd.int .i64) _ Ao3 l0.length l0 := (Kd.R_reads' HO_0.out).2.2; have q034 : (0 : Int) ≤ (x5_1 : Int) := dt_; have hcut34 := cut_from (P := Tryz.prog) 72 3 .i64 Tryz.underlying72 hi034 1 hsz34 Ao3 l0.length co3 x5_1 q034 q34; have hr34 := Kd.C_drop (m := (x5_1 : Int).toNat) (c := co3) hC34 (by omega) hroom34; obtain ⟨A34, hA34⟩ : ∃ A1, A1 = (if co3 = (x5_1 : Int).toNat then Ao3 else (Ao3 : Option Addr).map (·.add ((x5_1 : Int).toNat * 1))) := ⟨_, rfl⟩; obtain ⟨c34, hc34⟩ : ∃ c1, c1 = co3 - (x5_1 : Int).toNat := ⟨_, rfl⟩; have hy34 : y309.length = l0.length - (x5_1 : Int).toNat := (by rw [Ny309.out, List.length_drop] <;> omega); rw [show (l0).drop (x5_1 : Int).toNat = y309 from Ny309.out.symm] at hr34; replace hr34 : Kd.C (Kd.int .i64) _ A34 y309.length y309 := (by rw [hA34]; exact hr34); rw [← hy34, ← hA34, ← hc34] at hcut34; have HR312 := am_ hr34; have HC312 := am_ (show y309.length ≤ c34 from by rw [hy34, hc34]; exact Nat.sub_le_sub_right hroom34 _); clear hr34 hC34 hroom34 hi034 hsz34 hc34; have KY34 := am_ hy34; have KA34 := am_ hA34; clear hy34 hA34; have KL34 := am_ (show (x5_1 : Int).toNat ≤ l0.length from by omega); replace q34 := eq_true q34) | ((with_reducible refine gate_builtin (b := .append) (xs := #[.tmp 49, .tmp 52]) rfl ?_); at_builtin; refine Kd.R_append_rows (Kd.int .i64) (w0 := w0) w0.heap.size rfl (.tmp 49) (.tmp 52) 72 3 (.int .i64 0) 8 rfl Tryz.underlying72 info3 rfl (by decide) (by omega) v307 y306 y309 _ _ _ (fun k_ => (P0_ k_ ∨ w.heap.size ≤ k_) ∧ some k_ ≠ (.slice Ao3 l0.length co3 : Value).ownBlock) (fun _ => False) rfl rfl ?aO ?aR (fun _ _ h => h) (fun _ h => h.elim) ?aF ?aB ?aS ?aL ?_; (case aR => repeat (first | exact (by repeat (first | (with_reducible exact HR312.out) | (with_reducible refine Kd.C_alloc ?_ _) | (with_reducible refine Kd.C_drewN ?_ _) | (with_reducible refine Kd.C_drew ?_) | exact HR312.out)) | (with_reducible refine Kd.C_alloc ?_ _) | (with_reducible refine Kd.C_drewN ?_ _) | (with_reducible refine Kd.C_drew ?_))); (case aB => exact bl_); (case aF => exact (fun k_ hk => ⟨(.inr (Nat.le_trans (by first | exact HK.out.1 | exact (show Kept w _ (fun k_ => P0_ k_) from by repeat (first | (with_reducible first | exact HK.out | apply Kept.alloc | apply Kept.drewN | apply Kept.drew) | exact HK.out)).1) hk)), Kd.fresh' (Kd.R_lt (rr_ HO_0)) k_ hk⟩)); (case aO => exact (rr_ HO308)); (case aS => exact (below_size bl_)); (case aL => have := LMc30.out; omega); intro v314 w35 ho hb hg hat; rw [← Ny313.out] at ho; have n0_ := am_ (Kd.R_after (ok := (fun k_ => (P0_ k_ ∨ w.heap.size ≤ k_))) (rr_ HO_0) hg hat); have n1_ := am_ (hb); have n2_ := am_ (Kept.of_grown (S := (fun k_ => P0_ k_)) hg (by repeat (first | (with_reducible first | exact HK.out | apply Kept.alloc | apply Kept.drewN | apply Kept.drew) | exact HK.out)) (fun k_ e_ => (HO308.out.1 k_ e_).1)); have n3_ := am_ ((show Kd.C (Kd.int .i64) w35 Ao3 y299.length y299 from by rw [Ny299.out]; exact Kd.C_take (m := (x5_1 : Int).toNat) ((Kd.R_reads' (Kd.R_after (ok := (fun k_ => (P0_ k_ ∨ w.heap.size ≤ k_))) (rr_ HO_0) hg hat)).2.2) KL31.out)); have n4_ := am_ ((show Kd.C (Kd.int .i64) w35 A34 y309.length y309 from by rw [Ny309.out, KA34.out]; exact Kd.C_drop (m := (x5_1 : Int).toNat) (c := co3) ((Kd.R_reads' (Kd.R_after (ok := (fun k_ => (P0_ k_ ∨ w.heap.size ≤ k_))) (rr_ HO_0) hg hat)).2.2) KL34.out ((Kd.R_reads' (Kd.R_after (ok := (fun k_ => (P0_ k_ ∨ w.heap.size ≤ k_))) (rr_ HO_0) hg hat)).2.1))); have n5_ := am_ (ho); clear HO_0; clear HB; clear HK; clear HR302; clear HR312; clear HO308; have HO_0 := n0_; have HB := n1_; have HK := n2_; have HR302 := n3_; have HR312 := n4_; have HO315 := n5_; clear n0_ n1_ n2_ n3_ n4_ n5_; clear ho hb hg hat))
     go_ret
     exact ⟨_, er_, by (with_reducible repeat (first | apply Kd.R_alloc | apply Kd.R_drewN | apply Kd.R_drew)); exact Kd.R_mono HO315.out (fun _ hk => hk.1), bl_, by repeat (first | (with_reducible first | exact HK.out | apply Kept.alloc | apply Kept.drewN | apply Kept.drew) | exact HK.out)⟩
   rw [if_pos c9] at H
   have c9b0 := decide_eq_true c9
   clear c9
   obtain ⟨c10b0, H⟩ := ifd_ H
   by_cases c11 : (rd l0 x5_1) = a1
   · rw [if_pos c11] at H
     have c11b0 : ((rd l0 x5_1) == a1) = true := beq_iff_eq.mpr c11
     have c11b1 : ((rd l0 x5_1) != a1) = false := bne_eq_false_iff_eq.mpr c11
     clear c11
     obtain rfl := sj_ H
     have p281 := pt_ x5_1
     have q281 := qt_ x5_1 l0.length
     obtain ⟨ad281, e281, hx281_0⟩ := Kd.at_int (Kd.R_reads' HO_0.out).2.2 x5_1 (oe_ p281) (oe_ q281)
     cases e281
     go_wp2
     go_ret
     exact ⟨_, er_, rr_ HO_0, bl_, by repeat (first | (with_reducible first | exact HK.out | apply Kept.alloc | apply Kept.drewN | apply Kept.drew) | exact HK.out)⟩
   rw [if_neg c11] at H
   have c11b0 : ((rd l0 x5_1) == a1) = false := beq_eq_false_iff_ne.mpr c11
   have c11b1 : ((rd l0 x5_1) != a1) = true := bne_iff_ne.mpr c11
   have c12b0 := eq_true (dt_ : 0 ≤ x5_1)
   obtain ⟨c13, H⟩ := ifn_ H
   have c13b0 := eq_true c13
   have c13b1 := decide_eq_true c13
   clear c13
   obtain ⟨y282, hy282⟩ : ∃ y_ : List Int, y_ = (l0.take (x5_1 : Int).toNat) := ⟨_, rfl⟩
   replace H : (if ([] : List Int).length + y282.length < 17592186044416 then ((some (([] : List Int) ++ y282 : List Int)).bind fun y286 => (if y286.length < 17592186044416 then ((some (y286 ++ [a1] : List Int)).bind fun y289 => ((some (l0.drop (x5_1 : Int).toNat : List Int)).bind fun y292 => (if y289.length + y292.length < 17592186044416 then (some (y289 ++ y292)) else (none)))) else (none))) else (none)) = some r := by have H2_ := (Option.bind_some _ _).symm.trans H; rw [hy282]; with_reducible exact H2_
   have Ny282 := am_ hy282
   clear hy282
   obtain ⟨LMc14, H⟩ := ifa_ H
   obtain ⟨y286, hy286⟩ : ∃ y_ : List Int, y_ = (([] : List Int) ++ y282) := ⟨_, rfl⟩
   replace H : (if y286.length < 17592186044416 then ((some (y286 ++ [a1] : List Int)).bind fun y289 => ((some (l0.drop (x5_1 : Int).toNat : List Int)).bind fun y292 => (if y289.length + y292.length < 17592186044416 then (some (y289 ++ y292)) else (none)))) else (none)) = some r := by have H2_ := (Option.bind_some _ _).symm.trans H; rw [hy286]; with_reducible exact H2_
   have Ny286 := am_ hy286
   clear hy286
   obtain ⟨LMc15, H⟩ := ifa_ H
   obtain ⟨y289, hy289⟩ : ∃ y_ : List Int, y_ = (y286 ++ [a1]) := ⟨_, rfl⟩
   replace H : ((some (l0.drop (x5_1 : Int).toNat : List Int)).bind fun y292 => (if y289.length + y292.length < 17592186044416 then (some (y289 ++ y292)) else (none))) = some r := by have H2_ := (Option.bind_some _ _).symm.trans H; rw [hy289]; with_reducible exact H2_
   have Ny289 := am_ hy289
   clear hy289
   have c16b0 := eq_true (dt_ : 0 ≤ x5_1)
   have c17b0 := eq_true (dt_ : x5_1 ≤ (l0.length : Int))
   obtain ⟨y292, hy292⟩ : ∃ y_ : List Int, y_ = (l0.drop (x5_1 : Int).toNat) := ⟨_, rfl⟩
   replace H : (if y289.length + y292.length < 17592186044416 then (some (y289 ++ y292)) else (none)) = some r := by have H2_ := (Option.bind_some _ _).symm.trans H; rw [hy292]; with_reducible exact H2_
   have Ny292 := am_ hy292
   clear hy292
   obtain ⟨LMc18, H⟩ := ifa_ H
   obtain ⟨y296, hy296⟩ : ∃ y_ : List Int, y_ = (y289 ++ y292) := ⟨_, rfl⟩
   replace H : (some y296) = some r := by rw [hy296]; with_reducible exact H
   have Ny296 := am_ hy296
   clear hy296
   obtain rfl := sj_ H
   have p281 := pt_ x5_1
   have q281 := qt_ x5_1 l0.length
   obtain ⟨ad281, e281, hx281_0⟩ := Kd.at_int (Kd.R_reads' HO_0.out).2.2 x5_1 (oe_ p281) (oe_ q281)
   cases e281
   have q19 : (x5_1 : Int) ≤ ((l0.length : Int) : Int) := dt_
   obtain ⟨i019, hi019, _, hsz19, _⟩ := info_parts info3
   have hroom19 : l0.length ≤ co3 := (Kd.R_reads' HO_0.out).2.1
   have hC19 : Kd.C (Kd.int .i64) _ (some ad281) l0.length l0 := (Kd.R_reads' HO_0.out).2.2
   have hcut19 := cut_to (P := Tryz.prog) 72 3 .i64 Tryz.underlying72 hi019 (some ad281) l0.length co3 x5_1 (dt_) q19 hroom19
   have hr19 := Kd.C_take (m := (x5_1 : Int).toNat) hC19 (by omega)
   have hy19 : y282.length = (x5_1 : Int).toNat := (by rw [Ny282.out, List.length_take]; omega)
   rw [← Ny282.out] at hr19
   rw [← hy19] at hcut19
   have HR285 := am_ hr19
   have HC285 := am_ (show y282.length ≤ co3 from by omega)
   clear hr19 hC19 hroom19 hi019 hsz19
   have KY19 := am_ hy19
   clear hy19
   have KL19 := am_ (show (x5_1 : Int).toNat ≤ l0.length from by omega)
   replace q19 := eq_true q19
   go_wp2_with (first | ((with_reducible refine gate_builtin (b := .append) (xs := #[.tmp 40, .tmp 43]) rfl ?_); at_builtin; refine Kd.R_append_rows (Kd.int .i64) (w0 := w0) w0.heap.size rfl (.tmp 40) (.tmp 43) 72 3 (.int .i64 0) 8 rfl Tryz.underlying72 info3 rfl (by decide) (by omega) (.slice none 0 0) ([] : List Int) y282 _ _ _ (fun k_ => (P0_ k_ ∨ w.heap.size ≤ k_) ∧ some k_ ≠ (.slice (some ad281) l0.length co3 : Value).ownBlock) (fun _ => False) rfl rfl ?aO ?aR (fun _ _ h => h) (fun _ h => h.elim) ?aF ?aB ?aS ?aL ?_; (case aR => repeat (first | exact (by repeat (first | (with_reducible exact HR285.out) | (with_reducible refine Kd.C_alloc ?_ _) | (with_reducible refine Kd.C_drewN ?_ _) | (with_reducible refine Kd.C_drew ?_) | exact HR285.out)) | (with_reducible refine Kd.C_alloc ?_ _) | (with_reducible refine Kd.C_drewN ?_ _) | (with_reducible refine Kd.C_drew ?_))); (case aB => exact bl_); (case aF => exact (fun k_ hk => ⟨(.inr (Nat.le_trans (by first | exact HK.out.1 | exact (show Kept w _ (fun k_ => P0_ k_) from by repeat (first | (with_reducible first | exact HK.out | apply Kept.alloc | apply Kept.drewN | apply Kept.drew) | exact HK.out)).1) hk)), Kd.fresh' (Kd.R_lt (rr_ HO_0)) k_ hk⟩)); (case aO => exact ((Kd.R_nil _ _ _ _ (fun k_ => (P0_ k_ ∨ w.heap.size ≤ k_) ∧ some k_ ≠ (.slice (some ad281) l0.length co3 : Value).ownBlock)))); (case aS => exact (below_size bl_)); (case aL => have := LMc14.out; omega); intro v287 w20 ho hb hg hat; rw [← Ny286.out] at ho; have HO288 := am_ (ho); replace HB := am_ (hb); replace HK := am_ (Kept.of_grown (S := (fun k_ => P0_ k_)) hg (by repeat (first | (with_reducible first | exact HK.out | apply Kept.alloc | apply Kept.drewN | apply Kept.drew) | exact HK.out)) (fun k_ e_ => by simp [Value.ownBlock] at e_)); replace HR285 := am_ ((show Kd.C (Kd.int .i64) w20 (some ad281) y282.length y282 from by rw [Ny282.out]; exact Kd.C_take (m := (x5_1 : Int).toNat) ((Kd.R_reads' (Kd.R_after (Kd.R_apart_nil (rr_ HO_0)) hg hat)).2.2) KL19.out)); replace HO_0 := am_ (Kd.R_after (Kd.R_apart_nil (rr_ HO_0)) hg hat); clear ho hb hg hat) | ((with_reducible refine gate_builtin (b := .append) (xs := #[.tmp 45, .tmp 47]) rfl ?_); at_builtin; refine Kd.R_append (Kd.int .i64) (w0 := w0) w0.heap.size rfl (.tmp 45) (.tmp 47) 72 3 (.int .i64 0) 8 rfl Tryz.underlying72 info3 rfl (by decide) (by omega) v287 y286 a1 [.int .i64 a1] (fun k_ => (P0_ k_ ∨ w.heap.size ≤ k_) ∧ some k_ ≠ (.slice (some ad281) l0.length co3 : Value).ownBlock) (fun _ => False) rfl rfl ?aP (fun _ hk => hk.elim) ?aF ?aO ?aB ?aS ?aL ?_; (case aP => exact rfl); (case aB => exact bl_); (case aF => exact (fun k_ hk => ⟨(.inr (Nat.le_trans (by first | exact HK.out.1 | exact (show Kept w _ (fun k_ => P0_ k_) from by repeat (first | (with_reducible first | exact HK.out | apply Kept.alloc | apply Kept.drewN | apply Kept.drew) | exact HK.out)).1) hk)), Kd.fresh' (Kd.R_lt (rr_ HO_0)) k_ hk⟩)); (case aO => exact (rr_ HO288)); (case aS => exact (below_size bl_)); (case aL => have := LMc15.out; omega); intro v290 w21 ho hb hg hat; rw [← Ny289.out] at ho; have n0_ := am_ (Kd.R_after (ok := (fun k_ => (P0_ k_ ∨ w.heap.size ≤ k_))) (rr_ HO_0) hg hat); have n1_ := am_ (hb); have n2_ := am_ (Kept.of_grown (S := (fun k_ => P0_ k_)) hg (by repeat (first | (with_reducible first | exact HK.out | apply Kept.alloc | apply Kept.drewN | apply Kept.drew) | exact HK.out)) (fun k_ e_ => (HO288.out.1 k_ e_).1)); have n3_ := am_ ((show Kd.C (Kd.int .i64) w21 (some ad281) y282.length y282 from by rw [Ny282.out]; exact Kd.C_take (m := (x5_1 : Int).toNat) ((Kd.R_reads' (Kd.R_after (ok := (fun k_ => (P0_ k_ ∨ w.heap.size ≤ k_))) (rr_ HO_0) hg hat)).2.2) KL19.out)); have n4_ := am_ (ho); clear HO_0; clear HB; clear HK; clear HR285; clear HO288; have HO_0 := n0_; have HB := n1_; have HK := n2_; have HR285 := n3_; have HO291 := n4_; clear n0_ n1_ n2_ n3_ n4_; clear ho hb hg hat; have q22 : (x5_1 : Int) ≤ ((l0.length : Int) : Int) := dt_; obtain ⟨i022, hi022, _, hsz22, _⟩ := info_parts info3; have hroom22 : l0.length ≤ co3 := (Kd.R_reads' HO_0.out).2.1; have hC22 : Kd.C (Kd.int .i64) _ (some ad281) l0.length l0 := (Kd.R_reads' HO_0.out).2.2; have q022 : (0 : Int) ≤ (x5_1 : Int) := dt_; have hcut22 := cut_from (P := Tryz.prog) 72 3 .i64 Tryz.underlying72 hi022 1 hsz22 (some ad281) l0.length co3 x5_1 q022 q22; have hr22 := Kd.C_drop (m := (x5_1 : Int).toNat) (c := co3) hC22 (by omega) hroom22; obtain ⟨A22, hA22⟩ : ∃ A1, A1 = (if co3 = (x5_1 : Int).toNat then (some ad281) else ((some ad281) : Option Addr).map (·.add ((x5_1 : Int).toNat * 1))) := ⟨_, rfl⟩; obtain ⟨c22, hc22⟩ : ∃ c1, c1 = co3 - (x5_1 : Int).toNat := ⟨_, rfl⟩; have hy22 : y292.length = l0.length - (x5_1 : Int).toNat := (by rw [Ny292.out, List.length_drop] <;> omega); rw [show (l0).drop (x5_1 : Int).toNat = y292 from Ny292.out.symm] at hr22; replace hr22 : Kd.C (Kd.int .i64) _ A22 y292.length y292 := (by rw [hA22]; exact hr22); rw [← hy22, ← hA22, ← hc22] at hcut22; have HR295 := am_ hr22; have HC295 := am_ (show y292.length ≤ c22 from by rw [hy22, hc22]; exact Nat.sub_le_sub_right hroom22 _); clear hr22 hC22 hroom22 hi022 hsz22 hc22; have KY22 := am_ hy22; have KA22 := am_ hA22; clear hy22 hA22; have KL22 := am_ (show (x5_1 : Int).toNat ≤ l0.length from by omega); replace q22 := eq_true q22) | ((with_reducible refine gate_builtin (b := .append) (xs := #[.tmp 49, .tmp 52]) rfl ?_); at_builtin; refine Kd.R_append_rows (Kd.int .i64) (w0 := w0) w0.heap.size rfl (.tmp 49) (.tmp 52) 72 3 (.int .i64 0) 8 rfl Tryz.underlying72 info3 rfl (by decide) (by omega) v290 y289 y292 _ _ _ (fun k_ => (P0_ k_ ∨ w.heap.size ≤ k_) ∧ some k_ ≠ (.slice (some ad281) l0.length co3 : Value).ownBlock) (fun _ => False) rfl rfl ?aO ?aR (fun _ _ h => h) (fun _ h => h.elim) ?aF ?aB ?aS ?aL ?_; (case aR => repeat (first | exact (by repeat (first | (with_reducible exact HR295.out) | (with_reducible refine Kd.C_alloc ?_ _) | (with_reducible refine Kd.C_drewN ?_ _) | (with_reducible refine Kd.C_drew ?_) | exact HR295.out)) | (with_reducible refine Kd.C_alloc ?_ _) | (with_reducible refine Kd.C_drewN ?_ _) | (with_reducible refine Kd.C_drew ?_))); (case aB => exact bl_); (case aF => exact (fun k_ hk => ⟨(.inr (Nat.le_trans (by first | exact HK.out.1 | exact (show Kept w _ (fun k_ => P0_ k_) from by repeat (first | (with_reducible first | exact HK.out | apply Kept.alloc | apply Kept.drewN | apply Kept.drew) | exact HK.out)).1) hk)), Kd.fresh' (Kd.R_lt (rr_ HO_0)) k_ hk⟩)); (case aO => exact (rr_ HO291)); (case aS => exact (below_size bl_)); (case aL => have := LMc18.out; omega); intro v297 w23 ho hb hg hat; rw [← Ny296.out] at ho; have n0_ := am_ (Kd.R_after (ok := (fun k_ => (P0_ k_ ∨ w.heap.size ≤ k_))) (rr_ HO_0) hg hat); have n1_ := am_ (hb); have n2_ := am_ (Kept.of_grown (S := (fun k_ => P0_ k_)) hg (by repeat (first | (with_reducible first | exact HK.out | apply Kept.alloc | apply Kept.drewN | apply Kept.drew) | exact HK.out)) (fun k_ e_ => (HO291.out.1 k_ e_).1)); have n3_ := am_ ((show Kd.C (Kd.int .i64) w23 (some ad281) y282.length y282 from by rw [Ny282.out]; exact Kd.C_take (m := (x5_1 : Int).toNat) ((Kd.R_reads' (Kd.R_after (ok := (fun k_ => (P0_ k_ ∨ w.heap.size ≤ k_))) (rr_ HO_0) hg hat)).2.2) KL19.out)); have n4_ := am_ ((show Kd.C (Kd.int .i64) w23 A22 y292.length y292 from by rw [Ny292.out, KA22.out]; exact Kd.C_drop (m := (x5_1 : Int).toNat) (c := co3) ((Kd.R_reads' (Kd.R_after (ok := (fun k_ => (P0_ k_ ∨ w.heap.size ≤ k_))) (rr_ HO_0) hg hat)).2.2) KL22.out ((Kd.R_reads' (Kd.R_after (ok := (fun k_ => (P0_ k_ ∨ w.heap.size ≤ k_))) (rr_ HO_0) hg hat)).2.1))); have n5_ := am_ (ho); clear HO_0; clear HB; clear HK; clear HR285; clear HR295; clear HO291; have HO_0 := n0_; have HB := n1_; have HK := n2_; have HR285 := n3_; have HR295 := n4_; have HO298 := n5_; clear n0_ n1_ n2_ n3_ n4_ n5_; clear ho hb hg hat))
   go_ret
   exact ⟨_, er_, by (with_reducible repeat (first | apply Kd.R_alloc | apply Kd.R_drewN | apply Kd.R_drew)); exact Kd.R_mono HO298.out (fun _ hk => hk.1), bl_, by repeat (first | (with_reducible first | exact HK.out | apply Kept.alloc | apply Kept.drewN | apply Kept.drew) | exact HK.out)⟩
def bM.l0 : Nat → List (S44) → List Int → Int → Option (List Int)
 | 0, _, _, _ => none
 | k + 1, x0, x3, x4 => if x4 < (x0.length : Int) then (if 0 ≤ x4 then ((dL.f k x3 ((aH x0 x4).f1)).bind fun t317 => ((dL.f k t317 ((aH x0 x4).f3)).bind fun t321 => (bM.l0 k x0 t321 (wrap64 (x4 + 1))))) else (none)) else (some x3)
def bM.f (k : Nat) (l0 : List (S44)) : Option (List Int) := bM.l0 k l0 ([] : List Int) 0
def bM.T5 : Bool × List (List Nat × List Nat) := (true, [([], []), ([], []), ([], []), ([1, 2], [1, 2]), ([3], [3]), ([4], [4]), ([0, 5], [0, 5]), ([], []), ([], []), ([7, 8], [7, 8]), ([9], [9]), ([10], [10]), ([6, 11, 6], [6, 11]), ([12, 12, 0, 1, 2, 3, 4, 5, 6, 7, 8, 9, 10, 11, 12], [0, 12])])
def bM.B5 : List Nat := [0, 0, 0, 6, 14, 30, 63, 0, 0, 384, 896, 1920, 4095, 8191]
theorem bM.tab5 : rtab .any (opsOf Tryz.f116 5) = bM.T5 := by kernel_rfl
theorem bM.bits5 : waitsOk bM.T5.2 bM.B5 = true := by kernel_rfl
theorem bM.calls (k : Nat) (A0 : Option Addr) (c0 : Nat) (l0 : List (S44)) (r : List Int) (w : World) (hG : Tryz.GW w) (hr0 : Kd.C k44 w A0 l0.length l0) (hc0 : l0.length ≤ c0) (h : bM.f k l0 = some r) :
 Calls Tryz.prog 116 #[.slice A0 l0.length c0] w fun e w' => ∃ v0_ : Value, e = .returned (v0_) ∧ Kd.R (Kd.int .i64) 3 w' w.heap.size (fun _ => True) v0_ r ∧ Below w.heap.size w w' := by
 have HR0 := am_ hr0
 have HC0 := am_ hc0
 clear hr0 hc0
 have HG := am_ hG
 clear hG
 have HB := am_ (Below.refl w.heap.size w)
 have H : (bM.l0 k l0 ([] : List Int) 0) = some r := h
 clear h
 replace H := am_ H
 go_enter Tryz.func116, Tryz.ntmps116
 go_wp2
 go_loopg [3, 4] k (fun kq v3 v4 w' => ∃ (x3_1 : List Int) (x4_1 : Int), v4 = .int .i64 x4_1 ∧ Aside0 (bM.l0 kq l0 x3_1 x4_1 = some r) ∧ Aside0 (kq ≤ k) ∧ Aside0 (Kd.R (Kd.int .i64) 3 w' w.heap.size (fun _ => True) v3 x3_1) ∧ Aside0 (Below w.heap.size w w'))
 case atStart => exact ⟨(([] : List Int)), (0), ra_, H, ⟨Nat.le_refl _⟩, ⟨by first | exact Kd.R_nil _ _ _ _ _ | exact Kd.N_nil _ _ _ _ _ | exact Kd.V_nil _ _ _ _ _ | exact Kd.Q_nil _ _ _ _ _ | exact Kd.S_nil _ _ _ _ _⟩, ⟨bl_⟩⟩
 case round =>
  clear H
  try clear c1
  obtain ⟨x3_1, x4_1, rfl, HA, HK1, HO_3, HB⟩ := hrel
  cases gk with
  | zero => exact absurd HA.out (by simp [bM.l0])
  | succ k1 =>
   have H := HA.out
   clear HA
   simp only [bM.l0] at H
   by_cases c2 : x4_1 < (l0.length : Int)
   rotate_left
   · rw [if_neg c2] at H
     have c2b0 := decide_eq_false c2
     clear c2
     obtain rfl := sj_ H
     go_wp2
     go_ret
     exact ⟨_, er_, rr_ HO_3, bl_⟩
   rw [if_pos c2] at H
   have c2b0 := decide_eq_true c2
   clear c2
   obtain ⟨c3b0, H⟩ := ifd_ H
   obtain ⟨t317, A4, H⟩ := bs_ H
   obtain ⟨t321, A5, H⟩ := bs_ H
   replace H := am_ H
   try go_wp2
   replace HO_3 := am_ (Kd.R_drew HO_3.out)
   replace HB := am_ (below_drew1 HB.out)
   have p316 := pt_ x4_1
   have q316 := qt_ x4_1 l0.length
   obtain ⟨ad316, e316, hx316_0, hx316_1, hx316_2, hx316_3⟩ := fD HR0.out x4_1 (oe_ p316) (oe_ q316)
   have hw316_3 := hx316_3
   have hw316_2 := hx316_2
   have hw316_1 := hx316_1
   have hw316_0 := hx316_0
   cases e316
   replace hx316_0 := ce_ HB hx316_0
   replace hx316_1 := ce_ HB hx316_1
   replace hx316_2 := ce_ HB hx316_2
   replace hx316_3 := ce_ HB hx316_3
   have p320 := pt_ x4_1
   have q320 := qt_ x4_1 l0.length
   obtain ⟨ad320, e320, hx320_0, hx320_1, hx320_2, hx320_3⟩ := fD HR0.out x4_1 (oe_ p320) (oe_ q320)
   have hw320_3 := hx320_3
   have hw320_2 := hx320_2
   have hw320_1 := hx320_1
   have hw320_0 := hx320_0
   obtain rfl : ad316 = ad320 := (by injection e320)
   replace hx320_0 := ce_ HB hx320_0
   replace hx320_1 := ce_ HB hx320_1
   replace hx320_2 := ce_ HB hx320_2
   replace hx320_3 := ce_ HB hx320_3
   obtain ⟨Ao7, co7, eo7⟩ := Kd.R_slice HO_3.out
   (first | subst eo7 | (injection eo7 with f1_ f2_ f3_; have f4_ := f1_.symm; have f5_ := f3_.symm; clear f1_ f2_ f3_; subst f4_; subst f5_))
   refine start_ (n := 14) (S := fun w' => w'.cell? (ad316.add ((x4_1).toNat * 4)) = some (.int .i64 ((aH l0 x4_1).f0)) ∧ w'.cell? ⟨(ad316.add ((x4_1).toNat * 4)).block, (ad316.add ((x4_1).toNat * 4)).off + 1, none⟩ = some (.int .i64 ((aH l0 x4_1).f1)) ∧ w'.cell? ⟨(ad316.add ((x4_1).toNat * 4)).block, (ad316.add ((x4_1).toNat * 4)).off + 2, none⟩ = some (.int .i64 ((aH l0 x4_1).f2)) ∧ w'.cell? ⟨(ad316.add ((x4_1).toNat * 4)).block, (ad316.add ((x4_1).toNat * 4)).off + 3, none⟩ = some (.int .i64 ((aH l0 x4_1).f3)) ∧ w'.cell? (ad316.add ((x4_1).toNat * 4)) = some (.int .i64 ((aH l0 x4_1).f0)) ∧ w'.cell? ⟨(ad316.add ((x4_1).toNat * 4)).block, (ad316.add ((x4_1).toNat * 4)).off + 1, none⟩ = some (.int .i64 ((aH l0 x4_1).f1)) ∧ w'.cell? ⟨(ad316.add ((x4_1).toNat * 4)).block, (ad316.add ((x4_1).toNat * 4)).off + 2, none⟩ = some (.int .i64 ((aH l0 x4_1).f2)) ∧ w'.cell? ⟨(ad316.add ((x4_1).toNat * 4)).block, (ad316.add ((x4_1).toNat * 4)).off + 3, none⟩ = some (.int .i64 ((aH l0 x4_1).f3))) (ds := []) (bv 14 0) (by kernel_rfl) rfl rfl ⟨(ce_ HB hw316_0), (ce_ HB hw316_1), (ce_ HB hw316_2), (ce_ HB hw316_3), (ce_ HB hw320_0), (ce_ HB hw320_1), (ce_ HB hw320_2), (ce_ HB hw320_3)⟩ (fun hHeld => ?_); refine with_tabW bM.tab5 bM.bits5 (fun HT_ HW_ => ?_)
   generalize wr.drew = w6 at HO_3 HB hx316_0 hx316_1 hx316_2 hx316_3 hx320_0 hx320_1 hx320_2 hx320_3 hHeld ⊢
   refine pu_ 0 11 (bv 14 1) ?_
   refine pu_ 1 12 (bv 14 3) ?_
   refine pu_ 2 13 (bv 14 7) ?_
   refine pu_ 3 14 (bv 14 15) ?_
   refine pu_ 4 15 (bv 14 31) ?_
   refine pu_ 7 18 (bv 14 159) ?_
   refine pu_ 8 19 (bv 14 415) ?_
   refine pu_ 9 20 (bv 14 927) ?_
   refine pu_ 10 21 (bv 14 1951) ?_
   refine tk_ 5 16 (bv 14 1983) hHeld ?_
   refine tk_ 11 22 (bv 14 4031) hHeld ?_
   refine one_ (i := 6) (N := some 17) (bv 14 4095) rfl rfl (one_of HT_.out (by kernel_rfl)) (by decide) (fun K hK => ?_)
   refine goes_ Tryz.func146 (by kernel_rfl) rfl #[.slice Ao7 x3_1.length co7, .int .i64 ((aH l0 x4_1).f1)] (by rfl) rfl rfl (by (try simp only [List.map_toArray, List.map_cons, List.map_nil]); first | done | rfl | (simp only [List.length_drop, List.length_take]; rfl)) ?_
   with_reducible refine (dL.calls k1 (fun k_ => some k_ = (.slice Ao7 x3_1.length co7 : Value).ownBlock) (.slice Ao7 x3_1.length co7) x3_1 ((aH l0 x4_1).f1) t317 w _ ?s1 ?s2 ?s3 A4.out).mono ?_
   (case s1 => exact HG.out)
   (case s2 => repeat (first | (with_reducible first | exact HB.out | apply below_alloc | apply pw_below_drewN | apply below_drew1) | exact HB.out))
   (case s3 => exact Kd.R_tight rfl HO_3.out)
   rintro e w8 ⟨v318, rfl, ho0, hb, hkp⟩
   refine ⟨_, rfl, ?_⟩
   have n0_ := am_ (Kd.R_mono (ok' := fun k_ => True) ho0 (fun k_ hk_ => trivial))
   have n1_ := am_ (hb)
   clear HB
   clear HO_3
   have HO319 := n0_
   have HB := n1_
   clear n0_ n1_
   (try clear hb)
   (try clear hkp)
   (try clear ho0)
   obtain ⟨Ao9, co9, eo9⟩ := Kd.R_slice HO319.out
   (first | subst eo9 | (injection eo9 with f1_ f2_ f3_; have f4_ := f1_.symm; have f5_ := f3_.symm; clear f1_ f2_ f3_; subst f4_; subst f5_))
   refine hK.out _ _ ⟨(ce_ HB hw316_0), (ce_ HB hw316_1), (ce_ HB hw316_2), (ce_ HB hw316_3), (ce_ HB hw320_0), (ce_ HB hw320_1), (ce_ HB hw320_2), (ce_ HB hw320_3)⟩ (fun hHeld => ?_)
   clear hK K
   refine norm_ (a' := ?_) ?_ ?_
   rotate_left
   · show Act.put _ (some 17) _ = _
     simp only [Act.put, List.setIfInBounds_toArray, List.set_cons_zero, List.set_cons_succ, i64_w, i32_w]
     rfl
   refine one_ (i := 12) (N := some 23) (bv 14 8191) rfl rfl (one_of HT_.out (by kernel_rfl)) (by decide) (fun K hK => ?_)
   refine goes_ Tryz.func146 (by kernel_rfl) rfl #[.slice Ao9 t317.length co9, .int .i64 ((aH l0 x4_1).f3)] (by rfl) rfl rfl (by (try simp only [List.map_toArray, List.map_cons, List.map_nil]); first | done | rfl | (simp only [List.length_drop, List.length_take]; rfl)) ?_
   with_reducible refine (dL.calls k1 (fun k_ => some k_ = (.slice Ao9 t317.length co9 : Value).ownBlock) (.slice Ao9 t317.length co9) t317 ((aH l0 x4_1).f3) t321 w _ ?s1 ?s2 ?s3 A5.out).mono ?_
   (case s1 => exact HG.out)
   (case s2 => repeat (first | (with_reducible first | exact HB.out | apply below_alloc | apply pw_below_drewN | apply below_drew1) | exact HB.out))
   (case s3 => exact Kd.R_tight rfl HO319.out)
   rintro e w10 ⟨v322, rfl, ho0, hb, hkp⟩
   refine ⟨_, rfl, ?_⟩
   have n0_ := am_ (Kd.R_mono (ok' := fun k_ => True) ho0 (fun k_ hk_ => trivial))
   have n1_ := am_ (hb)
   clear HB
   clear HO319
   have HO323 := n0_
   have HB := n1_
   clear n0_ n1_
   (try clear hb)
   (try clear hkp)
   (try clear ho0)
   refine hK.out _ _ ⟨(ce_ HB hw316_0), (ce_ HB hw316_1), (ce_ HB hw316_2), (ce_ HB hw316_3), (ce_ HB hw320_0), (ce_ HB hw320_1), (ce_ HB hw320_2), (ce_ HB hw320_3)⟩ (fun hHeld => ?_)
   clear hK K
   refine norm_ (a' := ?_) ?_ ?_
   rotate_left
   · show Act.put _ (some 23) _ = _
     simp only [Act.put, List.setIfInBounds_toArray, List.set_cons_zero, List.set_cons_succ, i64_w, i32_w]
     rfl
   refine pu_ 13 3 (bv 14 16383) ?_
   refine done_ (done_of HT_.out (by kernel_rfl)) ?_
   try go_wp2
   go_roundg k1
   case measure => have := HK1.out; omega
   case rel => exact ⟨(t321), (wrap64 (x4_1 + 1)), ra_, H, ⟨by have := HK1.out; omega⟩, ⟨rr_ HO323⟩, ⟨bl_⟩⟩
def cO.l0 : Nat → List (S171) → List (S171) → Int → Option (Bool)
 | 0, _, _, _ => none
 | k + 1, x0, x1, x5 => if x5 < (x0.length : Int) then (if 0 ≤ x5 then (if x5 < (x1.length : Int) then (if (!(((dE x0 x5).f0) == ((dE x1 x5).f0)) || (!(((dE x0 x5).f1) == ((dE x1 x5).f1)))) = true then (some false) else (cO.l0 k x0 x1 (wrap64 (x5 + 1)))) else (none)) else (none)) else (some true)
def cO.f (k : Nat) (l0 : List (S171)) (l1 : List (S171)) : Option (Bool) := if (l0.length : Int) = (l1.length : Int) then (cO.l0 k l0 l1 0) else (some false)
theorem cO.calls (k : Nat) (A0 : Option Addr) (c0 : Nat) (l0 : List (S171)) (A1 : Option Addr) (c1 : Nat) (l1 : List (S171)) (r : Bool) (w : World) (hG : Tryz.GW w) (hr0 : Kd.C k171 w A0 l0.length l0) (hc0 : l0.length ≤ c0) (hr1 : Kd.C k171 w A1 l1.length l1) (hc1 : l1.length ≤ c1) (h : cO.f k l0 l1 = some r) :
 Calls Tryz.prog 147 #[.slice A0 l0.length c0, .slice A1 l1.length c1] w fun e w' => e = .returned (.bool r) ∧ Drawn0 w w' := by
 have hu171 := Tryz.underlying171
 have HR0 := am_ hr0
 have HC0 := am_ hc0
 clear hr0 hc0
 have HR1 := am_ hr1
 have HC1 := am_ hc1
 clear hr1 hc1
 have HG := am_ hG
 clear hG
 have H : (if (l0.length : Int) = (l1.length : Int) then (cO.l0 k l0 l1 0) else (some false)) = some r := h
 clear h
 by_cases c3 : (l0.length : Int) = (l1.length : Int)
 rotate_left
 · rw [if_neg c3] at H
   have c3b0 : ((l0.length : Int) == (l1.length : Int)) = false := beq_eq_false_iff_ne.mpr c3
   have c3b1 : ((l0.length : Int) != (l1.length : Int)) = true := bne_iff_ne.mpr c3
   have c3b2 : (l0.length == l1.length) = false := by first | simpa using c3 | (simp at c3 ⊢; omega)
   obtain rfl := sj_ H
   go_enter Tryz.func147, Tryz.ntmps147
   go_wp2
   repeat (go_quiet (fail); try go_wp2)
   go_ret
   exact ⟨ra_, dr_⟩
 rw [if_pos c3] at H
 have c3b0 : ((l0.length : Int) == (l1.length : Int)) = true := beq_iff_eq.mpr c3
 have c3b1 : ((l0.length : Int) != (l1.length : Int)) = false := bne_eq_false_iff_eq.mpr c3
 have c3b2 : (l0.length == l1.length) = true := by first | simpa using c3 | (simp at c3 ⊢; omega)
 clear c3
 replace H := am_ H
 go_enter Tryz.func147, Tryz.ntmps147
 go_wp2
 repeat (go_quiet (fail); try go_wp2)
 go_loopg [5] k (fun kq v5 w' => ∃ (x5_1 : Int), v5 = .int .i64 x5_1 ∧ Aside0 (cO.l0 kq l0 l1 x5_1 = some r) ∧ Aside0 (kq ≤ k) ∧ Drawn0 w w')
 case atStart => exact ⟨(0), ra_, H, ⟨Nat.le_refl _⟩, dr_⟩
 case round =>
  clear H
  try clear c1
  try clear p2
  try clear c3
  try clear c3b0
  try clear c3b1
  try clear c3b2
  obtain ⟨x5_1, rfl, HA, HK1, ⟨m1, rfl⟩⟩ := hrel
  cases gk with
  | zero => exact absurd HA.out (by simp [cO.l0])
  | succ k1 =>
   have H := HA.out
   clear HA
   simp only [cO.l0] at H
   by_cases c4 : x5_1 < (l0.length : Int)
   rotate_left
   · rw [if_neg c4] at H
     have c4b0 := decide_eq_false c4
     clear c4
     obtain rfl := sj_ H
     go_wp2
     repeat (go_quiet (fail); try go_wp2)
     go_ret
     exact ⟨ra_, dr_⟩
   rw [if_pos c4] at H
   have c4b0 := decide_eq_true c4
   clear c4
   obtain ⟨c5b0, H⟩ := ifd_ H
   obtain ⟨c6b0, H⟩ := ifd_ H
   by_cases c7 : (!(((dE l0 x5_1).f0) == ((dE l1 x5_1).f0)) || (!(((dE l0 x5_1).f1) == ((dE l1 x5_1).f1)))) = true
   · rw [if_pos c7] at H
     have c7b0 : (!(((dE l0 x5_1).f0) == ((dE l1 x5_1).f0)) || (!(((dE l0 x5_1).f1) == ((dE l1 x5_1).f1)))) = true := c7
     clear c7
     obtain rfl := sj_ H
     have p324 := pt_ x5_1
     have q324 := qt_ x5_1 l0.length
     obtain ⟨ad324, e324, hx324_0, hx324_1⟩ := fZ HR0.out x5_1 (oe_ p324) (oe_ q324)
     cases e324
     have p325 := pt_ x5_1
     have q325 := qt_ x5_1 l1.length
     obtain ⟨ad325, e325, hx325_0, hx325_1⟩ := fZ HR1.out x5_1 (oe_ p325) (oe_ q325)
     cases e325
     go_wp2
     repeat (go_quiet (fail); try go_wp2)
     go_ret
     exact ⟨ra_, dr_⟩
   rw [if_neg c7] at H
   have c7b0 : (!(((dE l0 x5_1).f0) == ((dE l1 x5_1).f0)) || (!(((dE l0 x5_1).f1) == ((dE l1 x5_1).f1)))) = false := by simpa using c7
   clear c7
   replace H := am_ H
   have p324 := pt_ x5_1
   have q324 := qt_ x5_1 l0.length
   obtain ⟨ad324, e324, hx324_0, hx324_1⟩ := fZ HR0.out x5_1 (oe_ p324) (oe_ q324)
   cases e324
   have p325 := pt_ x5_1
   have q325 := qt_ x5_1 l1.length
   obtain ⟨ad325, e325, hx325_0, hx325_1⟩ := fZ HR1.out x5_1 (oe_ p325) (oe_ q325)
   cases e325
   go_wp2
   repeat (go_quiet (fail); try go_wp2)
   go_roundg k1
   case measure => have := HK1.out; omega
   case rel => exact ⟨(wrap64 (x5_1 + 1)), ra_, H, ⟨by have := HK1.out; omega⟩, dr_⟩
end Go.Proofs.YthkeonbmgcphkaaGreatDoor.PN
