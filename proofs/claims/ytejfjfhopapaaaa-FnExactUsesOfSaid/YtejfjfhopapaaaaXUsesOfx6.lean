-- printed by a program of this session (xprint, turned from the kit's print) for this claim
import Derived.Test.YtejfjfhopapaaaaXUsesOfx0
import Derived.Test.YtejfjfhopapaaaaXUsesOfx4
import Derived.Test.YtejfjfhopapaaaaXUsesOfx5
namespace Go.Proofs.Ytejfjfhopapaaaa.XUsesOf
open Go.RowKit Go.Proofs.Ytejfjfhopapaaaa.XOpens Go.Proofs.YtejfjfhopapaaaaW.PrintWords Go.Proofs.YtejfjfhopapaaaaW.PrintLast Go.Proofs.YtejfjfhopapaaaaW.PrintMore
attribute [local go_sem] max2_int min2_int max_two min_two max_three min_three max_four min_four   -- for this text's walks alone
set_option linter.unusedVariables false
set_option linter.unusedSimpArgs false

/-! ### impl_standsOn: function 170 -/
mutual
def impl_standsOn.j0 : Nat → Int → List Int → Bool → Int → Int → Int → Int → Int → Bool → Bool → List Int → Bool → List (I_Bind) → List (I_Lit) → Option (List Int)
  | 0, _, _, _, _, _, _, _, _, _, _, _, _, _, _ => none
  | k + 1, x1, x6, x21, x284000, x284001, x284002, x284003, x284004, x284005, x284006, x284007, x284008, x284009, x284010 => if x21 = true then (if x6.length < 17592186044416 then (impl_standsOn.j1 k x1 (x6 ++ [x284001]) x284000 x284001 x284002 x284003 x284004 x284005 x284006 x284007 x284008 x284009 x284010) else (none)) else (impl_standsOn.j1 k x1 x6 x284000 x284001 x284002 x284003 x284004 x284005 x284006 x284007 x284008 x284009 x284010)
def impl_standsOn.j1 : Nat → Int → List Int → Int → Int → Int → Int → Int → Bool → Bool → List Int → Bool → List (I_Bind) → List (I_Lit) → Option (List Int)
  | 0, _, _, _, _, _, _, _, _, _, _, _, _, _ => none
  | k + 1, x1, x6, x284000, x284001, x284002, x284003, x284004, x284005, x284006, x284007, x284008, x284009, x284010 => (impl_usesB.f x284000 x284001 x284002 x284003 x284004 x284005 x284006 x284007 x284008 x284009 x284010).bind fun t291 => (if t291 = true then ((impl_from.f x284002 0 (wrap64 (x1 - 1))).bind fun t292 => (if t292 = true then ((impl_NumAdd.f k x6 x284002).bind fun t293 => (some t293)) else (some x6))) else (some x6))
end
def impl_standsOn.f (k : Nat) (l0 : List (I_Step)) (a1 : Int) : Option (List Int) := if 0 ≤ a1 then (if a1 < (l0.length : Int) then ((some (([] : List Int) : List Int)).bind fun y284 => (if ((rd_I_Step l0 a1).f0) = 1 then (impl_standsOn.j0 k a1 y284 false ((rd_I_Step l0 a1).f0) ((rd_I_Step l0 a1).f1) ((rd_I_Step l0 a1).f2) ((rd_I_Step l0 a1).f3) ((rd_I_Step l0 a1).f4) ((rd_I_Step l0 a1).f5) ((rd_I_Step l0 a1).f6) ((rd_I_Step l0 a1).f7) ((rd_I_Step l0 a1).f8) ((rd_I_Step l0 a1).f9) ((rd_I_Step l0 a1).f10.f0)) else ((impl_from.f ((rd_I_Step l0 a1).f1) 0 (wrap64 (a1 - 1))).bind fun t287 => (impl_standsOn.j0 k a1 y284 t287 ((rd_I_Step l0 a1).f0) ((rd_I_Step l0 a1).f1) ((rd_I_Step l0 a1).f2) ((rd_I_Step l0 a1).f3) ((rd_I_Step l0 a1).f4) ((rd_I_Step l0 a1).f5) ((rd_I_Step l0 a1).f6) ((rd_I_Step l0 a1).f7) ((rd_I_Step l0 a1).f8) ((rd_I_Step l0 a1).f9) ((rd_I_Step l0 a1).f10.f0))))) else (none)) else (none)
theorem impl_standsOn.mono_l : ∀ k, (∀ y0 y1 y2 y3 y4 y5 y6 y7 y8 y9 y10 y11 y12 y13, LeO (impl_standsOn.j0 k y0 y1 y2 y3 y4 y5 y6 y7 y8 y9 y10 y11 y12 y13) (impl_standsOn.j0 (k + 1) y0 y1 y2 y3 y4 y5 y6 y7 y8 y9 y10 y11 y12 y13)) ∧ (∀ y0 y1 y2 y3 y4 y5 y6 y7 y8 y9 y10 y11 y12, LeO (impl_standsOn.j1 k y0 y1 y2 y3 y4 y5 y6 y7 y8 y9 y10 y11 y12) (impl_standsOn.j1 (k + 1) y0 y1 y2 y3 y4 y5 y6 y7 y8 y9 y10 y11 y12))
  | 0 => ⟨fun _ _ _ _ _ _ _ _ _ _ _ _ _ _ r h => by simp [impl_standsOn.j0] at h, fun _ _ _ _ _ _ _ _ _ _ _ _ _ r h => by simp [impl_standsOn.j1] at h⟩
  | k + 1 => by
    obtain ⟨ih0, ih1⟩ := impl_standsOn.mono_l k; refine ⟨?_, ?_⟩
    · intro y0 y1 y2 y3 y4 y5 y6 y7 y8 y9 y10 y11 y12 y13
      unfold impl_standsOn.j0
      repeat' first | (with_reducible first | exact ih0 _ _ _ _ _ _ _ _ _ _ _ _ _ _ | exact ih1 _ _ _ _ _ _ _ _ _ _ _ _ _ | exact impl_NumAdd.mono _ _ _ | exact LeO.refl _ | exact LeO.none _ | refine LeO.ite ?_ ?_ | refine LeO.bind ?_ (fun _ => ?_)) | exact ih0 _ _ _ _ _ _ _ _ _ _ _ _ _ _ | exact ih1 _ _ _ _ _ _ _ _ _ _ _ _ _ | exact impl_NumAdd.mono _ _ _ | exact LeO.none _ | refine LeO.ite ?_ ?_ | refine LeO.bind ?_ (fun _ => ?_)
    · intro y0 y1 y2 y3 y4 y5 y6 y7 y8 y9 y10 y11 y12
      unfold impl_standsOn.j1
      repeat' first | (with_reducible first | exact ih0 _ _ _ _ _ _ _ _ _ _ _ _ _ _ | exact ih1 _ _ _ _ _ _ _ _ _ _ _ _ _ | exact impl_NumAdd.mono _ _ _ | exact LeO.refl _ | exact LeO.none _ | refine LeO.ite ?_ ?_ | refine LeO.bind ?_ (fun _ => ?_)) | exact ih0 _ _ _ _ _ _ _ _ _ _ _ _ _ _ | exact ih1 _ _ _ _ _ _ _ _ _ _ _ _ _ | exact impl_NumAdd.mono _ _ _ | exact LeO.none _ | refine LeO.ite ?_ ?_ | refine LeO.bind ?_ (fun _ => ?_)
theorem impl_standsOn.mono : ∀ a0 a1 k, LeO (impl_standsOn.f k a0 a1) (impl_standsOn.f (k + 1) a0 a1) := by
  intro a0 a1 k; obtain ⟨ih0, ih1⟩ := impl_standsOn.mono_l k
  unfold impl_standsOn.f
  repeat' first
      | (with_reducible exact ih0 _ _ _ _ _ _ _ _ _ _ _ _ _ _)
      | (with_reducible exact ih1 _ _ _ _ _ _ _ _ _ _ _ _ _)
      | (with_reducible exact impl_NumAdd.mono _ _ _)
      | (with_reducible exact LeO.refl _)
      | (with_reducible exact LeO.none _)
      | (with_reducible refine LeO.ite ?_ ?_)
      | (with_reducible refine LeO.bind ?_ (fun _ => ?_))
      | exact ih0 _ _ _ _ _ _ _ _ _ _ _ _ _ _
      | exact ih1 _ _ _ _ _ _ _ _ _ _ _ _ _
      | exact impl_NumAdd.mono _ _ _
      | exact LeO.none _
      | refine LeO.ite ?_ ?_
      | refine LeO.bind ?_ (fun _ => ?_)
set_option maxHeartbeats 8000000 in
set_option maxRecDepth 100000 in
theorem impl_standsOn.calls (k : Nat) (A0 : Option Addr) (c0 : Nat) (l0 : List (I_Step)) (a1 : Int) (r : List Int) (w : World) (hr0 : Kd.C k193 w A0 l0.length l0) (hc0 : l0.length ≤ c0) (h : impl_standsOn.f k l0 a1 = some r) :
    Calls Try.prog 170 #[.slice A0 l0.length c0, .int .i64 a1] w fun e w' => ∃ v0_ : Value, e = .returned (v0_) ∧ Kd.R (Kd.int .i64) 3 w' w.heap.size (fun _ => True) v0_ r ∧ Below w.heap.size w w' := by
  have hu193 := Try.underlying193; have HR0 := ak hr0; have HC0 := ak hc0; clear hr0 hc0; have HB := ak (Below.refl w.heap.size w); have H : (if 0 ≤ a1 then (if a1 < (l0.length : Int) then ((some (([] : List Int) : List Int)).bind fun y284 => (if ((rd_I_Step l0 a1).f0) = 1 then (impl_standsOn.j0 k a1 y284 false ((rd_I_Step l0 a1).f0) ((rd_I_Step l0 a1).f1) ((rd_I_Step l0 a1).f2) ((rd_I_Step l0 a1).f3) ((rd_I_Step l0 a1).f4) ((rd_I_Step l0 a1).f5) ((rd_I_Step l0 a1).f6) ((rd_I_Step l0 a1).f7) ((rd_I_Step l0 a1).f8) ((rd_I_Step l0 a1).f9) ((rd_I_Step l0 a1).f10.f0)) else ((impl_from.f ((rd_I_Step l0 a1).f1) 0 (wrap64 (a1 - 1))).bind fun t287 => (impl_standsOn.j0 k a1 y284 t287 ((rd_I_Step l0 a1).f0) ((rd_I_Step l0 a1).f1) ((rd_I_Step l0 a1).f2) ((rd_I_Step l0 a1).f3) ((rd_I_Step l0 a1).f4) ((rd_I_Step l0 a1).f5) ((rd_I_Step l0 a1).f6) ((rd_I_Step l0 a1).f7) ((rd_I_Step l0 a1).f8) ((rd_I_Step l0 a1).f9) ((rd_I_Step l0 a1).f10.f0))))) else (none)) else (none)) = some r := h; clear h
  by_cases c3 : 0 ≤ a1
  · rw [if_pos c3] at H; have c3b0 := decide_eq_true c3; clear c3
    by_cases c4 : a1 < (l0.length : Int)
    · rw [if_pos c4] at H; have c4b0 := decide_eq_true c4; clear c4; obtain ⟨y284, hy284⟩ : ∃ y_ : List Int, y_ = (([] : List Int)) := ⟨_, rfl⟩; replace H : (if ((rd_I_Step l0 a1).f0) = 1 then (impl_standsOn.j0 k a1 y284 false ((rd_I_Step l0 a1).f0) ((rd_I_Step l0 a1).f1) ((rd_I_Step l0 a1).f2) ((rd_I_Step l0 a1).f3) ((rd_I_Step l0 a1).f4) ((rd_I_Step l0 a1).f5) ((rd_I_Step l0 a1).f6) ((rd_I_Step l0 a1).f7) ((rd_I_Step l0 a1).f8) ((rd_I_Step l0 a1).f9) ((rd_I_Step l0 a1).f10.f0)) else ((impl_from.f ((rd_I_Step l0 a1).f1) 0 (wrap64 (a1 - 1))).bind fun t287 => (impl_standsOn.j0 k a1 y284 t287 ((rd_I_Step l0 a1).f0) ((rd_I_Step l0 a1).f1) ((rd_I_Step l0 a1).f2) ((rd_I_Step l0 a1).f3) ((rd_I_Step l0 a1).f4) ((rd_I_Step l0 a1).f5) ((rd_I_Step l0 a1).f6) ((rd_I_Step l0 a1).f7) ((rd_I_Step l0 a1).f8) ((rd_I_Step l0 a1).f9) ((rd_I_Step l0 a1).f10.f0)))) = some r := by first | (rw [hy284]; with_reducible exact H) | (have H2_ := (Option.bind_some _ _).symm.trans H; rw [hy284]; with_reducible exact H2_) | (have H2_ := (Option.bind_some _ _).symm.trans H; with_reducible exact H2_) | with_reducible exact H | (rw [hy284]; exact H) | exact H
      have Ny284 := ak hy284; clear hy284; have HC5 := ak H; clear H; have p282 : 0 ≤ (a1 : Int) := as_; have q282 : a1 < (l0.length : Int) := as_; obtain ⟨ad282, A282_7, c282_7, A282_9, c282_9, A282_10, c282_10, e282, hx282_0, hx282_1, hx282_2, hx282_3, hx282_4, hx282_5, hx282_6, hx282_7, hx282_8, hx282_9, hx282_10, hl282_7, hi282_7, hl282_9, hi282_9, hl282_10, hi282_10⟩ := at_T193 HR0.out a1 p282 q282
      cases e282
      have HR282_7 := ak hi282_7; have HC282_7 := ak hl282_7; clear hi282_7 hl282_7; have HR282_9 := ak hi282_9; have HC282_9 := ak hl282_9; clear hi282_9 hl282_9; have HR282_10 := ak hi282_10; have HC282_10 := ak hl282_10; clear hi282_10 hl282_10; replace p282 := eq_true p282; replace q282 := eq_true q282
      go_enter Try.func170, Try.ntmps170
      go_upto_region 3 with (first | ((with_reducible refine gate_dst (N := 5) rfl ?_); refine bxe_ (N := 5) (cs := #[.int .i64 0, .int .i64 0, .int .i64 0, .int .i64 0, .int .i64 0, .bool false, .bool false, .slice none 0 0, .bool false, .slice none 0 0, .slice none 0 0]) (t := 193) ?_; intro gb283 hg w6 hbox hb; have BK283 := ak (hbox); have GW283 := ak (lg_ hg (bl_ HB.out)); have GE283 := ak (lg_ hg (bl_ HB.out)); replace HB := ak (below_step (bl_ HB.out) hb); clear hb hbox hg; have hcz7_0 := bc_ BK283.out 0; have hcz7_1 := bc_ BK283.out 1; have hcz7_2 := bc_ BK283.out 2; have hcz7_3 := bc_ BK283.out 3; have hcz7_4 := bc_ BK283.out 4; have hcz7_5 := bc_ BK283.out 5; have hcz7_6 := bc_ BK283.out 6; have hcz7_7 := bc_ BK283.out 7; have hcz7_8 := bc_ BK283.out 8; have hcz7_9 := bc_ BK283.out 9; have hcz7_10 := bc_ BK283.out 10; have hfz7_0 := blk_frozen BK283.out 0; have hfz7_1 := blk_frozen BK283.out 1; have hfz7_2 := blk_frozen BK283.out 2; have hfz7_3 := blk_frozen BK283.out 3; have hfz7_4 := blk_frozen BK283.out 4; have hfz7_5 := blk_frozen BK283.out 5; have hfz7_6 := blk_frozen BK283.out 6; have hfz7_7 := blk_frozen BK283.out 7; have hfz7_8 := blk_frozen BK283.out 8; have hfz7_9 := blk_frozen BK283.out 9; have hfz7_10 := blk_frozen BK283.out 10) | ((with_reducible refine gate_dst (N := 11) rfl ?_); refine Kd.R_lit (Kd.int .i64) _ 3 ?hg (N := 11) ?hd (xs := ([] : List Int)) (inner := []) (ok := fun _ => True) (okp := fun _ => True) ?hr ?hp (fun _ hk => hk) trivial (Below.refl _ _) (Nat.le_refl _) (by simp) ?_; (case hd => rfl); (case hg => rfl); (case hr => first | (go_simp; done) | (go_simp; rfl)); (case hp => exact (Reps.none _ _)); intro v285 w8 ho9 hb hg_ hnew_; clear hg_ hnew_; (first | rw [← Ny284.out] at ho9 | (simp only [Int.reduceToNat] at ho9; rw [← Ny284.out] at ho9)); have HO286 := ak (Kd.R_lower ho9 (below_size (bs1_ HB.out GE283.out))); replace BK283 := ak (blk_below (g := gb283) (o := .cells #[.int .i64 ((rd_I_Step l0 a1).f0), .int .i64 ((rd_I_Step l0 a1).f1), .int .i64 ((rd_I_Step l0 a1).f2), .int .i64 ((rd_I_Step l0 a1).f3), .int .i64 ((rd_I_Step l0 a1).f4), .bool ((rd_I_Step l0 a1).f5), .bool ((rd_I_Step l0 a1).f6), .slice A282_7 ((rd_I_Step l0 a1).f7).length c282_7, .bool ((rd_I_Step l0 a1).f8), .slice A282_9 ((rd_I_Step l0 a1).f9).length c282_9, .slice A282_10 ((rd_I_Step l0 a1).f10.f0).length c282_10] 193 (0, 0)) (by (with_reducible repeat (first | refine blk_drewN ?_ _ | refine blk_drew ?_ | refine blk_alloc ?_ _)); refine blk_put (cs := #[.int .i64 ((rd_I_Step l0 a1).f0), .int .i64 ((rd_I_Step l0 a1).f1), .int .i64 ((rd_I_Step l0 a1).f2), .int .i64 ((rd_I_Step l0 a1).f3), .int .i64 ((rd_I_Step l0 a1).f4), .bool ((rd_I_Step l0 a1).f5), .bool ((rd_I_Step l0 a1).f6), .slice A282_7 ((rd_I_Step l0 a1).f7).length c282_7, .bool ((rd_I_Step l0 a1).f8), .slice A282_9 ((rd_I_Step l0 a1).f9).length c282_9, .slice none 0 0]) ?_ 10 _ rfl; (with_reducible repeat (first | refine blk_drewN ?_ _ | refine blk_drew ?_ | refine blk_alloc ?_ _)); refine blk_put (cs := #[.int .i64 ((rd_I_Step l0 a1).f0), .int .i64 ((rd_I_Step l0 a1).f1), .int .i64 ((rd_I_Step l0 a1).f2), .int .i64 ((rd_I_Step l0 a1).f3), .int .i64 ((rd_I_Step l0 a1).f4), .bool ((rd_I_Step l0 a1).f5), .bool ((rd_I_Step l0 a1).f6), .slice A282_7 ((rd_I_Step l0 a1).f7).length c282_7, .bool ((rd_I_Step l0 a1).f8), .slice none 0 0, .slice none 0 0]) ?_ 9 _ rfl; (with_reducible repeat (first | refine blk_drewN ?_ _ | refine blk_drew ?_ | refine blk_alloc ?_ _)); refine blk_put (cs := #[.int .i64 ((rd_I_Step l0 a1).f0), .int .i64 ((rd_I_Step l0 a1).f1), .int .i64 ((rd_I_Step l0 a1).f2), .int .i64 ((rd_I_Step l0 a1).f3), .int .i64 ((rd_I_Step l0 a1).f4), .bool ((rd_I_Step l0 a1).f5), .bool ((rd_I_Step l0 a1).f6), .slice A282_7 ((rd_I_Step l0 a1).f7).length c282_7, .bool false, .slice none 0 0, .slice none 0 0]) ?_ 8 _ rfl; (with_reducible repeat (first | refine blk_drewN ?_ _ | refine blk_drew ?_ | refine blk_alloc ?_ _)); refine blk_put (cs := #[.int .i64 ((rd_I_Step l0 a1).f0), .int .i64 ((rd_I_Step l0 a1).f1), .int .i64 ((rd_I_Step l0 a1).f2), .int .i64 ((rd_I_Step l0 a1).f3), .int .i64 ((rd_I_Step l0 a1).f4), .bool ((rd_I_Step l0 a1).f5), .bool ((rd_I_Step l0 a1).f6), .slice none 0 0, .bool false, .slice none 0 0, .slice none 0 0]) ?_ 7 _ rfl; (with_reducible repeat (first | refine blk_drewN ?_ _ | refine blk_drew ?_ | refine blk_alloc ?_ _)); refine blk_put (cs := #[.int .i64 ((rd_I_Step l0 a1).f0), .int .i64 ((rd_I_Step l0 a1).f1), .int .i64 ((rd_I_Step l0 a1).f2), .int .i64 ((rd_I_Step l0 a1).f3), .int .i64 ((rd_I_Step l0 a1).f4), .bool ((rd_I_Step l0 a1).f5), .bool false, .slice none 0 0, .bool false, .slice none 0 0, .slice none 0 0]) ?_ 6 _ rfl; (with_reducible repeat (first | refine blk_drewN ?_ _ | refine blk_drew ?_ | refine blk_alloc ?_ _)); refine blk_put (cs := #[.int .i64 ((rd_I_Step l0 a1).f0), .int .i64 ((rd_I_Step l0 a1).f1), .int .i64 ((rd_I_Step l0 a1).f2), .int .i64 ((rd_I_Step l0 a1).f3), .int .i64 ((rd_I_Step l0 a1).f4), .bool false, .bool false, .slice none 0 0, .bool false, .slice none 0 0, .slice none 0 0]) ?_ 5 _ rfl; (with_reducible repeat (first | refine blk_drewN ?_ _ | refine blk_drew ?_ | refine blk_alloc ?_ _)); refine blk_put (cs := #[.int .i64 ((rd_I_Step l0 a1).f0), .int .i64 ((rd_I_Step l0 a1).f1), .int .i64 ((rd_I_Step l0 a1).f2), .int .i64 ((rd_I_Step l0 a1).f3), .int .i64 0, .bool false, .bool false, .slice none 0 0, .bool false, .slice none 0 0, .slice none 0 0]) ?_ 4 _ rfl; (with_reducible repeat (first | refine blk_drewN ?_ _ | refine blk_drew ?_ | refine blk_alloc ?_ _)); refine blk_put (cs := #[.int .i64 ((rd_I_Step l0 a1).f0), .int .i64 ((rd_I_Step l0 a1).f1), .int .i64 ((rd_I_Step l0 a1).f2), .int .i64 0, .int .i64 0, .bool false, .bool false, .slice none 0 0, .bool false, .slice none 0 0, .slice none 0 0]) ?_ 3 _ rfl; (with_reducible repeat (first | refine blk_drewN ?_ _ | refine blk_drew ?_ | refine blk_alloc ?_ _)); refine blk_put (cs := #[.int .i64 ((rd_I_Step l0 a1).f0), .int .i64 ((rd_I_Step l0 a1).f1), .int .i64 0, .int .i64 0, .int .i64 0, .bool false, .bool false, .slice none 0 0, .bool false, .slice none 0 0, .slice none 0 0]) ?_ 2 _ rfl; (with_reducible repeat (first | refine blk_drewN ?_ _ | refine blk_drew ?_ | refine blk_alloc ?_ _)); refine blk_put (cs := #[.int .i64 ((rd_I_Step l0 a1).f0), .int .i64 0, .int .i64 0, .int .i64 0, .int .i64 0, .bool false, .bool false, .slice none 0 0, .bool false, .slice none 0 0, .slice none 0 0]) ?_ 1 _ rfl; (with_reducible repeat (first | refine blk_drewN ?_ _ | refine blk_drew ?_ | refine blk_alloc ?_ _)); refine blk_put (cs := #[.int .i64 0, .int .i64 0, .int .i64 0, .int .i64 0, .int .i64 0, .bool false, .bool false, .slice none 0 0, .bool false, .slice none 0 0, .slice none 0 0]) ?_ 0 _ rfl; (with_reducible repeat (first | refine blk_drewN ?_ _ | refine blk_drew ?_ | refine blk_alloc ?_ _)); exact BK283.out) hb); replace HB := ak (below_step (bs1_ HB.out GE283.out) hb); clear hb ho9))
      (try simp only [Act.put, List.setIfInBounds_toArray, List.set_cons_zero, List.set_cons_succ])
      go_cut [21] (fun v21 wc => ∃ (kq : Nat) (x21_4 : Bool), v21 = .bool x21_4 ∧ Aside0 (impl_standsOn.j0 kq a1 y284 x21_4 ((rd_I_Step l0 a1).f0) ((rd_I_Step l0 a1).f1) ((rd_I_Step l0 a1).f2) ((rd_I_Step l0 a1).f3) ((rd_I_Step l0 a1).f4) ((rd_I_Step l0 a1).f5) ((rd_I_Step l0 a1).f6) ((rd_I_Step l0 a1).f7) ((rd_I_Step l0 a1).f8) ((rd_I_Step l0 a1).f9) ((rd_I_Step l0 a1).f10.f0) = some r) ∧ Aside0 (kq ≤ k) ∧ Aside0 (Kd.R (Kd.int .i64) 3 wc w.heap.size (fun _ => True) v285 y284) ∧ Aside0 (wc.heap[gb283]? = some (.cells #[.int .i64 ((rd_I_Step l0 a1).f0), .int .i64 ((rd_I_Step l0 a1).f1), .int .i64 ((rd_I_Step l0 a1).f2), .int .i64 ((rd_I_Step l0 a1).f3), .int .i64 ((rd_I_Step l0 a1).f4), .bool ((rd_I_Step l0 a1).f5), .bool ((rd_I_Step l0 a1).f6), (.slice A282_7 ((rd_I_Step l0 a1).f7).length c282_7), .bool ((rd_I_Step l0 a1).f8), (.slice A282_9 ((rd_I_Step l0 a1).f9).length c282_9), (.slice A282_10 ((rd_I_Step l0 a1).f10.f0).length c282_10)] 193 (0, 0))) ∧ Aside0 (Below w.heap.size w wc))
      case first =>
        have H := HC5.out; clear HC5
        by_cases c10 : ((rd_I_Step l0 a1).f0) = 1
        · rw [if_pos c10] at H; have c10b0 : (((rd_I_Step l0 a1).f0) == 1) = true := beq_iff_eq.mpr c10; have c10b1 : (((rd_I_Step l0 a1).f0) != 1) = false := bne_eq_false_iff_eq.mpr c10; clear c10; (first | rw [c10b0] | (simp only [i64_w, i32_w]; rw [c10b0]) | (rw [show ∀ x_ y_ : Bool, (!(x_ == y_)) = (x_ != y_) from fun _ _ => rfl, c10b0]) | skip); have H' := ak H; clear H; have hcz11_0 := bc_ BK283.out 0; have hcz11_1 := bc_ BK283.out 1; have hcz11_2 := bc_ BK283.out 2; have hcz11_3 := bc_ BK283.out 3; have hcz11_4 := bc_ BK283.out 4; have hcz11_5 := bc_ BK283.out 5; have hcz11_6 := bc_ BK283.out 6; have hcz11_7 := bc_ BK283.out 7; have hcz11_8 := bc_ BK283.out 8; have hcz11_9 := bc_ BK283.out 9; have hcz11_10 := bc_ BK283.out 10; have hfz11_0 := blk_frozen BK283.out 0; have hfz11_1 := blk_frozen BK283.out 1; have hfz11_2 := blk_frozen BK283.out 2; have hfz11_3 := blk_frozen BK283.out 3; have hfz11_4 := blk_frozen BK283.out 4; have hfz11_5 := blk_frozen BK283.out 5; have hfz11_6 := blk_frozen BK283.out 6; have hfz11_7 := blk_frozen BK283.out 7; have hfz11_8 := blk_frozen BK283.out 8; have hfz11_9 := blk_frozen BK283.out 9; have hfz11_10 := blk_frozen BK283.out 10
          go_wp2
          go_meet
          case rel => exact ⟨_, (false), (by first | rfl | (simp; done) | (simp [*]; done)), H', ⟨by first | omega | exact Nat.le_refl _⟩, ⟨by (with_reducible repeat (first | apply Kd.R_alloc | apply Kd.R_drewN | apply Kd.R_drew)); exact HO286.out⟩, ⟨bk_ BK283.out⟩, ⟨bs1_ HB.out GE283.out⟩⟩
        rw [if_neg c10] at H; have c10b0 : (((rd_I_Step l0 a1).f0) == 1) = false := beq_eq_false_iff_ne.mpr c10; have c10b1 : (((rd_I_Step l0 a1).f0) != 1) = true := bne_iff_ne.mpr c10; (first | rw [c10b0] | (simp only [i64_w, i32_w]; rw [c10b0]) | (rw [show ∀ x_ y_ : Bool, (!(x_ == y_)) = (x_ != y_) from fun _ _ => rfl, c10b0]) | skip); replace H := Option.bind_eq_some_iff.mp H; obtain ⟨t287, A120, H⟩ := H; have A12 := ak A120; clear A120; have H' := ak H; clear H; have hcz13_0 := bc_ BK283.out 0; have hcz13_1 := bc_ BK283.out 1; have hcz13_2 := bc_ BK283.out 2; have hcz13_3 := bc_ BK283.out 3; have hcz13_4 := bc_ BK283.out 4; have hcz13_5 := bc_ BK283.out 5; have hcz13_6 := bc_ BK283.out 6; have hcz13_7 := bc_ BK283.out 7; have hcz13_8 := bc_ BK283.out 8; have hcz13_9 := bc_ BK283.out 9; have hcz13_10 := bc_ BK283.out 10; have hfz13_0 := blk_frozen BK283.out 0; have hfz13_1 := blk_frozen BK283.out 1; have hfz13_2 := blk_frozen BK283.out 2; have hfz13_3 := blk_frozen BK283.out 3; have hfz13_4 := blk_frozen BK283.out 4; have hfz13_5 := blk_frozen BK283.out 5; have hfz13_6 := blk_frozen BK283.out 6; have hfz13_7 := blk_frozen BK283.out 7; have hfz13_8 := blk_frozen BK283.out 8; have hfz13_9 := blk_frozen BK283.out 9; have hfz13_10 := blk_frozen BK283.out 10
        go_wp2_with (first | (go_at_call 134; (with_reducible refine (impl_from.calls ((rd_I_Step l0 a1).f1) 0 (wrap64 (a1 - 1)) t287 _ A12.out).mono ?_); rintro e w' ⟨rfl, ⟨nd, rfl⟩⟩))
        go_meet
        case rel => exact ⟨_, (t287), (by first | rfl | (simp; done) | (simp [*]; done)), H', ⟨by first | omega | exact Nat.le_refl _⟩, ⟨by (with_reducible repeat (first | apply Kd.R_alloc | apply Kd.R_drewN | apply Kd.R_drew)); exact HO286.out⟩, ⟨bk_ BK283.out⟩, ⟨bs1_ HB.out GE283.out⟩⟩
      case rest =>
        clear HC5; (try clear c1); (try clear c2); (try clear p2); (try clear q2); (try clear hx2); (try clear c3); (try clear c3b0); (try clear c4); (try clear c4b0); (try clear p6); (try clear c10); (try clear c10b0); (try clear c10b1); (try clear hcz11_0); (try clear hcz11_1); (try clear hcz11_10); (try clear hcz11_2); (try clear hcz11_3); (try clear hcz11_4); (try clear hcz11_5); (try clear hcz11_6); (try clear hcz11_7); (try clear hcz11_8); (try clear hcz11_9); (try clear hcz13_0); (try clear hcz13_1); (try clear hcz13_10); (try clear hcz13_2); (try clear hcz13_3); (try clear hcz13_4); (try clear hcz13_5); (try clear hcz13_6); (try clear hcz13_7); (try clear hcz13_8); (try clear hcz13_9); (try clear hcz7_0); (try clear hcz7_1); (try clear hcz7_10); (try clear hcz7_2); (try clear hcz7_3); (try clear hcz7_4); (try clear hcz7_5); (try clear hcz7_6); (try clear hcz7_7); (try clear hcz7_8); (try clear hcz7_9); (try clear hfz11_0); (try clear hfz11_1); (try clear hfz11_10); (try clear hfz11_2); (try clear hfz11_3); (try clear hfz11_4); (try clear hfz11_5); (try clear hfz11_6); (try clear hfz11_7); (try clear hfz11_8); (try clear hfz11_9); (try clear hfz13_0); (try clear hfz13_1); (try clear hfz13_10); (try clear hfz13_2); (try clear hfz13_3); (try clear hfz13_4); (try clear hfz13_5); (try clear hfz13_6); (try clear hfz13_7); (try clear hfz13_8); (try clear hfz13_9); (try clear hfz7_0); (try clear hfz7_1); (try clear hfz7_10); (try clear hfz7_2); (try clear hfz7_3); (try clear hfz7_4); (try clear hfz7_5); (try clear hfz7_6); (try clear hfz7_7); (try clear hfz7_8); (try clear hfz7_9); (try clear hx282_0); (try clear hx282_1); (try clear hx282_10); (try clear hx282_2); (try clear hx282_3); (try clear hx282_4); (try clear hx282_5); (try clear hx282_6); (try clear hx282_7); (try clear hx282_8); (try clear hx282_9); (try clear p282); (try clear q282); obtain ⟨kq, x21_4, rfl, HA, HJ4, HO_6, BK283, HB⟩ := hcut
        cases kq with
        | zero => exact absurd HA.out (by simp [impl_standsOn.j0])
        | succ kj4 =>
          have H := HA.out; clear HA
          simp only [impl_standsOn.j0] at H
          have HC14 := ak H; clear H
          go_upto_if 21 with (fail)
          go_cut [6] (fun v6 wc => ∃ (kq : Nat) (x6_13 : List Int), Aside0 (impl_standsOn.j1 kq a1 x6_13 ((rd_I_Step l0 a1).f0) ((rd_I_Step l0 a1).f1) ((rd_I_Step l0 a1).f2) ((rd_I_Step l0 a1).f3) ((rd_I_Step l0 a1).f4) ((rd_I_Step l0 a1).f5) ((rd_I_Step l0 a1).f6) ((rd_I_Step l0 a1).f7) ((rd_I_Step l0 a1).f8) ((rd_I_Step l0 a1).f9) ((rd_I_Step l0 a1).f10.f0) = some r) ∧ Aside0 (kq ≤ kj4) ∧ Aside0 (Kd.R (Kd.int .i64) 3 wc w.heap.size (fun _ => True) v6 x6_13) ∧ Aside0 (wc.heap[gb283]? = some (.cells #[.int .i64 ((rd_I_Step l0 a1).f0), .int .i64 ((rd_I_Step l0 a1).f1), .int .i64 ((rd_I_Step l0 a1).f2), .int .i64 ((rd_I_Step l0 a1).f3), .int .i64 ((rd_I_Step l0 a1).f4), .bool ((rd_I_Step l0 a1).f5), .bool ((rd_I_Step l0 a1).f6), (.slice A282_7 ((rd_I_Step l0 a1).f7).length c282_7), .bool ((rd_I_Step l0 a1).f8), (.slice A282_9 ((rd_I_Step l0 a1).f9).length c282_9), (.slice A282_10 ((rd_I_Step l0 a1).f10.f0).length c282_10)] 193 (0, 0))) ∧ Aside0 (Below w.heap.size w wc))
          case first =>
            have H := HC14.out; clear HC14
            by_cases c15 : x21_4 = true
            · subst c15; rw [if_pos rfl] at H
              by_cases c16 : y284.length < 17592186044416
              · rw [if_pos c16] at H; have LMc16 := ak c16; clear c16; obtain ⟨y288, hy288⟩ : ∃ y_ : List Int, y_ = (y284 ++ [((rd_I_Step l0 a1).f1)]) := ⟨_, rfl⟩; replace H : (impl_standsOn.j1 kj4 a1 y288 ((rd_I_Step l0 a1).f0) ((rd_I_Step l0 a1).f1) ((rd_I_Step l0 a1).f2) ((rd_I_Step l0 a1).f3) ((rd_I_Step l0 a1).f4) ((rd_I_Step l0 a1).f5) ((rd_I_Step l0 a1).f6) ((rd_I_Step l0 a1).f7) ((rd_I_Step l0 a1).f8) ((rd_I_Step l0 a1).f9) ((rd_I_Step l0 a1).f10.f0)) = some r := by first | (rw [hy288]; with_reducible exact H) | (have H2_ := (Option.bind_some _ _).symm.trans H; rw [hy288]; with_reducible exact H2_) | (have H2_ := (Option.bind_some _ _).symm.trans H; with_reducible exact H2_) | with_reducible exact H | (rw [hy288]; exact H) | exact H
                have Ny288 := ak hy288; clear hy288; have H' := ak H; clear H; have hcz17_0 := bc_ BK283.out 0; have hcz17_1 := bc_ BK283.out 1; have hcz17_2 := bc_ BK283.out 2; have hcz17_3 := bc_ BK283.out 3; have hcz17_4 := bc_ BK283.out 4; have hcz17_5 := bc_ BK283.out 5; have hcz17_6 := bc_ BK283.out 6; have hcz17_7 := bc_ BK283.out 7; have hcz17_8 := bc_ BK283.out 8; have hcz17_9 := bc_ BK283.out 9; have hcz17_10 := bc_ BK283.out 10; have hfz17_0 := blk_frozen BK283.out 0; have hfz17_1 := blk_frozen BK283.out 1; have hfz17_2 := blk_frozen BK283.out 2; have hfz17_3 := blk_frozen BK283.out 3; have hfz17_4 := blk_frozen BK283.out 4; have hfz17_5 := blk_frozen BK283.out 5; have hfz17_6 := blk_frozen BK283.out 6; have hfz17_7 := blk_frozen BK283.out 7; have hfz17_8 := blk_frozen BK283.out 8; have hfz17_9 := blk_frozen BK283.out 9; have hfz17_10 := blk_frozen BK283.out 10
                go_wp2_with (first | ((with_reducible refine gate_builtin (b := .append) (xs := #[.tmp 22, .tmp 25]) rfl ?_); at_builtin; refine Kd.R_append (Kd.int .i64) (w0 := w) w.heap.size rfl (.tmp 22) (.tmp 25) 52 3 (.int .i64 0) 8 rfl Try.underlying52 info3 rfl (by decide) (by omega) v285 y284 ((rd_I_Step l0 a1).f1) [.int .i64 ((rd_I_Step l0 a1).f1)] (fun _ => True) (fun _ => False) rfl rfl ?aP (fun _ hk => hk.elim) ?aF ?aO ?aB ?aS ?aL ?_; (case aP => exact rfl); (case aB => exact (bs1_ HB.out GE283.out)); (case aF => exact (fun _ _ => trivial)); (case aO => exact (ra_ HO_6.out)); (case aS => exact (below_size (bs1_ HB.out GE283.out))); (case aL => have := LMc16.out; omega); intro v289 w18 ho hb hg hat; rw [← Ny288.out] at ho; replace BK283 := ak (blk_grown (g := gb283) (o := .cells #[.int .i64 ((rd_I_Step l0 a1).f0), .int .i64 ((rd_I_Step l0 a1).f1), .int .i64 ((rd_I_Step l0 a1).f2), .int .i64 ((rd_I_Step l0 a1).f3), .int .i64 ((rd_I_Step l0 a1).f4), .bool ((rd_I_Step l0 a1).f5), .bool ((rd_I_Step l0 a1).f6), .slice A282_7 ((rd_I_Step l0 a1).f7).length c282_7, .bool ((rd_I_Step l0 a1).f8), .slice A282_9 ((rd_I_Step l0 a1).f9).length c282_9, .slice A282_10 ((rd_I_Step l0 a1).f10.f0).length c282_10] 193 (0, 0)) (bk_ BK283.out) hg (Kd.R_ne HO_6.out BK283.out (by decide))); replace HB := ak (hb); have HO290 := ak (ho); clear HO_6; clear ho hb hg hat))
                go_meet
                case rel => exact ⟨_, (y288), H', ⟨by have := HJ4.out; first | omega | exact Nat.le_refl _⟩, ⟨by (with_reducible repeat (first | apply Kd.R_alloc | apply Kd.R_drewN | apply Kd.R_drew)); exact HO290.out⟩, ⟨bk_ BK283.out⟩, ⟨bs1_ HB.out GE283.out⟩⟩
              rw [if_neg c16] at H; exact absurd H (by simp)
            replace c15 := Bool.eq_false_iff.mpr c15; subst c15; rw [if_neg (show ¬ (false = true) by decide)] at H; have H' := ak H; clear H
            go_wp2
            go_meet
            case rel => exact ⟨_, (y284), H', ⟨by have := HJ4.out; first | omega | exact Nat.le_refl _⟩, ⟨by (with_reducible repeat (first | apply Kd.R_alloc | apply Kd.R_drewN | apply Kd.R_drew)); exact HO_6.out⟩, ⟨bk_ BK283.out⟩, ⟨bs1_ HB.out GE283.out⟩⟩
          case rest =>
            clear HC14; (try clear c1); (try clear c2); (try clear p2); (try clear q2); (try clear hx2); (try clear c3); (try clear c3b0); (try clear c4); (try clear c4b0); (try clear p6); (try clear c10); (try clear c10b0); (try clear c10b1); (try clear c15); (try clear c16); (try clear c17); (try clear hcz11_0); (try clear hcz11_1); (try clear hcz11_10); (try clear hcz11_2); (try clear hcz11_3); (try clear hcz11_4); (try clear hcz11_5); (try clear hcz11_6); (try clear hcz11_7); (try clear hcz11_8); (try clear hcz11_9); (try clear hcz13_0); (try clear hcz13_1); (try clear hcz13_10); (try clear hcz13_2); (try clear hcz13_3); (try clear hcz13_4); (try clear hcz13_5); (try clear hcz13_6); (try clear hcz13_7); (try clear hcz13_8); (try clear hcz13_9); (try clear hcz17_0); (try clear hcz17_1); (try clear hcz17_10); (try clear hcz17_2); (try clear hcz17_3); (try clear hcz17_4); (try clear hcz17_5); (try clear hcz17_6); (try clear hcz17_7); (try clear hcz17_8); (try clear hcz17_9); (try clear hcz7_0); (try clear hcz7_1); (try clear hcz7_10); (try clear hcz7_2); (try clear hcz7_3); (try clear hcz7_4); (try clear hcz7_5); (try clear hcz7_6); (try clear hcz7_7); (try clear hcz7_8); (try clear hcz7_9); (try clear hfz11_0); (try clear hfz11_1); (try clear hfz11_10); (try clear hfz11_2); (try clear hfz11_3); (try clear hfz11_4); (try clear hfz11_5); (try clear hfz11_6); (try clear hfz11_7); (try clear hfz11_8); (try clear hfz11_9); (try clear hfz13_0); (try clear hfz13_1); (try clear hfz13_10); (try clear hfz13_2); (try clear hfz13_3); (try clear hfz13_4); (try clear hfz13_5); (try clear hfz13_6); (try clear hfz13_7); (try clear hfz13_8); (try clear hfz13_9); (try clear hfz17_0); (try clear hfz17_1); (try clear hfz17_10); (try clear hfz17_2); (try clear hfz17_3); (try clear hfz17_4); (try clear hfz17_5); (try clear hfz17_6); (try clear hfz17_7); (try clear hfz17_8); (try clear hfz17_9); (try clear hfz7_0); (try clear hfz7_1); (try clear hfz7_10); (try clear hfz7_2); (try clear hfz7_3); (try clear hfz7_4); (try clear hfz7_5); (try clear hfz7_6); (try clear hfz7_7); (try clear hfz7_8); (try clear hfz7_9); (try clear hx282_0); (try clear hx282_1); (try clear hx282_10); (try clear hx282_2); (try clear hx282_3); (try clear hx282_4); (try clear hx282_5); (try clear hx282_6); (try clear hx282_7); (try clear hx282_8); (try clear hx282_9); (try clear p2); (try clear p282); (try clear p6); (try clear q2); (try clear q282); obtain ⟨kq, x6_13, HA, HJ13, HO_6, BK283, HB⟩ := hcut
            cases kq with
            | zero => exact absurd HA.out (by simp [impl_standsOn.j1])
            | succ kj13 =>
              have H := HA.out; clear HA
              simp only [impl_standsOn.j1] at H
              replace H := Option.bind_eq_some_iff.mp H; obtain ⟨t291, A190, H⟩ := H; have A19 := ak A190; clear A190
              by_cases c20 : t291 = true
              · subst c20; rw [if_pos rfl] at H; replace H := Option.bind_eq_some_iff.mp H; obtain ⟨t292, A210, H⟩ := H; have A21 := ak A210; clear A210
                by_cases c22 : t292 = true
                · subst c22; rw [if_pos rfl] at H; replace H := Option.bind_eq_some_iff.mp H; obtain ⟨t293, A230, H⟩ := H; have A23 := ak A230; clear A230; obtain rfl := Option.some.inj H; have hcz24_0 := bc_ BK283.out 0; have hcz24_1 := bc_ BK283.out 1; have hcz24_2 := bc_ BK283.out 2; have hcz24_3 := bc_ BK283.out 3; have hcz24_4 := bc_ BK283.out 4; have hcz24_5 := bc_ BK283.out 5; have hcz24_6 := bc_ BK283.out 6; have hcz24_7 := bc_ BK283.out 7; have hcz24_8 := bc_ BK283.out 8; have hcz24_9 := bc_ BK283.out 9; have hcz24_10 := bc_ BK283.out 10; have hfz24_0 := blk_frozen BK283.out 0; have hfz24_1 := blk_frozen BK283.out 1; have hfz24_2 := blk_frozen BK283.out 2; have hfz24_3 := blk_frozen BK283.out 3; have hfz24_4 := blk_frozen BK283.out 4; have hfz24_5 := blk_frozen BK283.out 5; have hfz24_6 := blk_frozen BK283.out 6; have hfz24_7 := blk_frozen BK283.out 7; have hfz24_8 := blk_frozen BK283.out 8; have hfz24_9 := blk_frozen BK283.out 9; have hfz24_10 := blk_frozen BK283.out 10
                  go_wp2_with (first | ((with_reducible refine gate_callee (f := 215) rfl ?_); refine goesM_ (some 28) rfl rfl Try.func215 (by kernel_rfl) rfl #[.agg #[.int .i64 ((rd_I_Step l0 a1).f0), .int .i64 ((rd_I_Step l0 a1).f1), .int .i64 ((rd_I_Step l0 a1).f2), .int .i64 ((rd_I_Step l0 a1).f3), .int .i64 ((rd_I_Step l0 a1).f4), .bool ((rd_I_Step l0 a1).f5), .bool ((rd_I_Step l0 a1).f6), .slice A282_7 ((rd_I_Step l0 a1).f7).length c282_7, .bool ((rd_I_Step l0 a1).f8), .slice A282_9 ((rd_I_Step l0 a1).f9).length c282_9, .slice A282_10 ((rd_I_Step l0 a1).f10.f0).length c282_10]] rfl ?_; (with_reducible refine (impl_usesB.calls ((rd_I_Step l0 a1).f0) ((rd_I_Step l0 a1).f1) ((rd_I_Step l0 a1).f2) ((rd_I_Step l0 a1).f3) ((rd_I_Step l0 a1).f4) ((rd_I_Step l0 a1).f5) ((rd_I_Step l0 a1).f6) _ _ ((rd_I_Step l0 a1).f7) ((rd_I_Step l0 a1).f8) _ _ ((rd_I_Step l0 a1).f9) _ _ ((rd_I_Step l0 a1).f10.f0) true _ ?side1 ?side2 ?side3 ?side4 ?side5 ?side6 A19.out).mono ?_); (case side1 => exact cb_ HR282_7.out HB.out); (case side2 => exact HC282_7.out); (case side3 => exact cb_ HR282_9.out HB.out); (case side4 => exact HC282_9.out); (case side5 => exact cb_ HR282_10.out HB.out); (case side6 => exact HC282_10.out); rintro e w25 ⟨rfl, hb⟩; refine ⟨_, rfl, ?_⟩; replace HO_6 := ak (Kd.R_below (ra_ HO_6.out) hb); replace BK283 := ak (blk_below (bk_ BK283.out) hb); replace HB := ak (below_step (bs1_ HB.out GE283.out) hb); (try clear hb); (try clear hb2); (try clear hk); (try clear hi); have hcz26_0 := bc_ BK283.out 0; have hcz26_1 := bc_ BK283.out 1; have hcz26_2 := bc_ BK283.out 2; have hcz26_3 := bc_ BK283.out 3; have hcz26_4 := bc_ BK283.out 4; have hcz26_5 := bc_ BK283.out 5; have hcz26_6 := bc_ BK283.out 6; have hcz26_7 := bc_ BK283.out 7; have hcz26_8 := bc_ BK283.out 8; have hcz26_9 := bc_ BK283.out 9; have hcz26_10 := bc_ BK283.out 10; have hfz26_0 := blk_frozen BK283.out 0; have hfz26_1 := blk_frozen BK283.out 1; have hfz26_2 := blk_frozen BK283.out 2; have hfz26_3 := blk_frozen BK283.out 3; have hfz26_4 := blk_frozen BK283.out 4; have hfz26_5 := blk_frozen BK283.out 5; have hfz26_6 := blk_frozen BK283.out 6; have hfz26_7 := blk_frozen BK283.out 7; have hfz26_8 := blk_frozen BK283.out 8; have hfz26_9 := blk_frozen BK283.out 9; have hfz26_10 := blk_frozen BK283.out 10) | (go_at_call 134; (with_reducible refine (impl_from.calls ((rd_I_Step l0 a1).f2) 0 (wrap64 (a1 - 1)) true _ A21.out).mono ?_); rintro e w' ⟨rfl, ⟨nd, rfl⟩⟩; obtain ⟨Ao27, co27, eo27⟩ := Kd.R_slice HO_6.out; subst eo27) | ((with_reducible refine gate_callee (f := 183) rfl ?_); refine goesM_ (some 39) rfl rfl Try.func183 (by kernel_rfl) rfl #[.slice Ao27 x6_13.length co27, .int .i64 ((rd_I_Step l0 a1).f2)] rfl ?_; (with_reducible refine (impl_NumAdd.calls kj13 _ _ x6_13 ((rd_I_Step l0 a1).f2) t293 _ ?side1 ?side2 A23.out).mono ?_); (case side1 => exact ca_ (Kd.R_reads' HO_6.out).2.2); (case side2 => exact (Kd.R_reads' HO_6.out).2.1); rintro e w28 ⟨v294, rfl, ho0, hb⟩; refine ⟨_, rfl, ?_⟩; have HO295 := ak (Kd.R_lower (Kd.R_new' ho0 (Kd.R_lt (ra_ HO_6.out))) (below_size (bs1_ HB.out GE283.out))); replace HO_6 := ak (Kd.R_elder' (ra_ HO_6.out) (Kd.R_base ho0) hb); replace BK283 := ak (blk_below (bk_ BK283.out) hb); replace HB := ak (below_step (bs1_ HB.out GE283.out) hb); (try clear hb); (try clear hb2); (try clear hk); (try clear hi); (try clear ho0)))
                  go_ret
                  exact ⟨_, by first | rfl | (simp [errW_none, errW_some] <;> rfl) | (simp [*, errW_none, errW_some] <;> rfl), by (with_reducible repeat (first | apply Kd.R_alloc | apply Kd.R_drewN | apply Kd.R_drew)); exact Kd.R_mono HO295.out (fun _ hk => trivial), by repeat (first | (with_reducible first | exact HB.out | apply below_alloc | apply pw_below_drewN | apply below_drew1 | refine below_set ?_ GE283.out) | exact HB.out)⟩
                replace c22 := Bool.eq_false_iff.mpr c22; subst c22; rw [if_neg (show ¬ (false = true) by decide)] at H; obtain rfl := Option.some.inj H; have hcz29_0 := bc_ BK283.out 0; have hcz29_1 := bc_ BK283.out 1; have hcz29_2 := bc_ BK283.out 2; have hcz29_3 := bc_ BK283.out 3; have hcz29_4 := bc_ BK283.out 4; have hcz29_5 := bc_ BK283.out 5; have hcz29_6 := bc_ BK283.out 6; have hcz29_7 := bc_ BK283.out 7; have hcz29_8 := bc_ BK283.out 8; have hcz29_9 := bc_ BK283.out 9; have hcz29_10 := bc_ BK283.out 10; have hfz29_0 := blk_frozen BK283.out 0; have hfz29_1 := blk_frozen BK283.out 1; have hfz29_2 := blk_frozen BK283.out 2; have hfz29_3 := blk_frozen BK283.out 3; have hfz29_4 := blk_frozen BK283.out 4; have hfz29_5 := blk_frozen BK283.out 5; have hfz29_6 := blk_frozen BK283.out 6; have hfz29_7 := blk_frozen BK283.out 7; have hfz29_8 := blk_frozen BK283.out 8; have hfz29_9 := blk_frozen BK283.out 9; have hfz29_10 := blk_frozen BK283.out 10
                go_wp2_with (first | ((with_reducible refine gate_callee (f := 215) rfl ?_); refine goesM_ (some 28) rfl rfl Try.func215 (by kernel_rfl) rfl #[.agg #[.int .i64 ((rd_I_Step l0 a1).f0), .int .i64 ((rd_I_Step l0 a1).f1), .int .i64 ((rd_I_Step l0 a1).f2), .int .i64 ((rd_I_Step l0 a1).f3), .int .i64 ((rd_I_Step l0 a1).f4), .bool ((rd_I_Step l0 a1).f5), .bool ((rd_I_Step l0 a1).f6), .slice A282_7 ((rd_I_Step l0 a1).f7).length c282_7, .bool ((rd_I_Step l0 a1).f8), .slice A282_9 ((rd_I_Step l0 a1).f9).length c282_9, .slice A282_10 ((rd_I_Step l0 a1).f10.f0).length c282_10]] rfl ?_; (with_reducible refine (impl_usesB.calls ((rd_I_Step l0 a1).f0) ((rd_I_Step l0 a1).f1) ((rd_I_Step l0 a1).f2) ((rd_I_Step l0 a1).f3) ((rd_I_Step l0 a1).f4) ((rd_I_Step l0 a1).f5) ((rd_I_Step l0 a1).f6) _ _ ((rd_I_Step l0 a1).f7) ((rd_I_Step l0 a1).f8) _ _ ((rd_I_Step l0 a1).f9) _ _ ((rd_I_Step l0 a1).f10.f0) true _ ?side1 ?side2 ?side3 ?side4 ?side5 ?side6 A19.out).mono ?_); (case side1 => exact cb_ HR282_7.out HB.out); (case side2 => exact HC282_7.out); (case side3 => exact cb_ HR282_9.out HB.out); (case side4 => exact HC282_9.out); (case side5 => exact cb_ HR282_10.out HB.out); (case side6 => exact HC282_10.out); rintro e w30 ⟨rfl, hb⟩; refine ⟨_, rfl, ?_⟩; replace HO_6 := ak (Kd.R_below (ra_ HO_6.out) hb); replace BK283 := ak (blk_below (bk_ BK283.out) hb); replace HB := ak (below_step (bs1_ HB.out GE283.out) hb); (try clear hb); (try clear hb2); (try clear hk); (try clear hi); have hcz31_0 := bc_ BK283.out 0; have hcz31_1 := bc_ BK283.out 1; have hcz31_2 := bc_ BK283.out 2; have hcz31_3 := bc_ BK283.out 3; have hcz31_4 := bc_ BK283.out 4; have hcz31_5 := bc_ BK283.out 5; have hcz31_6 := bc_ BK283.out 6; have hcz31_7 := bc_ BK283.out 7; have hcz31_8 := bc_ BK283.out 8; have hcz31_9 := bc_ BK283.out 9; have hcz31_10 := bc_ BK283.out 10; have hfz31_0 := blk_frozen BK283.out 0; have hfz31_1 := blk_frozen BK283.out 1; have hfz31_2 := blk_frozen BK283.out 2; have hfz31_3 := blk_frozen BK283.out 3; have hfz31_4 := blk_frozen BK283.out 4; have hfz31_5 := blk_frozen BK283.out 5; have hfz31_6 := blk_frozen BK283.out 6; have hfz31_7 := blk_frozen BK283.out 7; have hfz31_8 := blk_frozen BK283.out 8; have hfz31_9 := blk_frozen BK283.out 9; have hfz31_10 := blk_frozen BK283.out 10) | (go_at_call 134; (with_reducible refine (impl_from.calls ((rd_I_Step l0 a1).f2) 0 (wrap64 (a1 - 1)) false _ A21.out).mono ?_); rintro e w' ⟨rfl, ⟨nd, rfl⟩⟩))
                go_ret
                exact ⟨_, by first | rfl | (simp [errW_none, errW_some] <;> rfl) | (simp [*, errW_none, errW_some] <;> rfl), by (with_reducible repeat (first | apply Kd.R_alloc | apply Kd.R_drewN | apply Kd.R_drew)); exact HO_6.out, by repeat (first | (with_reducible first | exact HB.out | apply below_alloc | apply pw_below_drewN | apply below_drew1 | refine below_set ?_ GE283.out) | exact HB.out)⟩
              replace c20 := Bool.eq_false_iff.mpr c20; subst c20; rw [if_neg (show ¬ (false = true) by decide)] at H; obtain rfl := Option.some.inj H; have hcz32_0 := bc_ BK283.out 0; have hcz32_1 := bc_ BK283.out 1; have hcz32_2 := bc_ BK283.out 2; have hcz32_3 := bc_ BK283.out 3; have hcz32_4 := bc_ BK283.out 4; have hcz32_5 := bc_ BK283.out 5; have hcz32_6 := bc_ BK283.out 6; have hcz32_7 := bc_ BK283.out 7; have hcz32_8 := bc_ BK283.out 8; have hcz32_9 := bc_ BK283.out 9; have hcz32_10 := bc_ BK283.out 10; have hfz32_0 := blk_frozen BK283.out 0; have hfz32_1 := blk_frozen BK283.out 1; have hfz32_2 := blk_frozen BK283.out 2; have hfz32_3 := blk_frozen BK283.out 3; have hfz32_4 := blk_frozen BK283.out 4; have hfz32_5 := blk_frozen BK283.out 5; have hfz32_6 := blk_frozen BK283.out 6; have hfz32_7 := blk_frozen BK283.out 7; have hfz32_8 := blk_frozen BK283.out 8; have hfz32_9 := blk_frozen BK283.out 9; have hfz32_10 := blk_frozen BK283.out 10
              go_wp2_with (first | ((with_reducible refine gate_callee (f := 215) rfl ?_); refine goesM_ (some 28) rfl rfl Try.func215 (by kernel_rfl) rfl #[.agg #[.int .i64 ((rd_I_Step l0 a1).f0), .int .i64 ((rd_I_Step l0 a1).f1), .int .i64 ((rd_I_Step l0 a1).f2), .int .i64 ((rd_I_Step l0 a1).f3), .int .i64 ((rd_I_Step l0 a1).f4), .bool ((rd_I_Step l0 a1).f5), .bool ((rd_I_Step l0 a1).f6), .slice A282_7 ((rd_I_Step l0 a1).f7).length c282_7, .bool ((rd_I_Step l0 a1).f8), .slice A282_9 ((rd_I_Step l0 a1).f9).length c282_9, .slice A282_10 ((rd_I_Step l0 a1).f10.f0).length c282_10]] rfl ?_; (with_reducible refine (impl_usesB.calls ((rd_I_Step l0 a1).f0) ((rd_I_Step l0 a1).f1) ((rd_I_Step l0 a1).f2) ((rd_I_Step l0 a1).f3) ((rd_I_Step l0 a1).f4) ((rd_I_Step l0 a1).f5) ((rd_I_Step l0 a1).f6) _ _ ((rd_I_Step l0 a1).f7) ((rd_I_Step l0 a1).f8) _ _ ((rd_I_Step l0 a1).f9) _ _ ((rd_I_Step l0 a1).f10.f0) false _ ?side1 ?side2 ?side3 ?side4 ?side5 ?side6 A19.out).mono ?_); (case side1 => exact cb_ HR282_7.out HB.out); (case side2 => exact HC282_7.out); (case side3 => exact cb_ HR282_9.out HB.out); (case side4 => exact HC282_9.out); (case side5 => exact cb_ HR282_10.out HB.out); (case side6 => exact HC282_10.out); rintro e w33 ⟨rfl, hb⟩; refine ⟨_, rfl, ?_⟩; replace HO_6 := ak (Kd.R_below (ra_ HO_6.out) hb); replace BK283 := ak (blk_below (bk_ BK283.out) hb); replace HB := ak (below_step (bs1_ HB.out GE283.out) hb); (try clear hb); (try clear hb2); (try clear hk); (try clear hi)))
              go_ret
              exact ⟨_, by first | rfl | (simp [errW_none, errW_some] <;> rfl) | (simp [*, errW_none, errW_some] <;> rfl), by (with_reducible repeat (first | apply Kd.R_alloc | apply Kd.R_drewN | apply Kd.R_drew)); exact HO_6.out, by repeat (first | (with_reducible first | exact HB.out | apply below_alloc | apply pw_below_drewN | apply below_drew1 | refine below_set ?_ GE283.out) | exact HB.out)⟩
    rw [if_neg c4] at H; exact absurd H (by simp)
  rw [if_neg c3] at H; exact absurd H (by simp)

/-! ### impl_UsesOf: function 69 -/
def impl_UsesOf.l0 : Nat → List (I_Step) → Int → Int → Int → Int → Option (Int)
  | 0, _, _, _, _, _ => none
  | k + 1, x0, x1, x5, x8, x9 => if x9 < x8 then ((impl_standsOn.f k x0 x9).bind fun t296 => ((impl_NumIn.f k t296 x1).bind fun t299 => (if t299 = true then (impl_UsesOf.l0 k x0 x1 (wrap64 (x5 + 1)) x8 (wrap64 (x9 + 1))) else (impl_UsesOf.l0 k x0 x1 x5 x8 (wrap64 (x9 + 1)))))) else (some x5)
def impl_UsesOf.f (k : Nat) (l0 : List (I_Step)) (a1 : Int) : Option (Int) := impl_UsesOf.l0 k l0 a1 0 (l0.length : Int) 0
theorem impl_UsesOf.mono_l : ∀ k, (∀ y0 y1 y2 y3 y4, LeO (impl_UsesOf.l0 k y0 y1 y2 y3 y4) (impl_UsesOf.l0 (k + 1) y0 y1 y2 y3 y4))
  | 0 => fun _ _ _ _ _ r h => by simp [impl_UsesOf.l0] at h
  | k + 1 => by
    have ih0 := impl_UsesOf.mono_l k
    · intro y0 y1 y2 y3 y4
      unfold impl_UsesOf.l0
      repeat' first | (with_reducible first | exact ih0 _ _ _ _ _ | exact impl_NumIn.mono _ _ _ | exact impl_standsOn.mono _ _ _ | exact LeO.refl _ | exact LeO.none _ | refine LeO.ite ?_ ?_ | refine LeO.bind ?_ (fun _ => ?_)) | exact ih0 _ _ _ _ _ | exact impl_NumIn.mono _ _ _ | exact impl_standsOn.mono _ _ _ | exact LeO.none _ | refine LeO.ite ?_ ?_ | refine LeO.bind ?_ (fun _ => ?_)
theorem impl_UsesOf.mono : ∀ a0 a1 k, LeO (impl_UsesOf.f k a0 a1) (impl_UsesOf.f (k + 1) a0 a1) := by
  intro a0 a1 k; have ih0 := impl_UsesOf.mono_l k
  unfold impl_UsesOf.f
  repeat' first
      | (with_reducible exact ih0 _ _ _ _ _)
      | (with_reducible exact impl_NumIn.mono _ _ _)
      | (with_reducible exact impl_standsOn.mono _ _ _)
      | (with_reducible exact LeO.refl _)
      | (with_reducible exact LeO.none _)
      | (with_reducible refine LeO.ite ?_ ?_)
      | (with_reducible refine LeO.bind ?_ (fun _ => ?_))
      | exact ih0 _ _ _ _ _
      | exact impl_NumIn.mono _ _ _
      | exact impl_standsOn.mono _ _ _
      | exact LeO.none _
      | refine LeO.ite ?_ ?_
      | refine LeO.bind ?_ (fun _ => ?_)
set_option maxHeartbeats 8000000 in
set_option maxRecDepth 100000 in
theorem impl_UsesOf.calls (k : Nat) (A0 : Option Addr) (c0 : Nat) (l0 : List (I_Step)) (a1 : Int) (r : Int) (w : World) (hr0 : Kd.C k193 w A0 l0.length l0) (hc0 : l0.length ≤ c0) (h : impl_UsesOf.f k l0 a1 = some r) :
    Calls Try.prog 69 #[.slice A0 l0.length c0, .int .i64 a1] w fun e w' => e = .returned (.int .i64 r) ∧ Below w.heap.size w w' := by
  have HR0 := ak hr0; have HC0 := ak hc0; clear hr0 hc0; have HB := ak (Below.refl w.heap.size w); have H : (impl_UsesOf.l0 k l0 a1 0 (l0.length : Int) 0) = some r := h; clear h; have H' := ak H; clear H
  go_enter Try.func69, Try.ntmps69
  go_wp2
  go_loopg [5, 9] k (fun kq v5 v9 w' => ∃ (x5_1 : Int) (x9_1 : Int), v5 = .int .i64 x5_1 ∧ v9 = .int .i64 x9_1 ∧ Aside0 (impl_UsesOf.l0 kq l0 a1 x5_1 (l0.length : Int) x9_1 = some r) ∧ Aside0 (kq ≤ k) ∧ Aside0 (Below w.heap.size w w'))
  case atStart => exact ⟨(0), (0), (by first | rfl | (simp; done) | (simp [*]; done)), (by first | rfl | (simp; done) | (simp [*]; done)), H', ⟨Nat.le_refl _⟩, ⟨by repeat (first | (with_reducible first | exact HB.out | apply below_alloc | apply pw_below_drewN | apply below_drew1) | exact HB.out)⟩⟩
  case round =>
    clear H'; (try clear p2); obtain ⟨x5_1, x9_1, rfl, rfl, HA, HK1, HB⟩ := hrel
    cases gk with
    | zero => exact absurd HA.out (by simp [impl_UsesOf.l0])
    | succ k1 =>
      have H := HA.out; clear HA
      simp only [impl_UsesOf.l0] at H
      by_cases c3 : x9_1 < (l0.length : Int)
      · rw [if_pos c3] at H; have c3b0 := decide_eq_true c3; clear c3; replace H := Option.bind_eq_some_iff.mp H; obtain ⟨t296, A40, H⟩ := H; have A4 := ak A40; clear A40; replace H := Option.bind_eq_some_iff.mp H; obtain ⟨t299, A50, H⟩ := H; have A5 := ak A50; clear A50
        by_cases c6 : t299 = true
        · subst c6; rw [if_pos rfl] at H; have H' := ak H; clear H
          go_wp2_with (first | ((with_reducible refine gate_callee (f := 170) rfl ?_); refine goesM_ (some 14) rfl rfl Try.func170 (by kernel_rfl) rfl #[.slice A0 l0.length c0, .int .i64 x9_1] rfl ?_; (with_reducible refine (impl_standsOn.calls k1 _ _ l0 x9_1 t296 _ ?side1 ?side2 A4.out).mono ?_); (case side1 => exact cb_ HR0.out HB.out); (case side2 => exact HC0.out); rintro e w7 ⟨v297, rfl, ho0, hb⟩; refine ⟨_, rfl, ?_⟩; have HO298 := ak (Kd.R_lower ho0 (below_size (bl_ HB.out))); replace HB := ak (below_step (bl_ HB.out) hb); (try clear hb); (try clear hb2); (try clear hk); (try clear hi); (try clear ho0); obtain ⟨Ao8, co8, eo8⟩ := Kd.R_slice HO298.out; subst eo8) | ((with_reducible refine gate_callee (f := 169) rfl ?_); refine goesM_ (some 16) rfl rfl Try.func169 (by kernel_rfl) rfl #[.slice Ao8 t296.length co8, .int .i64 a1] rfl ?_; (with_reducible refine (impl_NumIn.calls k1 _ _ t296 a1 true _ ?side1 ?side2 A5.out).mono ?_); (case side1 => exact ca_ (Kd.R_reads' HO298.out).2.2); (case side2 => exact (Kd.R_reads' HO298.out).2.1); rintro e w' ⟨rfl, ⟨nd, rfl⟩⟩; refine ⟨_, rfl, ?_⟩))
          go_roundg k1
          case measure => have := HK1.out; omega
          case rel => exact ⟨(wrap64 (x5_1 + 1)), (wrap64 (x9_1 + 1)), (by first | rfl | (simp; done) | (simp [*]; done)), (by first | rfl | (simp; done) | (simp [*]; done)), H', ⟨by have := HK1.out; omega⟩, ⟨by repeat (first | (with_reducible first | exact HB.out | apply below_alloc | apply pw_below_drewN | apply below_drew1) | exact HB.out)⟩⟩
        replace c6 := Bool.eq_false_iff.mpr c6; subst c6; rw [if_neg (show ¬ (false = true) by decide)] at H; have H' := ak H; clear H
        go_wp2_with (first | ((with_reducible refine gate_callee (f := 170) rfl ?_); refine goesM_ (some 14) rfl rfl Try.func170 (by kernel_rfl) rfl #[.slice A0 l0.length c0, .int .i64 x9_1] rfl ?_; (with_reducible refine (impl_standsOn.calls k1 _ _ l0 x9_1 t296 _ ?side1 ?side2 A4.out).mono ?_); (case side1 => exact cb_ HR0.out HB.out); (case side2 => exact HC0.out); rintro e w9 ⟨v297, rfl, ho0, hb⟩; refine ⟨_, rfl, ?_⟩; have HO298 := ak (Kd.R_lower ho0 (below_size (bl_ HB.out))); replace HB := ak (below_step (bl_ HB.out) hb); (try clear hb); (try clear hb2); (try clear hk); (try clear hi); (try clear ho0); obtain ⟨Ao10, co10, eo10⟩ := Kd.R_slice HO298.out; subst eo10) | ((with_reducible refine gate_callee (f := 169) rfl ?_); refine goesM_ (some 16) rfl rfl Try.func169 (by kernel_rfl) rfl #[.slice Ao10 t296.length co10, .int .i64 a1] rfl ?_; (with_reducible refine (impl_NumIn.calls k1 _ _ t296 a1 false _ ?side1 ?side2 A5.out).mono ?_); (case side1 => exact ca_ (Kd.R_reads' HO298.out).2.2); (case side2 => exact (Kd.R_reads' HO298.out).2.1); rintro e w' ⟨rfl, ⟨nd, rfl⟩⟩; refine ⟨_, rfl, ?_⟩))
        go_roundg k1
        case measure => have := HK1.out; omega
        case rel => exact ⟨(x5_1), (wrap64 (x9_1 + 1)), (by first | rfl | (simp; done) | (simp [*]; done)), (by first | rfl | (simp; done) | (simp [*]; done)), H', ⟨by have := HK1.out; omega⟩, ⟨by repeat (first | (with_reducible first | exact HB.out | apply below_alloc | apply pw_below_drewN | apply below_drew1) | exact HB.out)⟩⟩
      rw [if_neg c3] at H; have c3b0 := decide_eq_false c3; clear c3; obtain rfl := Option.some.inj H
      go_wp2
      go_ret
      exact fin_ (bl_ HB.out)

/-! ### laws_eqIntS: function 246 -/
def laws_eqIntS.l0 : Nat → List Int → List Int → Int → Option (Bool)
  | 0, _, _, _ => none
  | k + 1, x0, x1, x5 => if x5 < (x0.length : Int) then (if 0 ≤ x5 then (if x5 < (x1.length : Int) then (if (rd x0 x5) = (rd x1 x5) then (laws_eqIntS.l0 k x0 x1 (wrap64 (x5 + 1))) else (some false)) else (none)) else (none)) else (some true)
def laws_eqIntS.f (k : Nat) (l0 : List Int) (l1 : List Int) : Option (Bool) := if (l0.length : Int) = (l1.length : Int) then (laws_eqIntS.l0 k l0 l1 0) else (some false)
theorem laws_eqIntS.mono_l : ∀ k, (∀ y0 y1 y2, LeO (laws_eqIntS.l0 k y0 y1 y2) (laws_eqIntS.l0 (k + 1) y0 y1 y2))
  | 0 => fun _ _ _ r h => by simp [laws_eqIntS.l0] at h
  | k + 1 => by
    have ih0 := laws_eqIntS.mono_l k
    · intro y0 y1 y2
      unfold laws_eqIntS.l0
      repeat' first | (with_reducible first | exact ih0 _ _ _ | exact LeO.refl _ | exact LeO.none _ | refine LeO.ite ?_ ?_ | refine LeO.bind ?_ (fun _ => ?_)) | exact ih0 _ _ _ | exact LeO.none _ | refine LeO.ite ?_ ?_ | refine LeO.bind ?_ (fun _ => ?_)
theorem laws_eqIntS.mono : ∀ a0 a1 k, LeO (laws_eqIntS.f k a0 a1) (laws_eqIntS.f (k + 1) a0 a1) := by
  intro a0 a1 k; have ih0 := laws_eqIntS.mono_l k
  unfold laws_eqIntS.f
  repeat' first
      | (with_reducible exact ih0 _ _ _)
      | (with_reducible exact LeO.refl _)
      | (with_reducible exact LeO.none _)
      | (with_reducible refine LeO.ite ?_ ?_)
      | (with_reducible refine LeO.bind ?_ (fun _ => ?_))
      | exact ih0 _ _ _
      | exact LeO.none _
      | refine LeO.ite ?_ ?_
      | refine LeO.bind ?_ (fun _ => ?_)
set_option maxHeartbeats 8000000 in
set_option maxRecDepth 100000 in
theorem laws_eqIntS.calls (k : Nat) (A0 : Option Addr) (c0 : Nat) (l0 : List Int) (A1 : Option Addr) (c1 : Nat) (l1 : List Int) (r : Bool) (w : World) (hr0 : Kd.C (Kd.int .i64) w A0 l0.length l0) (hc0 : l0.length ≤ c0) (hr1 : Kd.C (Kd.int .i64) w A1 l1.length l1) (hc1 : l1.length ≤ c1) (h : laws_eqIntS.f k l0 l1 = some r) :
    Calls Try.prog 246 #[.slice A0 l0.length c0, .slice A1 l1.length c1] w fun e w' => e = .returned (.bool r) ∧ Drawn0 w w' := by
  have HR0 := ak hr0; have HC0 := ak hc0; clear hr0 hc0; have HR1 := ak hr1; have HC1 := ak hc1; clear hr1 hc1; have H : (if (l0.length : Int) = (l1.length : Int) then (laws_eqIntS.l0 k l0 l1 0) else (some false)) = some r := h; clear h
  by_cases c3 : (l0.length : Int) = (l1.length : Int)
  · rw [if_pos c3] at H; have c3b0 : ((l0.length : Int) == (l1.length : Int)) = true := beq_iff_eq.mpr c3; have c3b1 : ((l0.length : Int) != (l1.length : Int)) = false := bne_eq_false_iff_eq.mpr c3; have c3b2 : (l0.length == l1.length) = true := by first | simpa using c3 | (simp at c3 ⊢; omega)
    clear c3; have H' := ak H; clear H
    go_enter Try.func246, Try.ntmps246
    go_wp2
    repeat (go_quiet (fail); try go_wp2)
    go_loopg [5] k (fun kq v5 w' => ∃ (x5_1 : Int), v5 = .int .i64 x5_1 ∧ Aside0 (laws_eqIntS.l0 kq l0 l1 x5_1 = some r) ∧ Aside0 (kq ≤ k) ∧ Drawn0 w w')
    case atStart => exact ⟨(0), (by first | rfl | (simp; done) | (simp [*]; done)), H', ⟨Nat.le_refl _⟩, by repeat (first | exact Drawn0.refl _ | apply Drawn0.step)⟩
    case round =>
      clear H'; (try clear c1); (try clear c2); (try clear p2); (try clear c3); (try clear c3b0); (try clear c3b1); (try clear c3b2); obtain ⟨x5_1, rfl, HA, HK1, ⟨m1, rfl⟩⟩ := hrel
      cases gk with
      | zero => exact absurd HA.out (by simp [laws_eqIntS.l0])
      | succ k1 =>
        have H := HA.out; clear HA
        simp only [laws_eqIntS.l0] at H
        by_cases c4 : x5_1 < (l0.length : Int)
        · rw [if_pos c4] at H; have c4b0 := decide_eq_true c4; clear c4
          by_cases c5 : 0 ≤ x5_1
          · rw [if_pos c5] at H; have c5b0 := decide_eq_true c5; clear c5
            by_cases c6 : x5_1 < (l1.length : Int)
            · rw [if_pos c6] at H; have c6b0 := decide_eq_true c6; clear c6
              by_cases c7 : (rd l0 x5_1) = (rd l1 x5_1)
              · rw [if_pos c7] at H; have c7b0 : ((rd l0 x5_1) == (rd l1 x5_1)) = true := beq_iff_eq.mpr c7; have c7b1 : ((rd l0 x5_1) != (rd l1 x5_1)) = false := bne_eq_false_iff_eq.mpr c7; clear c7; have H' := ak H; clear H; have p300 : 0 ≤ (x5_1 : Int) := as_; have q300 : x5_1 < (l0.length : Int) := as_; obtain ⟨ad300, e300, hx300_0⟩ := Kd.at_int HR0.out x5_1 p300 q300
                cases e300
                replace p300 := eq_true p300; replace q300 := eq_true q300; have p301 : 0 ≤ (x5_1 : Int) := as_; have q301 : x5_1 < (l1.length : Int) := as_; obtain ⟨ad301, e301, hx301_0⟩ := Kd.at_int HR1.out x5_1 p301 q301
                cases e301
                replace p301 := eq_true p301; replace q301 := eq_true q301
                go_wp2
                repeat (go_quiet (fail); try go_wp2)
                go_roundg k1
                case measure => have := HK1.out; omega
                case rel => exact ⟨(wrap64 (x5_1 + 1)), (by first | rfl | (simp; done) | (simp [*]; done)), H', ⟨by have := HK1.out; omega⟩, by repeat (first | exact Drawn0.refl _ | apply Drawn0.step)⟩
              rw [if_neg c7] at H; have c7b0 : ((rd l0 x5_1) == (rd l1 x5_1)) = false := beq_eq_false_iff_ne.mpr c7; have c7b1 : ((rd l0 x5_1) != (rd l1 x5_1)) = true := bne_iff_ne.mpr c7; obtain rfl := Option.some.inj H; have p300 : 0 ≤ (x5_1 : Int) := as_; have q300 : x5_1 < (l0.length : Int) := as_; obtain ⟨ad300, e300, hx300_0⟩ := Kd.at_int HR0.out x5_1 p300 q300
              cases e300
              replace p300 := eq_true p300; replace q300 := eq_true q300; have p301 : 0 ≤ (x5_1 : Int) := as_; have q301 : x5_1 < (l1.length : Int) := as_; obtain ⟨ad301, e301, hx301_0⟩ := Kd.at_int HR1.out x5_1 p301 q301
              cases e301
              replace p301 := eq_true p301; replace q301 := eq_true q301
              go_wp2
              repeat (go_quiet (fail); try go_wp2)
              go_ret
              exact ⟨by first | rfl | (simp; done) | (simp [*]; done), by repeat (first | exact Drawn0.refl _ | apply Drawn0.step)⟩
            rw [if_neg c6] at H; exact absurd H (by simp)
          rw [if_neg c5] at H; exact absurd H (by simp)
        rw [if_neg c4] at H; have c4b0 := decide_eq_false c4; clear c4; obtain rfl := Option.some.inj H
        go_wp2
        repeat (go_quiet (fail); try go_wp2)
        go_ret
        exact ⟨by first | rfl | (simp; done) | (simp [*]; done), by repeat (first | exact Drawn0.refl _ | apply Drawn0.step)⟩
  rw [if_neg c3] at H; have c3b0 : ((l0.length : Int) == (l1.length : Int)) = false := beq_eq_false_iff_ne.mpr c3; have c3b1 : ((l0.length : Int) != (l1.length : Int)) = true := bne_iff_ne.mpr c3; have c3b2 : (l0.length == l1.length) = false := by first | simpa using c3 | (simp at c3 ⊢; omega)
  obtain rfl := Option.some.inj H
  go_enter Try.func246, Try.ntmps246
  go_wp2
  repeat (go_quiet (fail); try go_wp2)
  go_ret
  exact ⟨by first | rfl | (simp; done) | (simp [*]; done), by repeat (first | exact Drawn0.refl _ | apply Drawn0.step)⟩

/-! ### a group: laws_eqTermS, laws_eqTerm -/
mutual
def laws_eqTermS.l0 : Nat → List (I_Term) → List (I_Term) → Int → Option (Bool)
  | 0, _, _, _ => none
  | k + 1, x0, x1, x5 => if x5 < (x0.length : Int) then (if 0 ≤ x5 then (if x5 < (x1.length : Int) then ((laws_eqTerm.f k ((rd_I_Term x0 x5).f0) ((rd_I_Term x0 x5).f1) ((rd_I_Term x0 x5).f2) ((rd_I_Term x1 x5).f0) ((rd_I_Term x1 x5).f1) ((rd_I_Term x1 x5).f2)).bind fun t304 => (if t304 = true then (laws_eqTermS.l0 k x0 x1 (wrap64 (x5 + 1))) else (some false))) else (none)) else (none)) else (some true)
def laws_eqTermS.f : Nat → List (I_Term) → List (I_Term) → Option (Bool)
  | 0, _, _ => none
  | k + 1, l0, l1 => if (l0.length : Int) = (l1.length : Int) then (laws_eqTermS.l0 k l0 l1 0) else (some false)
def laws_eqTerm.f : Nat → Int → Int → List (I_Term) → Int → Int → List (I_Term) → Option (Bool)
  | 0, _, _, _, _, _, _ => none
  | k + 1, a0_0, a0_1, l0_2, a1_0, a1_1, l1_2 => if a0_0 = a1_0 then (if a0_1 = a1_1 then ((laws_eqTermS.f k l0_2 l1_2).bind fun t307 => (if t307 = true then (some true) else (some false))) else (some false)) else (some false)
end
theorem laws_eqTermS.grp_mono : ∀ k, (∀ y0 y1, LeO (laws_eqTermS.f k y0 y1) (laws_eqTermS.f (k + 1) y0 y1)) ∧ (∀ y0 y1 y2, LeO (laws_eqTermS.l0 k y0 y1 y2) (laws_eqTermS.l0 (k + 1) y0 y1 y2)) ∧ (∀ y0 y1 y2 y3 y4 y5, LeO (laws_eqTerm.f k y0 y1 y2 y3 y4 y5) (laws_eqTerm.f (k + 1) y0 y1 y2 y3 y4 y5))
  | 0 => ⟨fun _ _ r h => by simp [laws_eqTermS.f] at h, fun _ _ _ r h => by simp [laws_eqTermS.l0] at h, fun _ _ _ _ _ _ r h => by simp [laws_eqTerm.f] at h⟩
  | k + 1 => by
    obtain ⟨ih0, ih1, ih2⟩ := laws_eqTermS.grp_mono k
    refine ⟨?_, ?_, ?_⟩
    · intro y0 y1
      unfold laws_eqTermS.f
      repeat' first
      | (with_reducible exact ih0 _ _)
      | (with_reducible exact ih1 _ _ _)
      | (with_reducible exact ih2 _ _ _ _ _ _)
      | (with_reducible exact LeO.refl _)
      | (with_reducible exact LeO.none _)
      | (with_reducible refine LeO.ite ?_ ?_)
      | (with_reducible refine LeO.bind ?_ (fun _ => ?_))
      | exact ih0 _ _
      | exact ih1 _ _ _
      | exact ih2 _ _ _ _ _ _
      | exact LeO.none _
      | refine LeO.ite ?_ ?_
      | refine LeO.bind ?_ (fun _ => ?_)
    · intro y0 y1 y2
      unfold laws_eqTermS.l0
      repeat' first
      | (with_reducible exact ih0 _ _)
      | (with_reducible exact ih1 _ _ _)
      | (with_reducible exact ih2 _ _ _ _ _ _)
      | (with_reducible exact LeO.refl _)
      | (with_reducible exact LeO.none _)
      | (with_reducible refine LeO.ite ?_ ?_)
      | (with_reducible refine LeO.bind ?_ (fun _ => ?_))
      | exact ih0 _ _
      | exact ih1 _ _ _
      | exact ih2 _ _ _ _ _ _
      | exact LeO.none _
      | refine LeO.ite ?_ ?_
      | refine LeO.bind ?_ (fun _ => ?_)
    · intro y0 y1 y2 y3 y4 y5
      unfold laws_eqTerm.f
      repeat' first
      | (with_reducible exact ih0 _ _)
      | (with_reducible exact ih1 _ _ _)
      | (with_reducible exact ih2 _ _ _ _ _ _)
      | (with_reducible exact LeO.refl _)
      | (with_reducible exact LeO.none _)
      | (with_reducible refine LeO.ite ?_ ?_)
      | (with_reducible refine LeO.bind ?_ (fun _ => ?_))
      | exact ih0 _ _
      | exact ih1 _ _ _
      | exact ih2 _ _ _ _ _ _
      | exact LeO.none _
      | refine LeO.ite ?_ ?_
      | refine LeO.bind ?_ (fun _ => ?_)
theorem laws_eqTermS.mono : ∀ a0 a1 k, LeO (laws_eqTermS.f k a0 a1) (laws_eqTermS.f (k + 1) a0 a1) := by
  intro a0 a1 k
  obtain ⟨ih0, ih1, ih2⟩ := laws_eqTermS.grp_mono k
  exact ih0 a0 a1
theorem laws_eqTerm.mono : ∀ a0 a1 a2 a3 a4 a5 k, LeO (laws_eqTerm.f k a0 a1 a2 a3 a4 a5) (laws_eqTerm.f (k + 1) a0 a1 a2 a3 a4 a5) := by
  intro a0 a1 a2 a3 a4 a5 k
  obtain ⟨ih0, ih1, ih2⟩ := laws_eqTermS.grp_mono k
  exact ih2 a0 a1 a2 a3 a4 a5
/-! ### laws_eqTermS: function 21 -/
def laws_eqTermS.T6 : Bool × List (List Nat × List Nat) := (true, [([], []), ([], []), ([0, 1], [0, 1]), ([2], [2]), ([], []), ([], []), ([4, 5], [4, 5]), ([6], [6]), ([3, 7], [3, 7]), ([8], [8])])
def laws_eqTermS.B6 : List Nat := [0, 0, 3, 7, 0, 0, 48, 112, 255, 511]
theorem laws_eqTermS.tab6 : rtab .any (opsOf Try.f21 6) = laws_eqTermS.T6 := by kernel_rfl
theorem laws_eqTermS.bits6 : waitsOk laws_eqTermS.T6.2 laws_eqTermS.B6 = true := by kernel_rfl
set_option maxHeartbeats 8000000 in
set_option maxRecDepth 100000 in
theorem laws_eqTermS.step (k : Nat) (ihg_21 : ∀ m, m < k → ∀ (A0 : Option Addr) (c0 : Nat) (l0 : List (I_Term)) (A1 : Option Addr) (c1 : Nat) (l1 : List (I_Term)) (r : Bool) (w : World) (hr0 : Kd.C k33 w A0 l0.length l0) (hc0 : l0.length ≤ c0) (hr1 : Kd.C k33 w A1 l1.length l1) (hc1 : l1.length ≤ c1) (h : laws_eqTermS.f m l0 l1 = some r),
    Calls Try.prog 21 #[.slice A0 l0.length c0, .slice A1 l1.length c1] w fun e w' => e = .returned (.bool r) ∧ Below w.heap.size w w') (ihg_23 : ∀ m, m < k → ∀ (a0_0 : Int) (a0_1 : Int) (A0_2 : Option Addr) (c0_2 : Nat) (l0_2 : List (I_Term)) (a1_0 : Int) (a1_1 : Int) (A1_2 : Option Addr) (c1_2 : Nat) (l1_2 : List (I_Term)) (r : Bool) (w : World) (hr0_2 : Kd.C k33 w A0_2 l0_2.length l0_2) (hc0_2 : l0_2.length ≤ c0_2) (hr1_2 : Kd.C k33 w A1_2 l1_2.length l1_2) (hc1_2 : l1_2.length ≤ c1_2) (h : laws_eqTerm.f m a0_0 a0_1 l0_2 a1_0 a1_1 l1_2 = some r),
    Calls Try.prog 23 #[.agg #[.int .i64 a0_0, .int .i64 a0_1, .slice A0_2 l0_2.length c0_2], .agg #[.int .i64 a1_0, .int .i64 a1_1, .slice A1_2 l1_2.length c1_2]] w fun e w' => e = .returned (.bool r) ∧ Below w.heap.size w w') : ∀ (A0 : Option Addr) (c0 : Nat) (l0 : List (I_Term)) (A1 : Option Addr) (c1 : Nat) (l1 : List (I_Term)) (r : Bool) (w : World) (hr0 : Kd.C k33 w A0 l0.length l0) (hc0 : l0.length ≤ c0) (hr1 : Kd.C k33 w A1 l1.length l1) (hc1 : l1.length ≤ c1) (h : laws_eqTermS.f k l0 l1 = some r),
    Calls Try.prog 21 #[.slice A0 l0.length c0, .slice A1 l1.length c1] w fun e w' => e = .returned (.bool r) ∧ Below w.heap.size w w' := by
  intro A0 c0 l0 A1 c1 l1 r w hr0 hc0 hr1 hc1 h
  cases k with
  | zero => exact absurd h (by simp [laws_eqTermS.f])
  | succ k =>
  simp only [laws_eqTermS.f] at h
  have hu33 := Try.underlying33; have HR0 := ak hr0; have HC0 := ak hc0; clear hr0 hc0; have HR1 := ak hr1; have HC1 := ak hc1; clear hr1 hc1; have HB := ak (Below.refl w.heap.size w); have H : (if (l0.length : Int) = (l1.length : Int) then (laws_eqTermS.l0 k l0 l1 0) else (some false)) = some r := h; clear h
  by_cases c3 : (l0.length : Int) = (l1.length : Int)
  · rw [if_pos c3] at H; have c3b0 : ((l0.length : Int) == (l1.length : Int)) = true := beq_iff_eq.mpr c3; have c3b1 : ((l0.length : Int) != (l1.length : Int)) = false := bne_eq_false_iff_eq.mpr c3; have c3b2 : (l0.length == l1.length) = true := by first | simpa using c3 | (simp at c3 ⊢; omega)
    clear c3; have H' := ak H; clear H
    go_enter Try.func21, Try.ntmps21
    go_wp2
    go_loopg [5] k (fun kq v5 w' => ∃ (x5_1 : Int), v5 = .int .i64 x5_1 ∧ Aside0 (laws_eqTermS.l0 kq l0 l1 x5_1 = some r) ∧ Aside0 (kq ≤ k) ∧ Aside0 (Below w.heap.size w w'))
    case atStart => exact ⟨(0), (by first | rfl | (simp; done) | (simp [*]; done)), H', ⟨Nat.le_refl _⟩, ⟨by repeat (first | (with_reducible first | exact HB.out | apply below_alloc | apply pw_below_drewN | apply below_drew1) | exact HB.out)⟩⟩
    case round =>
      clear H'; (try clear c1); (try clear c2); (try clear p2); (try clear c3); (try clear c3b0); (try clear c3b1); (try clear c3b2); obtain ⟨x5_1, rfl, HA, HK1, HB⟩ := hrel
      cases gk with
      | zero => exact absurd HA.out (by simp [laws_eqTermS.l0])
      | succ k1 =>
        have H := HA.out; clear HA
        simp only [laws_eqTermS.l0] at H
        by_cases c4 : x5_1 < (l0.length : Int)
        · rw [if_pos c4] at H; have c4b0 := decide_eq_true c4; clear c4
          by_cases c5 : 0 ≤ x5_1
          · rw [if_pos c5] at H; have c5b0 := decide_eq_true c5; clear c5
            by_cases c6 : x5_1 < (l1.length : Int)
            · rw [if_pos c6] at H; have c6b0 := decide_eq_true c6; clear c6; replace H := Option.bind_eq_some_iff.mp H; obtain ⟨t304, A70, H⟩ := H; have A7 := ak A70; clear A70
              by_cases c8 : t304 = true
              · subst c8; rw [if_pos rfl] at H; have H' := ak H; clear H
                try go_wp2
                replace HB := ak (below_drew1 HB.out); have p302 : 0 ≤ (x5_1 : Int) := as_; have q302 : x5_1 < (l0.length : Int) := as_; obtain ⟨ad302, A302_2, c302_2, e302, hx302_0, hx302_1, hx302_2, hl302_2, hi302_2⟩ := at_T33 HR0.out x5_1 p302 q302; have hw302_2 := hx302_2; have hw302_1 := hx302_1; have hw302_0 := hx302_0
                cases e302
                replace hx302_0 := hbc_ HB.out hx302_0; replace hx302_1 := hbc_ HB.out hx302_1; replace hx302_2 := hbc_ HB.out hx302_2; have HR302_2 := ak hi302_2; have HC302_2 := ak hl302_2; clear hi302_2 hl302_2; replace p302 := eq_true p302; replace q302 := eq_true q302; have p303 : 0 ≤ (x5_1 : Int) := as_; have q303 : x5_1 < (l1.length : Int) := as_; obtain ⟨ad303, A303_2, c303_2, e303, hx303_0, hx303_1, hx303_2, hl303_2, hi303_2⟩ := at_T33 HR1.out x5_1 p303 q303; have hw303_2 := hx303_2; have hw303_1 := hx303_1; have hw303_0 := hx303_0
                cases e303
                replace hx303_0 := hbc_ HB.out hx303_0; replace hx303_1 := hbc_ HB.out hx303_1; replace hx303_2 := hbc_ HB.out hx303_2; have HR303_2 := ak hi303_2; have HC303_2 := ak hl303_2; clear hi303_2 hl303_2; replace p303 := eq_true p303; replace q303 := eq_true q303; refine start_ (n := 10) (S := fun w' => w'.cell? (ad302.add ((x5_1).toNat * 3)) = some (.int .i64 ((rd_I_Term l0 x5_1).f0)) ∧ w'.cell? ⟨(ad302.add ((x5_1).toNat * 3)).block, (ad302.add ((x5_1).toNat * 3)).off + 1, none⟩ = some (.int .i64 ((rd_I_Term l0 x5_1).f1)) ∧ w'.cell? ⟨(ad302.add ((x5_1).toNat * 3)).block, (ad302.add ((x5_1).toNat * 3)).off + 2, none⟩ = some (.slice A302_2 ((rd_I_Term l0 x5_1).f2).length c302_2) ∧ w'.cell? (ad303.add ((x5_1).toNat * 3)) = some (.int .i64 ((rd_I_Term l1 x5_1).f0)) ∧ w'.cell? ⟨(ad303.add ((x5_1).toNat * 3)).block, (ad303.add ((x5_1).toNat * 3)).off + 1, none⟩ = some (.int .i64 ((rd_I_Term l1 x5_1).f1)) ∧ w'.cell? ⟨(ad303.add ((x5_1).toNat * 3)).block, (ad303.add ((x5_1).toNat * 3)).off + 2, none⟩ = some (.slice A303_2 ((rd_I_Term l1 x5_1).f2).length c303_2)) (ds := []) (bm 10 0) (by kernel_rfl) rfl (by kernel_rfl) ⟨(hbc_ HB.out hw302_0 :), (hbc_ HB.out hw302_1 :), (hbc_ HB.out hw302_2 :), (hbc_ HB.out hw303_0 :), (hbc_ HB.out hw303_1 :), (hbc_ HB.out hw303_2 :)⟩ (fun hHeld => ?_); refine with_tabW laws_eqTermS.tab6 laws_eqTermS.bits6 (fun HT_ HW_ => ?_)
                generalize wr.drew = w9 at HB HR302_2 HR303_2 hx302_0 hx302_1 hx302_2 hx303_0 hx303_1 hx303_2 hHeld ⊢
                refine pv_ 0 ?_; refine pv_ 1 ?_; refine pv_ 2 ?_; refine pv_ 4 ?_; refine pv_ 5 ?_; refine pv_ 6 ?_; refine tv_ 3 hHeld ?_; refine tv_ 7 hHeld ?_; refine one_ (i := 8) (N := some 25) (bm 10 511) rfl rfl (one_of HT_.out (by kernel_rfl)) (by decide) (fun K hK => ?_); refine goesB_ Try.func23 (by kernel_rfl) rfl #[.agg #[.int .i64 ((rd_I_Term l0 x5_1).f0), .int .i64 ((rd_I_Term l0 x5_1).f1), .slice A302_2 ((rd_I_Term l0 x5_1).f2).length c302_2], .agg #[.int .i64 ((rd_I_Term l1 x5_1).f0), .int .i64 ((rd_I_Term l1 x5_1).f1), .slice A303_2 ((rd_I_Term l1 x5_1).f2).length c303_2]] (by rfl) rfl rfl ?_
                with_reducible refine (ihg_23 k1 (by have := HK1.out; omega) ((rd_I_Term l0 x5_1).f0) ((rd_I_Term l0 x5_1).f1) _ _ ((rd_I_Term l0 x5_1).f2) ((rd_I_Term l1 x5_1).f0) ((rd_I_Term l1 x5_1).f1) _ _ ((rd_I_Term l1 x5_1).f2) true _ ?side1 ?side2 ?side3 ?side4 A7.out).mono ?_
                (case side1 => exact cb_ HR302_2.out HB.out); (case side2 => exact HC302_2.out); (case side3 => exact cb_ HR303_2.out HB.out); (case side4 => exact HC303_2.out); rintro e w10 ⟨rfl, hb⟩; refine ⟨_, rfl, ?_⟩; replace HB := ak (below_step (bl_ HB.out) hb); (try clear hb); (try clear hb2); (try clear hk); (try clear hi); refine hK.out _ _ ⟨(hbc_ HB.out hw302_0 :), (hbc_ HB.out hw302_1 :), (hbc_ HB.out hw302_2 :), (hbc_ HB.out hw303_0 :), (hbc_ HB.out hw303_1 :), (hbc_ HB.out hw303_2 :)⟩ (fun hHeld => ?_); clear hK K; refine norm_ (a' := ?_) ?_ ?_
                rotate_left
                · show Act.put _ (some 25) _ = _
                  simp only [Act.put, List.setIfInBounds_toArray, List.set_cons_zero, List.set_cons_succ, i64_w, i32_w]
                  rfl
                refine pv_ 9 ?_; refine done_ (done_of HT_.out (by kernel_rfl)) ?_
                try go_wp2
                go_roundg k1
                case measure => have := HK1.out; omega
                case rel => exact ⟨(wrap64 (x5_1 + 1)), (by first | rfl | (simp; done) | (simp [*]; done)), H', ⟨by have := HK1.out; omega⟩, ⟨by repeat (first | (with_reducible first | exact HB.out | apply below_alloc | apply pw_below_drewN | apply below_drew1) | exact HB.out)⟩⟩
              replace c8 := Bool.eq_false_iff.mpr c8; subst c8; rw [if_neg (show ¬ (false = true) by decide)] at H; obtain rfl := Option.some.inj H
              try go_wp2
              replace HB := ak (below_drew1 HB.out); have p302 : 0 ≤ (x5_1 : Int) := as_; have q302 : x5_1 < (l0.length : Int) := as_; obtain ⟨ad302, A302_2, c302_2, e302, hx302_0, hx302_1, hx302_2, hl302_2, hi302_2⟩ := at_T33 HR0.out x5_1 p302 q302; have hw302_2 := hx302_2; have hw302_1 := hx302_1; have hw302_0 := hx302_0
              cases e302
              replace hx302_0 := hbc_ HB.out hx302_0; replace hx302_1 := hbc_ HB.out hx302_1; replace hx302_2 := hbc_ HB.out hx302_2; have HR302_2 := ak hi302_2; have HC302_2 := ak hl302_2; clear hi302_2 hl302_2; replace p302 := eq_true p302; replace q302 := eq_true q302; have p303 : 0 ≤ (x5_1 : Int) := as_; have q303 : x5_1 < (l1.length : Int) := as_; obtain ⟨ad303, A303_2, c303_2, e303, hx303_0, hx303_1, hx303_2, hl303_2, hi303_2⟩ := at_T33 HR1.out x5_1 p303 q303; have hw303_2 := hx303_2; have hw303_1 := hx303_1; have hw303_0 := hx303_0
              cases e303
              replace hx303_0 := hbc_ HB.out hx303_0; replace hx303_1 := hbc_ HB.out hx303_1; replace hx303_2 := hbc_ HB.out hx303_2; have HR303_2 := ak hi303_2; have HC303_2 := ak hl303_2; clear hi303_2 hl303_2; replace p303 := eq_true p303; replace q303 := eq_true q303; refine start_ (n := 10) (S := fun w' => w'.cell? (ad302.add ((x5_1).toNat * 3)) = some (.int .i64 ((rd_I_Term l0 x5_1).f0)) ∧ w'.cell? ⟨(ad302.add ((x5_1).toNat * 3)).block, (ad302.add ((x5_1).toNat * 3)).off + 1, none⟩ = some (.int .i64 ((rd_I_Term l0 x5_1).f1)) ∧ w'.cell? ⟨(ad302.add ((x5_1).toNat * 3)).block, (ad302.add ((x5_1).toNat * 3)).off + 2, none⟩ = some (.slice A302_2 ((rd_I_Term l0 x5_1).f2).length c302_2) ∧ w'.cell? (ad303.add ((x5_1).toNat * 3)) = some (.int .i64 ((rd_I_Term l1 x5_1).f0)) ∧ w'.cell? ⟨(ad303.add ((x5_1).toNat * 3)).block, (ad303.add ((x5_1).toNat * 3)).off + 1, none⟩ = some (.int .i64 ((rd_I_Term l1 x5_1).f1)) ∧ w'.cell? ⟨(ad303.add ((x5_1).toNat * 3)).block, (ad303.add ((x5_1).toNat * 3)).off + 2, none⟩ = some (.slice A303_2 ((rd_I_Term l1 x5_1).f2).length c303_2)) (ds := []) (bm 10 0) (by kernel_rfl) rfl (by kernel_rfl) ⟨(hbc_ HB.out hw302_0 :), (hbc_ HB.out hw302_1 :), (hbc_ HB.out hw302_2 :), (hbc_ HB.out hw303_0 :), (hbc_ HB.out hw303_1 :), (hbc_ HB.out hw303_2 :)⟩ (fun hHeld => ?_); refine with_tabW laws_eqTermS.tab6 laws_eqTermS.bits6 (fun HT_ HW_ => ?_)
              generalize wr.drew = w11 at HB HR302_2 HR303_2 hx302_0 hx302_1 hx302_2 hx303_0 hx303_1 hx303_2 hHeld ⊢
              refine pv_ 0 ?_; refine pv_ 1 ?_; refine pv_ 2 ?_; refine pv_ 4 ?_; refine pv_ 5 ?_; refine pv_ 6 ?_; refine tv_ 3 hHeld ?_; refine tv_ 7 hHeld ?_; refine one_ (i := 8) (N := some 25) (bm 10 511) rfl rfl (one_of HT_.out (by kernel_rfl)) (by decide) (fun K hK => ?_); refine goesB_ Try.func23 (by kernel_rfl) rfl #[.agg #[.int .i64 ((rd_I_Term l0 x5_1).f0), .int .i64 ((rd_I_Term l0 x5_1).f1), .slice A302_2 ((rd_I_Term l0 x5_1).f2).length c302_2], .agg #[.int .i64 ((rd_I_Term l1 x5_1).f0), .int .i64 ((rd_I_Term l1 x5_1).f1), .slice A303_2 ((rd_I_Term l1 x5_1).f2).length c303_2]] (by rfl) rfl rfl ?_
              with_reducible refine (ihg_23 k1 (by have := HK1.out; omega) ((rd_I_Term l0 x5_1).f0) ((rd_I_Term l0 x5_1).f1) _ _ ((rd_I_Term l0 x5_1).f2) ((rd_I_Term l1 x5_1).f0) ((rd_I_Term l1 x5_1).f1) _ _ ((rd_I_Term l1 x5_1).f2) false _ ?side1 ?side2 ?side3 ?side4 A7.out).mono ?_
              (case side1 => exact cb_ HR302_2.out HB.out); (case side2 => exact HC302_2.out); (case side3 => exact cb_ HR303_2.out HB.out); (case side4 => exact HC303_2.out); rintro e w12 ⟨rfl, hb⟩; refine ⟨_, rfl, ?_⟩; replace HB := ak (below_step (bl_ HB.out) hb); (try clear hb); (try clear hb2); (try clear hk); (try clear hi); refine hK.out _ _ ⟨(hbc_ HB.out hw302_0 :), (hbc_ HB.out hw302_1 :), (hbc_ HB.out hw302_2 :), (hbc_ HB.out hw303_0 :), (hbc_ HB.out hw303_1 :), (hbc_ HB.out hw303_2 :)⟩ (fun hHeld => ?_); clear hK K; refine norm_ (a' := ?_) ?_ ?_
              rotate_left
              · show Act.put _ (some 25) _ = _
                simp only [Act.put, List.setIfInBounds_toArray, List.set_cons_zero, List.set_cons_succ, i64_w, i32_w]
                rfl
              refine pv_ 9 ?_; refine done_ (done_of HT_.out (by kernel_rfl)) ?_
              try go_wp2
              go_ret
              exact fin_ (bl_ HB.out)
            rw [if_neg c6] at H; exact absurd H (by simp)
          rw [if_neg c5] at H; exact absurd H (by simp)
        rw [if_neg c4] at H; have c4b0 := decide_eq_false c4; clear c4; obtain rfl := Option.some.inj H
        go_wp2
        go_ret
        exact fin_ (bl_ HB.out)
  rw [if_neg c3] at H; have c3b0 : ((l0.length : Int) == (l1.length : Int)) = false := beq_eq_false_iff_ne.mpr c3; have c3b1 : ((l0.length : Int) != (l1.length : Int)) = true := bne_iff_ne.mpr c3; have c3b2 : (l0.length == l1.length) = false := by first | simpa using c3 | (simp at c3 ⊢; omega)
  obtain rfl := Option.some.inj H
  go_enter Try.func21, Try.ntmps21
  go_wp2
  go_ret
  exact fin_ (bl_ HB.out)

/-! ### laws_eqTerm: function 23 -/
set_option maxHeartbeats 8000000 in
set_option maxRecDepth 100000 in
theorem laws_eqTerm.step (k : Nat) (ihg_21 : ∀ m, m < k → ∀ (A0 : Option Addr) (c0 : Nat) (l0 : List (I_Term)) (A1 : Option Addr) (c1 : Nat) (l1 : List (I_Term)) (r : Bool) (w : World) (hr0 : Kd.C k33 w A0 l0.length l0) (hc0 : l0.length ≤ c0) (hr1 : Kd.C k33 w A1 l1.length l1) (hc1 : l1.length ≤ c1) (h : laws_eqTermS.f m l0 l1 = some r),
    Calls Try.prog 21 #[.slice A0 l0.length c0, .slice A1 l1.length c1] w fun e w' => e = .returned (.bool r) ∧ Below w.heap.size w w') (ihg_23 : ∀ m, m < k → ∀ (a0_0 : Int) (a0_1 : Int) (A0_2 : Option Addr) (c0_2 : Nat) (l0_2 : List (I_Term)) (a1_0 : Int) (a1_1 : Int) (A1_2 : Option Addr) (c1_2 : Nat) (l1_2 : List (I_Term)) (r : Bool) (w : World) (hr0_2 : Kd.C k33 w A0_2 l0_2.length l0_2) (hc0_2 : l0_2.length ≤ c0_2) (hr1_2 : Kd.C k33 w A1_2 l1_2.length l1_2) (hc1_2 : l1_2.length ≤ c1_2) (h : laws_eqTerm.f m a0_0 a0_1 l0_2 a1_0 a1_1 l1_2 = some r),
    Calls Try.prog 23 #[.agg #[.int .i64 a0_0, .int .i64 a0_1, .slice A0_2 l0_2.length c0_2], .agg #[.int .i64 a1_0, .int .i64 a1_1, .slice A1_2 l1_2.length c1_2]] w fun e w' => e = .returned (.bool r) ∧ Below w.heap.size w w') : ∀ (a0_0 : Int) (a0_1 : Int) (A0_2 : Option Addr) (c0_2 : Nat) (l0_2 : List (I_Term)) (a1_0 : Int) (a1_1 : Int) (A1_2 : Option Addr) (c1_2 : Nat) (l1_2 : List (I_Term)) (r : Bool) (w : World) (hr0_2 : Kd.C k33 w A0_2 l0_2.length l0_2) (hc0_2 : l0_2.length ≤ c0_2) (hr1_2 : Kd.C k33 w A1_2 l1_2.length l1_2) (hc1_2 : l1_2.length ≤ c1_2) (h : laws_eqTerm.f k a0_0 a0_1 l0_2 a1_0 a1_1 l1_2 = some r),
    Calls Try.prog 23 #[.agg #[.int .i64 a0_0, .int .i64 a0_1, .slice A0_2 l0_2.length c0_2], .agg #[.int .i64 a1_0, .int .i64 a1_1, .slice A1_2 l1_2.length c1_2]] w fun e w' => e = .returned (.bool r) ∧ Below w.heap.size w w' := by
  intro a0_0 a0_1 A0_2 c0_2 l0_2 a1_0 a1_1 A1_2 c1_2 l1_2 r w hr0_2 hc0_2 hr1_2 hc1_2 h
  cases k with
  | zero => exact absurd h (by simp [laws_eqTerm.f])
  | succ k =>
  simp only [laws_eqTerm.f] at h
  have hu33 := Try.underlying33; have HR0_2 := ak hr0_2; have HC0_2 := ak hc0_2; clear hr0_2 hc0_2; have HR1_2 := ak hr1_2; have HC1_2 := ak hc1_2; clear hr1_2 hc1_2; have HB := ak (Below.refl w.heap.size w); have H : (if a0_0 = a1_0 then (if a0_1 = a1_1 then ((laws_eqTermS.f k l0_2 l1_2).bind fun t307 => (if t307 = true then (some true) else (some false))) else (some false)) else (some false)) = some r := h; clear h
  by_cases c3 : a0_0 = a1_0
  · rw [if_pos c3] at H; have c3b0 : (a0_0 == a1_0) = true := beq_iff_eq.mpr c3; have c3b1 : (a0_0 != a1_0) = false := bne_eq_false_iff_eq.mpr c3; clear c3
    by_cases c4 : a0_1 = a1_1
    · rw [if_pos c4] at H; have c4b0 : (a0_1 == a1_1) = true := beq_iff_eq.mpr c4; have c4b1 : (a0_1 != a1_1) = false := bne_eq_false_iff_eq.mpr c4; clear c4; replace H := Option.bind_eq_some_iff.mp H; obtain ⟨t307, A50, H⟩ := H; have A5 := ak A50; clear A50
      by_cases c6 : t307 = true
      · subst c6; rw [if_pos rfl] at H; obtain rfl := Option.some.inj H
        go_enter Try.func23, Try.ntmps23
        go_wp2_with (first | ((with_reducible refine gate_dst (N := 2) rfl ?_); refine bxe_ (N := 2) (cs := #[.int .i64 a0_0, .int .i64 a0_1, .slice A0_2 l0_2.length c0_2]) (t := 33) ?_; intro gb305 hg w7 hbox hb; have BK305 := ak (hbox); have GW305 := ak (lg_ hg (bl_ HB.out)); have GE305 := ak (lg_ hg (bl_ HB.out)); replace HB := ak (below_step (bl_ HB.out) hb); clear hb hbox hg) | ((with_reducible refine gate_dst (N := 3) rfl ?_); refine bxe_ (N := 3) (cs := #[.int .i64 a1_0, .int .i64 a1_1, .slice A1_2 l1_2.length c1_2]) (t := 33) ?_; intro gb306 hg w8 hbox hb; have BK306 := ak (hbox); have GW306 := ak (lg_ hg (bs1_ HB.out GE305.out)); have GE306 := ak (lg_ hg (bs1_ HB.out GE305.out)); replace HB := ak (below_step (bs1_ HB.out GE305.out) hb); have NB305_306 := ak (nl_ hg (bk_ BK305.out)); have NB306_305 := ak (ng_ hg (bk_ BK305.out)); replace BK305 := ak (blk_below (bk_ BK305.out) hb); clear hb hbox hg; have hnb9 := NB305_306.out; have hnc9 := NB306_305.out; have hcz10_0 := bc_ BK305.out 0; have hcz10_1 := bc_ BK305.out 1; have hcz10_2 := bc_ BK305.out 2; have hfz10_0 := blk_frozen BK305.out 0; have hfz10_1 := blk_frozen BK305.out 1; have hfz10_2 := blk_frozen BK305.out 2; have hcz11_0 := bc_ BK306.out 0; have hcz11_1 := bc_ BK306.out 1; have hcz11_2 := bc_ BK306.out 2; have hfz11_0 := blk_frozen BK306.out 0; have hfz11_1 := blk_frozen BK306.out 1; have hfz11_2 := blk_frozen BK306.out 2) | ((with_reducible refine gate_callee (f := 21) rfl ?_); refine goesM_ (some 19) rfl rfl Try.func21 (by kernel_rfl) rfl #[.slice A0_2 l0_2.length c0_2, .slice A1_2 l1_2.length c1_2] rfl ?_; (with_reducible refine (ihg_21 k (by omega) _ _ l0_2 _ _ l1_2 true _ ?side1 ?side2 ?side3 ?side4 A5.out).mono ?_); (case side1 => exact cb_ HR0_2.out HB.out); (case side2 => exact HC0_2.out); (case side3 => exact cb_ HR1_2.out HB.out); (case side4 => exact HC1_2.out); rintro e w12 ⟨rfl, hb⟩; refine ⟨_, rfl, ?_⟩; replace BK305 := ak (blk_below (bk_ BK305.out) hb); replace BK306 := ak (blk_below (bk_ BK306.out) hb); replace HB := ak (below_step (bs2_ HB.out GE305.out GE306.out) hb); (try clear hb); (try clear hb2); (try clear hk); (try clear hi)))
        go_ret
        exact fin_ (bs2_ HB.out GE305.out GE306.out)
      replace c6 := Bool.eq_false_iff.mpr c6; subst c6; rw [if_neg (show ¬ (false = true) by decide)] at H; obtain rfl := Option.some.inj H
      go_enter Try.func23, Try.ntmps23
      go_wp2_with (first | ((with_reducible refine gate_dst (N := 2) rfl ?_); refine bxe_ (N := 2) (cs := #[.int .i64 a0_0, .int .i64 a0_1, .slice A0_2 l0_2.length c0_2]) (t := 33) ?_; intro gb305 hg w13 hbox hb; have BK305 := ak (hbox); have GW305 := ak (lg_ hg (bl_ HB.out)); have GE305 := ak (lg_ hg (bl_ HB.out)); replace HB := ak (below_step (bl_ HB.out) hb); clear hb hbox hg) | ((with_reducible refine gate_dst (N := 3) rfl ?_); refine bxe_ (N := 3) (cs := #[.int .i64 a1_0, .int .i64 a1_1, .slice A1_2 l1_2.length c1_2]) (t := 33) ?_; intro gb306 hg w14 hbox hb; have BK306 := ak (hbox); have GW306 := ak (lg_ hg (bs1_ HB.out GE305.out)); have GE306 := ak (lg_ hg (bs1_ HB.out GE305.out)); replace HB := ak (below_step (bs1_ HB.out GE305.out) hb); have NB305_306 := ak (nl_ hg (bk_ BK305.out)); have NB306_305 := ak (ng_ hg (bk_ BK305.out)); replace BK305 := ak (blk_below (bk_ BK305.out) hb); clear hb hbox hg; have hnb15 := NB305_306.out; have hnc15 := NB306_305.out; have hcz16_0 := bc_ BK305.out 0; have hcz16_1 := bc_ BK305.out 1; have hcz16_2 := bc_ BK305.out 2; have hfz16_0 := blk_frozen BK305.out 0; have hfz16_1 := blk_frozen BK305.out 1; have hfz16_2 := blk_frozen BK305.out 2; have hcz17_0 := bc_ BK306.out 0; have hcz17_1 := bc_ BK306.out 1; have hcz17_2 := bc_ BK306.out 2; have hfz17_0 := blk_frozen BK306.out 0; have hfz17_1 := blk_frozen BK306.out 1; have hfz17_2 := blk_frozen BK306.out 2) | ((with_reducible refine gate_callee (f := 21) rfl ?_); refine goesM_ (some 19) rfl rfl Try.func21 (by kernel_rfl) rfl #[.slice A0_2 l0_2.length c0_2, .slice A1_2 l1_2.length c1_2] rfl ?_; (with_reducible refine (ihg_21 k (by omega) _ _ l0_2 _ _ l1_2 false _ ?side1 ?side2 ?side3 ?side4 A5.out).mono ?_); (case side1 => exact cb_ HR0_2.out HB.out); (case side2 => exact HC0_2.out); (case side3 => exact cb_ HR1_2.out HB.out); (case side4 => exact HC1_2.out); rintro e w18 ⟨rfl, hb⟩; refine ⟨_, rfl, ?_⟩; replace BK305 := ak (blk_below (bk_ BK305.out) hb); replace BK306 := ak (blk_below (bk_ BK306.out) hb); replace HB := ak (below_step (bs2_ HB.out GE305.out GE306.out) hb); (try clear hb); (try clear hb2); (try clear hk); (try clear hi)))
      go_ret
      exact fin_ (bs2_ HB.out GE305.out GE306.out)
    rw [if_neg c4] at H; have c4b0 : (a0_1 == a1_1) = false := beq_eq_false_iff_ne.mpr c4; have c4b1 : (a0_1 != a1_1) = true := bne_iff_ne.mpr c4; obtain rfl := Option.some.inj H
    go_enter Try.func23, Try.ntmps23
    go_wp2_with (first | ((with_reducible refine gate_dst (N := 2) rfl ?_); refine bxe_ (N := 2) (cs := #[.int .i64 a0_0, .int .i64 a0_1, .slice A0_2 l0_2.length c0_2]) (t := 33) ?_; intro gb305 hg w19 hbox hb; have BK305 := ak (hbox); have GW305 := ak (lg_ hg (bl_ HB.out)); have GE305 := ak (lg_ hg (bl_ HB.out)); replace HB := ak (below_step (bl_ HB.out) hb); clear hb hbox hg) | ((with_reducible refine gate_dst (N := 3) rfl ?_); refine bxe_ (N := 3) (cs := #[.int .i64 a1_0, .int .i64 a1_1, .slice A1_2 l1_2.length c1_2]) (t := 33) ?_; intro gb306 hg w20 hbox hb; have BK306 := ak (hbox); have GW306 := ak (lg_ hg (bs1_ HB.out GE305.out)); have GE306 := ak (lg_ hg (bs1_ HB.out GE305.out)); replace HB := ak (below_step (bs1_ HB.out GE305.out) hb); have NB305_306 := ak (nl_ hg (bk_ BK305.out)); have NB306_305 := ak (ng_ hg (bk_ BK305.out)); replace BK305 := ak (blk_below (bk_ BK305.out) hb); clear hb hbox hg; have hnb21 := NB305_306.out; have hnc21 := NB306_305.out; have hcz22_0 := bc_ BK305.out 0; have hcz22_1 := bc_ BK305.out 1; have hcz22_2 := bc_ BK305.out 2; have hfz22_0 := blk_frozen BK305.out 0; have hfz22_1 := blk_frozen BK305.out 1; have hfz22_2 := blk_frozen BK305.out 2; have hcz23_0 := bc_ BK306.out 0; have hcz23_1 := bc_ BK306.out 1; have hcz23_2 := bc_ BK306.out 2; have hfz23_0 := blk_frozen BK306.out 0; have hfz23_1 := blk_frozen BK306.out 1; have hfz23_2 := blk_frozen BK306.out 2))
    go_ret
    exact fin_ (bs2_ HB.out GE305.out GE306.out)
  rw [if_neg c3] at H; have c3b0 : (a0_0 == a1_0) = false := beq_eq_false_iff_ne.mpr c3; have c3b1 : (a0_0 != a1_0) = true := bne_iff_ne.mpr c3; obtain rfl := Option.some.inj H
  go_enter Try.func23, Try.ntmps23
  go_wp2_with (first | ((with_reducible refine gate_dst (N := 2) rfl ?_); refine bxe_ (N := 2) (cs := #[.int .i64 a0_0, .int .i64 a0_1, .slice A0_2 l0_2.length c0_2]) (t := 33) ?_; intro gb305 hg w24 hbox hb; have BK305 := ak (hbox); have GW305 := ak (lg_ hg (bl_ HB.out)); have GE305 := ak (lg_ hg (bl_ HB.out)); replace HB := ak (below_step (bl_ HB.out) hb); clear hb hbox hg) | ((with_reducible refine gate_dst (N := 3) rfl ?_); refine bxe_ (N := 3) (cs := #[.int .i64 a1_0, .int .i64 a1_1, .slice A1_2 l1_2.length c1_2]) (t := 33) ?_; intro gb306 hg w25 hbox hb; have BK306 := ak (hbox); have GW306 := ak (lg_ hg (bs1_ HB.out GE305.out)); have GE306 := ak (lg_ hg (bs1_ HB.out GE305.out)); replace HB := ak (below_step (bs1_ HB.out GE305.out) hb); have NB305_306 := ak (nl_ hg (bk_ BK305.out)); have NB306_305 := ak (ng_ hg (bk_ BK305.out)); replace BK305 := ak (blk_below (bk_ BK305.out) hb); clear hb hbox hg; have hnb26 := NB305_306.out; have hnc26 := NB306_305.out; have hcz27_0 := bc_ BK305.out 0; have hcz27_1 := bc_ BK305.out 1; have hcz27_2 := bc_ BK305.out 2; have hfz27_0 := blk_frozen BK305.out 0; have hfz27_1 := blk_frozen BK305.out 1; have hfz27_2 := blk_frozen BK305.out 2; have hcz28_0 := bc_ BK306.out 0; have hcz28_1 := bc_ BK306.out 1; have hcz28_2 := bc_ BK306.out 2; have hfz28_0 := blk_frozen BK306.out 0; have hfz28_1 := blk_frozen BK306.out 1; have hfz28_2 := blk_frozen BK306.out 2))
  go_ret
  exact fin_ (bs2_ HB.out GE305.out GE306.out)

theorem laws_eqTermS.grp_all (k : Nat) : (∀ (A0 : Option Addr) (c0 : Nat) (l0 : List (I_Term)) (A1 : Option Addr) (c1 : Nat) (l1 : List (I_Term)) (r : Bool) (w : World) (hr0 : Kd.C k33 w A0 l0.length l0) (hc0 : l0.length ≤ c0) (hr1 : Kd.C k33 w A1 l1.length l1) (hc1 : l1.length ≤ c1) (h : laws_eqTermS.f k l0 l1 = some r),
    Calls Try.prog 21 #[.slice A0 l0.length c0, .slice A1 l1.length c1] w fun e w' => e = .returned (.bool r) ∧ Below w.heap.size w w') ∧ (∀ (a0_0 : Int) (a0_1 : Int) (A0_2 : Option Addr) (c0_2 : Nat) (l0_2 : List (I_Term)) (a1_0 : Int) (a1_1 : Int) (A1_2 : Option Addr) (c1_2 : Nat) (l1_2 : List (I_Term)) (r : Bool) (w : World) (hr0_2 : Kd.C k33 w A0_2 l0_2.length l0_2) (hc0_2 : l0_2.length ≤ c0_2) (hr1_2 : Kd.C k33 w A1_2 l1_2.length l1_2) (hc1_2 : l1_2.length ≤ c1_2) (h : laws_eqTerm.f k a0_0 a0_1 l0_2 a1_0 a1_1 l1_2 = some r),
    Calls Try.prog 23 #[.agg #[.int .i64 a0_0, .int .i64 a0_1, .slice A0_2 l0_2.length c0_2], .agg #[.int .i64 a1_0, .int .i64 a1_1, .slice A1_2 l1_2.length c1_2]] w fun e w' => e = .returned (.bool r) ∧ Below w.heap.size w w') := by
  induction k using Nat.strongRecOn with
  | _ k ih =>
  exact ⟨laws_eqTermS.step k (fun m hm => (ih m hm).1) (fun m hm => (ih m hm).2), laws_eqTerm.step k (fun m hm => (ih m hm).1) (fun m hm => (ih m hm).2)⟩
theorem laws_eqTermS.calls (k : Nat) : ∀ (A0 : Option Addr) (c0 : Nat) (l0 : List (I_Term)) (A1 : Option Addr) (c1 : Nat) (l1 : List (I_Term)) (r : Bool) (w : World) (hr0 : Kd.C k33 w A0 l0.length l0) (hc0 : l0.length ≤ c0) (hr1 : Kd.C k33 w A1 l1.length l1) (hc1 : l1.length ≤ c1) (h : laws_eqTermS.f k l0 l1 = some r),
    Calls Try.prog 21 #[.slice A0 l0.length c0, .slice A1 l1.length c1] w fun e w' => e = .returned (.bool r) ∧ Below w.heap.size w w' := (laws_eqTermS.grp_all k).1
theorem laws_eqTerm.calls (k : Nat) : ∀ (a0_0 : Int) (a0_1 : Int) (A0_2 : Option Addr) (c0_2 : Nat) (l0_2 : List (I_Term)) (a1_0 : Int) (a1_1 : Int) (A1_2 : Option Addr) (c1_2 : Nat) (l1_2 : List (I_Term)) (r : Bool) (w : World) (hr0_2 : Kd.C k33 w A0_2 l0_2.length l0_2) (hc0_2 : l0_2.length ≤ c0_2) (hr1_2 : Kd.C k33 w A1_2 l1_2.length l1_2) (hc1_2 : l1_2.length ≤ c1_2) (h : laws_eqTerm.f k a0_0 a0_1 l0_2 a1_0 a1_1 l1_2 = some r),
    Calls Try.prog 23 #[.agg #[.int .i64 a0_0, .int .i64 a0_1, .slice A0_2 l0_2.length c0_2], .agg #[.int .i64 a1_0, .int .i64 a1_1, .slice A1_2 l1_2.length c1_2]] w fun e w' => e = .returned (.bool r) ∧ Below w.heap.size w w' := (laws_eqTermS.grp_all k).2

end Go.Proofs.Ytejfjfhopapaaaa.XUsesOf
