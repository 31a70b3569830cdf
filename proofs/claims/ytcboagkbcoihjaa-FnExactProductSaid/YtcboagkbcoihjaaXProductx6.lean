-- printed by a program of this session (xprint, turned from the kit's print) for this claim
import Derived.Test.YtcboagkbcoihjaaXProductx0
import Derived.Test.YtcboagkbcoihjaaXProductx4
import Derived.Test.YtcboagkbcoihjaaXProductx5
namespace Go.Proofs.Ytcboagkbcoihjaa.XProduct
open Go.RowKit Go.Proofs.Ytcboagkbcoihjaa.XOpens Go.Proofs.YtcboagkbcoihjaaW.PrintWords Go.Proofs.YtcboagkbcoihjaaW.PrintLast Go.Proofs.YtcboagkbcoihjaaW.PrintMore
attribute [local go_sem] max2_int min2_int max_two min_two max_three min_three max_four min_four   -- for this text's walks alone
set_option linter.unusedVariables false
set_option linter.unusedSimpArgs false

/-! ### spec_Product: function 52 -/
mutual
def spec_Product.j0 : Nat → List (I_Sym) → Bool → Int → List (List Int) → Int → List (List Int) → Option (Int × (List (List Int)) × Bool)
  | 0, _, _, _, _, _, _ => none
  | k + 1, x0, x36, x199000, x199001, x200000, x200001 => if x36 = true then (some (0, ([] : List (List Int)), false)) else (spec_Product.l0 k x0 0 x199000 x199001 x200000 x200001 (wrap64 (x199000 * x200000)) ([] : List (List Int)))
def spec_Product.l0 : Nat → List (I_Sym) → Int → Int → List (List Int) → Int → List (List Int) → Int → List (List Int) → Option (Int × (List (List Int)) × Bool)
  | 0, _, _, _, _, _, _, _, _ => none
  | k + 1, x0, x9, x199000, x199001, x200000, x200001, x204000, x204001 => if x9 < (x0.length : Int) then (spec_Product.l1 k x0 x9 (([] : List Int)) 0 x199000 x199001 x200000 x200001 x204000 x204001) else (some (x204000, x204001, true))
def spec_Product.l1 : Nat → List (I_Sym) → Int → List Int → Int → Int → List (List Int) → Int → List (List Int) → Int → List (List Int) → Option (Int × (List (List Int)) × Bool)
  | 0, _, _, _, _, _, _, _, _, _, _ => none
  | k + 1, x0, x9, x10, x11, x199000, x199001, x200000, x200001, x204000, x204001 => if 0 ≤ x9 then (if x9 < (x0.length : Int) then ((spec_l24Power.f k x204000 ((rd_I_Sym x0 x9).f1)).bind fun t208 => (if x11 < t208 then (spec_Product.l2 k x0 x9 x10 x11 0 0 x11 1 1 0 x199000 x199001 x200000 x200001 x204000 x204001) else (if x204001.length < 5864062014805 then (spec_Product.l0 k x0 (wrap64 (x9 + 1)) x199000 x199001 x200000 x200001 x204000 (x204001 ++ [x10])) else (none)))) else (none)) else (none)
def spec_Product.l2 : Nat → List (I_Sym) → Int → List Int → Int → Int → Int → Int → Int → Int → Int → Int → List (List Int) → Int → List (List Int) → Int → List (List Int) → Option (Int × (List (List Int)) × Bool)
  | 0, _, _, _, _, _, _, _, _, _, _, _, _, _, _, _, _ => none
  | k + 1, x0, x9, x10, x11, x12, x13, x14, x15, x16, x17, x199000, x199001, x200000, x200001, x204000, x204001 => if 0 ≤ x9 then (if x9 < (x0.length : Int) then (if x17 < ((rd_I_Sym x0 x9).f1) then (if x204000 = 0 then (none) else (if x199000 = 0 then (none) else (spec_Product.l2 k x0 x9 x10 x11 (wrap64 (x12 + (wrap64 (x15 * (Int.tmod (Int.tmod x14 x204000) x199000))))) (wrap64 (x13 + (wrap64 (x16 * (wrap64 (Int.tdiv (Int.tmod x14 x204000) x199000)))))) (wrap64 (Int.tdiv x14 x204000)) (wrap64 (x15 * x199000)) (wrap64 (x16 * x200000)) (wrap64 (x17 + 1)) x199000 x199001 x200000 x200001 x204000 x204001))) else (if x9 < (x199001.length : Int) then (if 0 ≤ x12 then (if x12 < ((rd_Ls_i64 x199001 x9).length : Int) then (if x9 < (x200001.length : Int) then (if 0 ≤ x13 then (if x13 < ((rd_Ls_i64 x200001 x9).length : Int) then (if x10.length < 17592186044416 then (spec_Product.l1 k x0 x9 (x10 ++ [wrap64 ((rd (rd_Ls_i64 x199001 x9) x12) + (wrap64 (x199000 * (rd (rd_Ls_i64 x200001 x9) x13))))]) (wrap64 (x11 + 1)) x199000 x199001 x200000 x200001 x204000 x204001) else (none)) else (none)) else (none)) else (none)) else (none)) else (none)) else (none))) else (none)) else (none)
end
def spec_Product.f (k : Nat) (l0 : List (I_Sym)) (a1_0 : Int) (l1_1 : List (List Int)) (a2_0 : Int) (l2_1 : List (List Int)) : Option (Int × (List (List Int)) × Bool) := (spec_WorldOk.f k l0 a1_0 l1_1).bind fun t201 => (if t201 = true then ((spec_WorldOk.f k l0 a2_0 l2_1).bind fun t202 => (if t202 = true then (spec_Product.j0 k l0 (decide ((wrap64 (a1_0 * a2_0)) > 4)) a1_0 l1_1 a2_0 l2_1) else (spec_Product.j0 k l0 true a1_0 l1_1 a2_0 l2_1))) else (spec_Product.j0 k l0 true a1_0 l1_1 a2_0 l2_1))
theorem spec_Product.mono_l : ∀ k, (∀ y0 y1 y2 y3 y4 y5, LeO (spec_Product.j0 k y0 y1 y2 y3 y4 y5) (spec_Product.j0 (k + 1) y0 y1 y2 y3 y4 y5)) ∧ (∀ y0 y1 y2 y3 y4 y5 y6 y7, LeO (spec_Product.l0 k y0 y1 y2 y3 y4 y5 y6 y7) (spec_Product.l0 (k + 1) y0 y1 y2 y3 y4 y5 y6 y7)) ∧ (∀ y0 y1 y2 y3 y4 y5 y6 y7 y8 y9, LeO (spec_Product.l1 k y0 y1 y2 y3 y4 y5 y6 y7 y8 y9) (spec_Product.l1 (k + 1) y0 y1 y2 y3 y4 y5 y6 y7 y8 y9)) ∧ (∀ y0 y1 y2 y3 y4 y5 y6 y7 y8 y9 y10 y11 y12 y13 y14 y15, LeO (spec_Product.l2 k y0 y1 y2 y3 y4 y5 y6 y7 y8 y9 y10 y11 y12 y13 y14 y15) (spec_Product.l2 (k + 1) y0 y1 y2 y3 y4 y5 y6 y7 y8 y9 y10 y11 y12 y13 y14 y15))
  | 0 => ⟨fun _ _ _ _ _ _ r h => by simp [spec_Product.j0] at h, fun _ _ _ _ _ _ _ _ r h => by simp [spec_Product.l0] at h, fun _ _ _ _ _ _ _ _ _ _ r h => by simp [spec_Product.l1] at h, fun _ _ _ _ _ _ _ _ _ _ _ _ _ _ _ _ r h => by simp [spec_Product.l2] at h⟩
  | k + 1 => by
    obtain ⟨ih0, ih1, ih2, ih3⟩ := spec_Product.mono_l k; refine ⟨?_, ?_, ?_, ?_⟩
    · intro y0 y1 y2 y3 y4 y5
      unfold spec_Product.j0
      repeat' first | (with_reducible first | exact ih0 _ _ _ _ _ _ | exact ih1 _ _ _ _ _ _ _ _ | exact ih2 _ _ _ _ _ _ _ _ _ _ | exact ih3 _ _ _ _ _ _ _ _ _ _ _ _ _ _ _ _ | exact spec_WorldOk.mono _ _ _ _ | exact spec_l24Power.mono _ _ _ | exact LeO.refl _ | exact LeO.none _ | refine LeO.ite ?_ ?_ | refine LeO.bind ?_ (fun _ => ?_)) | exact ih0 _ _ _ _ _ _ | exact ih1 _ _ _ _ _ _ _ _ | exact ih2 _ _ _ _ _ _ _ _ _ _ | exact ih3 _ _ _ _ _ _ _ _ _ _ _ _ _ _ _ _ | exact spec_WorldOk.mono _ _ _ _ | exact spec_l24Power.mono _ _ _ | exact LeO.none _ | refine LeO.ite ?_ ?_ | refine LeO.bind ?_ (fun _ => ?_)
    · intro y0 y1 y2 y3 y4 y5 y6 y7
      unfold spec_Product.l0
      repeat' first | (with_reducible first | exact ih0 _ _ _ _ _ _ | exact ih1 _ _ _ _ _ _ _ _ | exact ih2 _ _ _ _ _ _ _ _ _ _ | exact ih3 _ _ _ _ _ _ _ _ _ _ _ _ _ _ _ _ | exact spec_WorldOk.mono _ _ _ _ | exact spec_l24Power.mono _ _ _ | exact LeO.refl _ | exact LeO.none _ | refine LeO.ite ?_ ?_ | refine LeO.bind ?_ (fun _ => ?_)) | exact ih0 _ _ _ _ _ _ | exact ih1 _ _ _ _ _ _ _ _ | exact ih2 _ _ _ _ _ _ _ _ _ _ | exact ih3 _ _ _ _ _ _ _ _ _ _ _ _ _ _ _ _ | exact spec_WorldOk.mono _ _ _ _ | exact spec_l24Power.mono _ _ _ | exact LeO.none _ | refine LeO.ite ?_ ?_ | refine LeO.bind ?_ (fun _ => ?_)
    · intro y0 y1 y2 y3 y4 y5 y6 y7 y8 y9
      unfold spec_Product.l1
      repeat' first | (with_reducible first | exact ih0 _ _ _ _ _ _ | exact ih1 _ _ _ _ _ _ _ _ | exact ih2 _ _ _ _ _ _ _ _ _ _ | exact ih3 _ _ _ _ _ _ _ _ _ _ _ _ _ _ _ _ | exact spec_WorldOk.mono _ _ _ _ | exact spec_l24Power.mono _ _ _ | exact LeO.refl _ | exact LeO.none _ | refine LeO.ite ?_ ?_ | refine LeO.bind ?_ (fun _ => ?_)) | exact ih0 _ _ _ _ _ _ | exact ih1 _ _ _ _ _ _ _ _ | exact ih2 _ _ _ _ _ _ _ _ _ _ | exact ih3 _ _ _ _ _ _ _ _ _ _ _ _ _ _ _ _ | exact spec_WorldOk.mono _ _ _ _ | exact spec_l24Power.mono _ _ _ | exact LeO.none _ | refine LeO.ite ?_ ?_ | refine LeO.bind ?_ (fun _ => ?_)
    · intro y0 y1 y2 y3 y4 y5 y6 y7 y8 y9 y10 y11 y12 y13 y14 y15
      unfold spec_Product.l2
      repeat' first | (with_reducible first | exact ih0 _ _ _ _ _ _ | exact ih1 _ _ _ _ _ _ _ _ | exact ih2 _ _ _ _ _ _ _ _ _ _ | exact ih3 _ _ _ _ _ _ _ _ _ _ _ _ _ _ _ _ | exact spec_WorldOk.mono _ _ _ _ | exact spec_l24Power.mono _ _ _ | exact LeO.refl _ | exact LeO.none _ | refine LeO.ite ?_ ?_ | refine LeO.bind ?_ (fun _ => ?_)) | exact ih0 _ _ _ _ _ _ | exact ih1 _ _ _ _ _ _ _ _ | exact ih2 _ _ _ _ _ _ _ _ _ _ | exact ih3 _ _ _ _ _ _ _ _ _ _ _ _ _ _ _ _ | exact spec_WorldOk.mono _ _ _ _ | exact spec_l24Power.mono _ _ _ | exact LeO.none _ | refine LeO.ite ?_ ?_ | refine LeO.bind ?_ (fun _ => ?_)
theorem spec_Product.mono : ∀ a0 a1 a2 a3 a4 k, LeO (spec_Product.f k a0 a1 a2 a3 a4) (spec_Product.f (k + 1) a0 a1 a2 a3 a4) := by
  intro a0 a1 a2 a3 a4 k; obtain ⟨ih0, ih1, ih2, ih3⟩ := spec_Product.mono_l k
  unfold spec_Product.f
  repeat' first
      | (with_reducible exact ih0 _ _ _ _ _ _)
      | (with_reducible exact ih1 _ _ _ _ _ _ _ _)
      | (with_reducible exact ih2 _ _ _ _ _ _ _ _ _ _)
      | (with_reducible exact ih3 _ _ _ _ _ _ _ _ _ _ _ _ _ _ _ _)
      | (with_reducible exact spec_WorldOk.mono _ _ _ _)
      | (with_reducible exact spec_l24Power.mono _ _ _)
      | (with_reducible exact LeO.refl _)
      | (with_reducible exact LeO.none _)
      | (with_reducible refine LeO.ite ?_ ?_)
      | (with_reducible refine LeO.bind ?_ (fun _ => ?_))
      | exact ih0 _ _ _ _ _ _
      | exact ih1 _ _ _ _ _ _ _ _
      | exact ih2 _ _ _ _ _ _ _ _ _ _
      | exact ih3 _ _ _ _ _ _ _ _ _ _ _ _ _ _ _ _
      | exact spec_WorldOk.mono _ _ _ _
      | exact spec_l24Power.mono _ _ _
      | exact LeO.none _
      | refine LeO.ite ?_ ?_
      | refine LeO.bind ?_ (fun _ => ?_)
def spec_Product.T9 : Bool × List (List Nat × List Nat) := (true, [([], []), ([], []), ([1], [1]), ([], []), ([], []), ([3, 4], [3, 4]), ([5], [5]), ([6], [6]), ([2, 7], [2, 7]), ([0, 8], [0, 8])])
def spec_Product.B9 : List Nat := [0, 0, 2, 0, 0, 24, 56, 120, 254, 511]
theorem spec_Product.tab9 : rtab .any (opsOf Try.f52 9) = spec_Product.T9 := by kernel_rfl
theorem spec_Product.bits9 : waitsOk spec_Product.T9.2 spec_Product.B9 = true := by kernel_rfl
def spec_Product.T23 : Bool × List (List Nat × List Nat) := (true, [([], []), ([], []), ([1], [1]), ([], []), ([2, 3], [2, 3]), ([4], [4]), ([], []), ([5, 6], [5, 6]), ([7], [7]), ([], []), ([9], [9]), ([], []), ([11], [11]), ([], []), ([12, 13], [12, 13]), ([14], [14]), ([], []), ([15, 16], [15, 16]), ([17], [17]), ([10, 18], [10, 18]), ([8, 19], [8, 19]), ([20], [20]), ([0, 21], [0, 21]), ([22, 22, 0, 1, 2, 3, 4, 5, 6, 7, 8, 9, 10, 11, 12, 13, 14, 15, 16, 17, 18, 19, 20, 21, 22], [0, 22])])
def spec_Product.B23 : List Nat := [0, 0, 2, 0, 14, 30, 0, 126, 254, 0, 512, 0, 2048, 0, 14336, 30720, 0, 129024, 260096, 523776, 1048574, 2097150, 4194303, 8388607]
theorem spec_Product.tab23 : rtab .any (opsOf Try.f52 23) = spec_Product.T23 := by kernel_rfl
theorem spec_Product.bits23 : waitsOk spec_Product.T23.2 spec_Product.B23 = true := by kernel_rfl
set_option maxHeartbeats 8000000 in
set_option maxRecDepth 100000 in
theorem spec_Product.calls (k : Nat) (A0 : Option Addr) (c0 : Nat) (l0 : List (I_Sym)) (a1_0 : Int) (A1_1 : Option Addr) (c1_1 : Nat) (l1_1 : List (List Int)) (a2_0 : Int) (A2_1 : Option Addr) (c2_1 : Nat) (l2_1 : List (List Int)) (r1 : Int) (r2 : List (List Int)) (r3 : Bool) (w : World) (hr0 : Kd.C k99 w A0 l0.length l0) (hc0 : l0.length ≤ c0) (hr1_1 : Kd.C (Kd.slice 3 (Kd.int .i64)) w A1_1 l1_1.length l1_1) (hc1_1 : l1_1.length ≤ c1_1) (hr2_1 : Kd.C (Kd.slice 3 (Kd.int .i64)) w A2_1 l2_1.length l2_1) (hc2_1 : l2_1.length ≤ c2_1) (h : spec_Product.f k l0 a1_0 l1_1 a2_0 l2_1 = some (r1, r2, r3)) :
    Calls Try.prog 52 #[.slice A0 l0.length c0, .agg #[.int .i64 a1_0, .slice A1_1 l1_1.length c1_1], .agg #[.int .i64 a2_0, .slice A2_1 l2_1.length c2_1]] w fun e w' => ∃ v1_ : Value, e = .returned (.tuple #[.agg #[.int .i64 r1, v1_], .bool r3]) ∧ Kd.S (Kd.slice 3 (Kd.int .i64)) 75 w' w.heap.size (fun _ => True) v1_ r2 ∧ Below w.heap.size w w' := by
  have hu51 := Try.underlying51; have HR0 := ak hr0; have HC0 := ak hc0; clear hr0 hc0; have HR1_1 := ak hr1_1; have HC1_1 := ak hc1_1; clear hr1_1 hc1_1; have HR2_1 := ak hr2_1; have HC2_1 := ak hc2_1; clear hr2_1 hc2_1; have HB := ak (Below.refl w.heap.size w); have H : ((spec_WorldOk.f k l0 a1_0 l1_1).bind fun t201 => (if t201 = true then ((spec_WorldOk.f k l0 a2_0 l2_1).bind fun t202 => (if t202 = true then (spec_Product.j0 k l0 (decide ((wrap64 (a1_0 * a2_0)) > 4)) a1_0 l1_1 a2_0 l2_1) else (spec_Product.j0 k l0 true a1_0 l1_1 a2_0 l2_1))) else (spec_Product.j0 k l0 true a1_0 l1_1 a2_0 l2_1))) = some (r1, r2, r3) := h; clear h; have HC4 := ak H; clear H
  go_enter Try.func52, Try.ntmps52
  go_upto_region 1 with (first | ((with_reducible refine gate_dst (N := 4) rfl ?_); refine bxe_ (N := 4) (cs := #[.int .i64 a1_0, .slice A1_1 l1_1.length c1_1]) (t := 51) ?_; intro gb198 hg w5 hbox hb; have BK198 := ak (hbox); have GW198 := ak (lg_ hg (bl_ HB.out)); have GE198 := ak (lg_ hg (bl_ HB.out)); replace HB := ak (below_step (bl_ HB.out) hb); clear hb hbox hg) | ((with_reducible refine gate_dst (N := 5) rfl ?_); refine bxe_ (N := 5) (cs := #[.int .i64 a2_0, .slice A2_1 l2_1.length c2_1]) (t := 51) ?_; intro gb199 hg w6 hbox hb; have BK199 := ak (hbox); have GW199 := ak (lg_ hg (bs1_ HB.out GE198.out)); have GE199 := ak (lg_ hg (bs1_ HB.out GE198.out)); replace HB := ak (below_step (bs1_ HB.out GE198.out) hb); have NB198_199 := ak (nl_ hg (bk_ BK198.out)); have NB199_198 := ak (ng_ hg (bk_ BK198.out)); replace BK198 := ak (blk_below (bk_ BK198.out) hb); clear hb hbox hg) | ((with_reducible refine gate_dst (N := 6) rfl ?_); refine bxe_ (N := 6) (cs := #[.int .i64 0, .slice none 0 0]) (t := 51) ?_; intro gb200 hg w7 hbox hb; have BK200 := ak (hbox); have GW200 := ak (lg_ hg (bs2_ HB.out GE198.out GE199.out)); have GE200 := ak (lg_ hg (bs2_ HB.out GE198.out GE199.out)); replace HB := ak (below_step (bs2_ HB.out GE198.out GE199.out) hb); have NB198_200 := ak (nl_ hg (bk_ BK198.out)); have NB200_198 := ak (ng_ hg (bk_ BK198.out)); replace BK198 := ak (blk_below (bk_ BK198.out) hb); have NB199_200 := ak (nl_ hg (bk_ BK199.out)); have NB200_199 := ak (ng_ hg (bk_ BK199.out)); replace BK199 := ak (blk_below (bk_ BK199.out) hb); clear hb hbox hg))
  (try simp only [Act.put, List.setIfInBounds_toArray, List.set_cons_zero, List.set_cons_succ])
  go_cut [36] (fun v36 wc => ∃ (kq : Nat) (x36_3 : Bool), v36 = .bool x36_3 ∧ Aside0 (spec_Product.j0 kq l0 x36_3 a1_0 l1_1 a2_0 l2_1 = some (r1, r2, r3)) ∧ Aside0 (kq ≤ k) ∧ Aside0 (wc.heap[gb198]? = some (.cells #[.int .i64 a1_0, (.slice A1_1 l1_1.length c1_1)] 51 (0, 0))) ∧ Aside0 (wc.heap[gb199]? = some (.cells #[.int .i64 a2_0, (.slice A2_1 l2_1.length c2_1)] 51 (0, 0))) ∧ Aside0 (wc.heap[gb200]? = some (.cells #[.int .i64 0, (.slice none 0 0)] 51 (0, 0))) ∧ Aside0 (Below w.heap.size w wc))
  case first =>
    have H := HC4.out; clear HC4; replace H := Option.bind_eq_some_iff.mp H; obtain ⟨t201, A80, H⟩ := H; have A8 := ak A80; clear A80
    by_cases c9 : t201 = true
    · subst c9; rw [if_pos rfl] at H; replace H := Option.bind_eq_some_iff.mp H; obtain ⟨t202, A100, H⟩ := H; have A10 := ak A100; clear A100
      by_cases c11 : t202 = true
      · subst c11; rw [if_pos rfl] at H; have H' := ak H; clear H; have hnb12 := NB198_199.out; have hnc12 := NB199_198.out; have hnb13 := NB198_200.out; have hnc13 := NB200_198.out; have hcz14_0 := bc_ BK198.out 0; have hcz14_1 := bc_ BK198.out 1; have hfz14_0 := blk_frozen BK198.out 0; have hfz14_1 := blk_frozen BK198.out 1
        go_wp2_with (first | ((with_reducible refine gate_callee (f := 31) rfl ?_); refine goesM_ (some 21) rfl rfl Try.func31 (by kernel_rfl) rfl #[.slice A0 l0.length c0, .agg #[.int .i64 a1_0, .slice A1_1 l1_1.length c1_1]] rfl ?_; (with_reducible refine (spec_WorldOk.calls k _ _ l0 a1_0 _ _ l1_1 true _ ?side1 ?side2 ?side3 ?side4 A8.out).mono ?_); (case side1 => exact cb_ HR0.out HB.out); (case side2 => exact HC0.out); (case side3 => exact cb_ HR1_1.out HB.out); (case side4 => exact HC1_1.out); rintro e w15 ⟨rfl, hb⟩; refine ⟨_, rfl, ?_⟩; replace BK198 := ak (blk_below (bk_ BK198.out) hb); replace BK199 := ak (blk_below (bk_ BK199.out) hb); replace BK200 := ak (blk_below (bk_ BK200.out) hb); replace HB := ak (below_step (bs3_ HB.out GE198.out GE199.out GE200.out) hb); (try clear hb); (try clear hb2); (try clear hk); (try clear hi); have hnb16 := NB199_200.out; have hnc16 := NB200_199.out; have hcz17_0 := bc_ BK199.out 0; have hcz17_1 := bc_ BK199.out 1; have hfz17_0 := blk_frozen BK199.out 0; have hfz17_1 := blk_frozen BK199.out 1) | (go_at_call 31; (with_reducible refine (spec_WorldOk.calls k _ _ l0 a2_0 _ _ l2_1 true _ ?side1 ?side2 ?side3 ?side4 A10.out).mono ?_); (case side1 => exact cb_ HR0.out HB.out); (case side2 => exact HC0.out); (case side3 => exact cb_ HR2_1.out HB.out); (case side4 => exact HC2_1.out); rintro e w18 ⟨rfl, hb⟩; replace BK198 := ak (blk_below (bk_ BK198.out) hb); replace BK199 := ak (blk_below (bk_ BK199.out) hb); replace BK200 := ak (blk_below (bk_ BK200.out) hb); replace HB := ak (below_step (bs3_ HB.out GE198.out GE199.out GE200.out) hb); (try clear hb); (try clear hb2); (try clear hk); (try clear hi); have hcz19_0 := bc_ BK198.out 0; have hcz19_1 := bc_ BK198.out 1; have hfz19_0 := blk_frozen BK198.out 0; have hfz19_1 := blk_frozen BK198.out 1; have hcz20_0 := bc_ BK199.out 0; have hcz20_1 := bc_ BK199.out 1; have hfz20_0 := blk_frozen BK199.out 0; have hfz20_1 := blk_frozen BK199.out 1))
        go_meet
        case rel => exact ⟨_, (decide ((wrap64 (a1_0 * a2_0)) > 4)), (by first | rfl | (simp; done) | (simp [*]; done)), H', ⟨by first | omega | exact Nat.le_refl _⟩, ⟨bk_ BK198.out⟩, ⟨bk_ BK199.out⟩, ⟨bk_ BK200.out⟩, ⟨bs3_ HB.out GE198.out GE199.out GE200.out⟩⟩
      replace c11 := Bool.eq_false_iff.mpr c11; subst c11; rw [if_neg (show ¬ (false = true) by decide)] at H; have H' := ak H; clear H; have hnb21 := NB198_199.out; have hnc21 := NB199_198.out; have hnb22 := NB198_200.out; have hnc22 := NB200_198.out; have hcz23_0 := bc_ BK198.out 0; have hcz23_1 := bc_ BK198.out 1; have hfz23_0 := blk_frozen BK198.out 0; have hfz23_1 := blk_frozen BK198.out 1
      go_wp2_with (first | ((with_reducible refine gate_callee (f := 31) rfl ?_); refine goesM_ (some 21) rfl rfl Try.func31 (by kernel_rfl) rfl #[.slice A0 l0.length c0, .agg #[.int .i64 a1_0, .slice A1_1 l1_1.length c1_1]] rfl ?_; (with_reducible refine (spec_WorldOk.calls k _ _ l0 a1_0 _ _ l1_1 true _ ?side1 ?side2 ?side3 ?side4 A8.out).mono ?_); (case side1 => exact cb_ HR0.out HB.out); (case side2 => exact HC0.out); (case side3 => exact cb_ HR1_1.out HB.out); (case side4 => exact HC1_1.out); rintro e w24 ⟨rfl, hb⟩; refine ⟨_, rfl, ?_⟩; replace BK198 := ak (blk_below (bk_ BK198.out) hb); replace BK199 := ak (blk_below (bk_ BK199.out) hb); replace BK200 := ak (blk_below (bk_ BK200.out) hb); replace HB := ak (below_step (bs3_ HB.out GE198.out GE199.out GE200.out) hb); (try clear hb); (try clear hb2); (try clear hk); (try clear hi); have hnb25 := NB199_200.out; have hnc25 := NB200_199.out; have hcz26_0 := bc_ BK199.out 0; have hcz26_1 := bc_ BK199.out 1; have hfz26_0 := blk_frozen BK199.out 0; have hfz26_1 := blk_frozen BK199.out 1) | (go_at_call 31; (with_reducible refine (spec_WorldOk.calls k _ _ l0 a2_0 _ _ l2_1 false _ ?side1 ?side2 ?side3 ?side4 A10.out).mono ?_); (case side1 => exact cb_ HR0.out HB.out); (case side2 => exact HC0.out); (case side3 => exact cb_ HR2_1.out HB.out); (case side4 => exact HC2_1.out); rintro e w27 ⟨rfl, hb⟩; replace BK198 := ak (blk_below (bk_ BK198.out) hb); replace BK199 := ak (blk_below (bk_ BK199.out) hb); replace BK200 := ak (blk_below (bk_ BK200.out) hb); replace HB := ak (below_step (bs3_ HB.out GE198.out GE199.out GE200.out) hb); (try clear hb); (try clear hb2); (try clear hk); (try clear hi)))
      go_meet
      case rel => exact ⟨_, (true), (by first | rfl | (simp; done) | (simp [*]; done)), H', ⟨by first | omega | exact Nat.le_refl _⟩, ⟨bk_ BK198.out⟩, ⟨bk_ BK199.out⟩, ⟨bk_ BK200.out⟩, ⟨bs3_ HB.out GE198.out GE199.out GE200.out⟩⟩
    replace c9 := Bool.eq_false_iff.mpr c9; subst c9; rw [if_neg (show ¬ (false = true) by decide)] at H; have H' := ak H; clear H; have hnb28 := NB198_199.out; have hnc28 := NB199_198.out; have hnb29 := NB198_200.out; have hnc29 := NB200_198.out; have hcz30_0 := bc_ BK198.out 0; have hcz30_1 := bc_ BK198.out 1; have hfz30_0 := blk_frozen BK198.out 0; have hfz30_1 := blk_frozen BK198.out 1
    go_wp2_with (first | ((with_reducible refine gate_callee (f := 31) rfl ?_); refine goesM_ (some 21) rfl rfl Try.func31 (by kernel_rfl) rfl #[.slice A0 l0.length c0, .agg #[.int .i64 a1_0, .slice A1_1 l1_1.length c1_1]] rfl ?_; (with_reducible refine (spec_WorldOk.calls k _ _ l0 a1_0 _ _ l1_1 false _ ?side1 ?side2 ?side3 ?side4 A8.out).mono ?_); (case side1 => exact cb_ HR0.out HB.out); (case side2 => exact HC0.out); (case side3 => exact cb_ HR1_1.out HB.out); (case side4 => exact HC1_1.out); rintro e w31 ⟨rfl, hb⟩; refine ⟨_, rfl, ?_⟩; replace BK198 := ak (blk_below (bk_ BK198.out) hb); replace BK199 := ak (blk_below (bk_ BK199.out) hb); replace BK200 := ak (blk_below (bk_ BK200.out) hb); replace HB := ak (below_step (bs3_ HB.out GE198.out GE199.out GE200.out) hb); (try clear hb); (try clear hb2); (try clear hk); (try clear hi)))
    go_meet
    case rel => exact ⟨_, (true), (by first | rfl | (simp; done) | (simp [*]; done)), H', ⟨by first | omega | exact Nat.le_refl _⟩, ⟨bk_ BK198.out⟩, ⟨bk_ BK199.out⟩, ⟨bk_ BK200.out⟩, ⟨bs3_ HB.out GE198.out GE199.out GE200.out⟩⟩
  case rest =>
    clear HC4; (try clear c1); (try clear c2); (try clear p2); (try clear c3); (try clear c5); (try clear p6); (try clear c9); (try clear c11); (try clear c12); (try clear c13); (try clear c16); (try clear c21); (try clear c22); (try clear c25); (try clear c28); (try clear c29); (try clear c31); (try clear hcz14_0); (try clear hcz14_1); (try clear hcz17_0); (try clear hcz17_1); (try clear hcz19_0); (try clear hcz19_1); (try clear hcz20_0); (try clear hcz20_1); (try clear hcz23_0); (try clear hcz23_1); (try clear hcz26_0); (try clear hcz26_1); (try clear hcz30_0); (try clear hcz30_1); (try clear hfz14_0); (try clear hfz14_1); (try clear hfz17_0); (try clear hfz17_1); (try clear hfz19_0); (try clear hfz19_1); (try clear hfz20_0); (try clear hfz20_1); (try clear hfz23_0); (try clear hfz23_1); (try clear hfz26_0); (try clear hfz26_1); (try clear hfz30_0); (try clear hfz30_1); obtain ⟨kq, x36_3, rfl, HA, HJ3, BK198, BK199, BK200, HB⟩ := hcut
    cases kq with
    | zero => exact absurd HA.out (by simp [spec_Product.j0])
    | succ kj3 =>
      have H := HA.out; clear HA
      simp only [spec_Product.j0] at H
      by_cases c32 : x36_3 = true
      · subst c32; rw [if_pos rfl] at H
        simp only [Option.some.injEq, Prod.mk.injEq] at H
        obtain ⟨rfl, rfl, rfl⟩ := H; have hnb33 := NB200_198.out; have hnc33 := NB198_200.out; have hnb34 := NB200_199.out; have hnc34 := NB199_200.out; have hcz35_0 := bc_ BK200.out 0; have hcz35_1 := bc_ BK200.out 1; have hfz35_0 := blk_frozen BK200.out 0; have hfz35_1 := blk_frozen BK200.out 1
        go_wp2
        refine bodyPost_ret (results_ct rfl _ _ gb200 51 #[.int .i64 0, .slice none 0 0] (0, 0) _ rfl (by (with_reducible repeat (first | refine blk_drewN ?_ _ | refine blk_drew ?_ | refine blk_alloc ?_ _)); refine blk_put (cs := #[.int .i64 0, .slice none 0 0]) ?_ 1 _ rfl; (with_reducible repeat (first | refine blk_drewN ?_ _ | refine blk_drew ?_ | refine blk_alloc ?_ _)); refine blk_put (cs := #[.int .i64 0, .slice none 0 0]) ?_ 0 _ rfl; (with_reducible repeat (first | refine blk_drewN ?_ _ | refine blk_drew ?_ | refine blk_alloc ?_ _)); exact BK200.out) Try.underlying51 rfl (by kernel_rfl)) rfl ?_; exact ⟨_, by first | rfl | (simp [errW_none, errW_some] <;> rfl) | (simp [*, errW_none, errW_some] <;> rfl), by first | exact Kd.S_nil _ _ _ _ _ | exact Kd.N_nil _ _ _ _ _ | exact Kd.V_nil _ _ _ _ _ | exact Kd.Q_nil _ _ _ _ _ | exact Kd.R_nil _ _ _ _ _, by repeat (first | (with_reducible first | exact HB.out | apply below_alloc | apply pw_below_drewN | apply below_drew1 | refine below_set ?_ GE198.out | refine below_set ?_ GE199.out | refine below_set ?_ GE200.out) | exact HB.out)⟩
      replace c32 := Bool.eq_false_iff.mpr c32; subst c32; rw [if_neg (show ¬ (false = true) by decide)] at H; have H' := ak H; clear H; have hnb36 := NB198_199.out; have hnc36 := NB199_198.out; have hnb37 := NB198_200.out; have hnc37 := NB200_198.out; have hcz38_0 := bc_ BK198.out 0; have hcz38_1 := bc_ BK198.out 1; have hfz38_0 := blk_frozen BK198.out 0; have hfz38_1 := blk_frozen BK198.out 1; have hnb39 := NB199_200.out; have hnc39 := NB200_199.out; have hcz40_0 := bc_ BK199.out 0; have hcz40_1 := bc_ BK199.out 1; have hfz40_0 := blk_frozen BK199.out 0; have hfz40_1 := blk_frozen BK199.out 1
      go_wp2_with (first | ((with_reducible refine gate_dst (N := 8) rfl ?_); refine bxe_ (N := 8) (cs := #[.int .i64 0, .slice none 0 0]) (t := 51) ?_; intro gb203 hg w41 hbox hb; have BK203 := ak (hbox); have GW203 := ak (lg_ hg (bs3_ HB.out GE198.out GE199.out GE200.out)); have GE203 := ak (lg_ hg (bs3_ HB.out GE198.out GE199.out GE200.out)); replace HB := ak (below_step (bs3_ HB.out GE198.out GE199.out GE200.out) hb); have NB198_203 := ak (nl_ hg (bk_ BK198.out)); have NB203_198 := ak (ng_ hg (bk_ BK198.out)); replace BK198 := ak (blk_below (bk_ BK198.out) hb); have NB199_203 := ak (nl_ hg (bk_ BK199.out)); have NB203_199 := ak (ng_ hg (bk_ BK199.out)); replace BK199 := ak (blk_below (bk_ BK199.out) hb); have NB200_203 := ak (nl_ hg (bk_ BK200.out)); have NB203_200 := ak (ng_ hg (bk_ BK200.out)); replace BK200 := ak (blk_below (bk_ BK200.out) hb); clear hb hbox hg; have hnb42 := NB203_198.out; have hnc42 := NB198_203.out; have hnb43 := NB203_199.out; have hnc43 := NB199_203.out; have hnb44 := NB203_200.out; have hnc44 := NB200_203.out; have hcz45_0 := bc_ BK203.out 0; have hcz45_1 := bc_ BK203.out 1; have hfz45_0 := blk_frozen BK203.out 0; have hfz45_1 := blk_frozen BK203.out 1))
      go_loopg [9] kj3 (fun kq v9 w' => ∃ (x9_2 : Int) (x204001_2 : List (List Int)) (u204001 : Value), v9 = .int .i64 x9_2 ∧ Aside0 (spec_Product.l0 kq l0 x9_2 a1_0 l1_1 a2_0 l2_1 (wrap64 (a1_0 * a2_0)) x204001_2 = some (r1, r2, r3)) ∧ Aside0 (kq ≤ kj3) ∧ Aside0 (Kd.S (Kd.slice 3 (Kd.int .i64)) 75 w' w.heap.size (fun _ => True) u204001 x204001_2) ∧ Aside0 (w'.heap[gb198]? = some (.cells #[.int .i64 a1_0, (.slice A1_1 l1_1.length c1_1)] 51 (0, 0))) ∧ Aside0 (w'.heap[gb199]? = some (.cells #[.int .i64 a2_0, (.slice A2_1 l2_1.length c2_1)] 51 (0, 0))) ∧ Aside0 (w'.heap[gb200]? = some (.cells #[.int .i64 0, (.slice none 0 0)] 51 (0, 0))) ∧ Aside0 (w'.heap[gb203]? = some (.cells #[.int .i64 (wrap64 (a1_0 * a2_0)), u204001] 51 (0, 0))) ∧ Aside0 (Below w.heap.size w w'))
      case atStart => exact ⟨(0), (([] : List (List Int))), (.slice none 0 0), (by first | rfl | (simp; done) | (simp [*]; done)), H', ⟨Nat.le_refl _⟩, ⟨by first | exact Kd.S_nil _ _ _ _ _ | exact Kd.N_nil _ _ _ _ _ | exact Kd.V_nil _ _ _ _ _ | exact Kd.Q_nil _ _ _ _ _ | exact Kd.R_nil _ _ _ _ _⟩, ⟨by (with_reducible repeat (first | refine blk_drewN ?_ _ | refine blk_drew ?_ | refine blk_alloc ?_ _)); refine blk_far ?_ NB198_203.out _; (with_reducible repeat (first | refine blk_drewN ?_ _ | refine blk_drew ?_ | refine blk_alloc ?_ _)); refine blk_far ?_ NB198_203.out _; (with_reducible repeat (first | refine blk_drewN ?_ _ | refine blk_drew ?_ | refine blk_alloc ?_ _)); exact BK198.out⟩, ⟨by (with_reducible repeat (first | refine blk_drewN ?_ _ | refine blk_drew ?_ | refine blk_alloc ?_ _)); refine blk_far ?_ NB199_203.out _; (with_reducible repeat (first | refine blk_drewN ?_ _ | refine blk_drew ?_ | refine blk_alloc ?_ _)); refine blk_far ?_ NB199_203.out _; (with_reducible repeat (first | refine blk_drewN ?_ _ | refine blk_drew ?_ | refine blk_alloc ?_ _)); exact BK199.out⟩, ⟨by (with_reducible repeat (first | refine blk_drewN ?_ _ | refine blk_drew ?_ | refine blk_alloc ?_ _)); refine blk_far ?_ NB200_203.out _; (with_reducible repeat (first | refine blk_drewN ?_ _ | refine blk_drew ?_ | refine blk_alloc ?_ _)); refine blk_far ?_ NB200_203.out _; (with_reducible repeat (first | refine blk_drewN ?_ _ | refine blk_drew ?_ | refine blk_alloc ?_ _)); exact BK200.out⟩, ⟨by (with_reducible repeat (first | refine blk_drewN ?_ _ | refine blk_drew ?_ | refine blk_alloc ?_ _)); refine blk_put (cs := #[.int .i64 (wrap64 (a1_0 * a2_0)), .slice none 0 0]) ?_ 1 _ rfl; (with_reducible repeat (first | refine blk_drewN ?_ _ | refine blk_drew ?_ | refine blk_alloc ?_ _)); refine blk_put (cs := #[.int .i64 0, .slice none 0 0]) ?_ 0 _ rfl; (with_reducible repeat (first | refine blk_drewN ?_ _ | refine blk_drew ?_ | refine blk_alloc ?_ _)); exact BK203.out⟩, ⟨bs4_ HB.out GE198.out GE199.out GE200.out GE203.out⟩⟩
      case round =>
        clear H'; (try clear c1); (try clear c2); (try clear p2); (try clear c3); (try clear c4); (try clear c5); (try clear p6); (try clear c9); (try clear c11); (try clear c12); (try clear c13); (try clear c16); (try clear c21); (try clear c22); (try clear c25); (try clear c28); (try clear c29); (try clear c31); (try clear c32); (try clear c33); (try clear c34); (try clear c36); (try clear c37); (try clear c39); (try clear c42); (try clear c43); (try clear c44); (try clear hcz14_0); (try clear hcz14_1); (try clear hcz17_0); (try clear hcz17_1); (try clear hcz19_0); (try clear hcz19_1); (try clear hcz20_0); (try clear hcz20_1); (try clear hcz23_0); (try clear hcz23_1); (try clear hcz26_0); (try clear hcz26_1); (try clear hcz30_0); (try clear hcz30_1); (try clear hcz35_0); (try clear hcz35_1); (try clear hcz38_0); (try clear hcz38_1); (try clear hcz40_0); (try clear hcz40_1); (try clear hcz45_0); (try clear hcz45_1); (try clear hfz14_0); (try clear hfz14_1); (try clear hfz17_0); (try clear hfz17_1); (try clear hfz19_0); (try clear hfz19_1); (try clear hfz20_0); (try clear hfz20_1); (try clear hfz23_0); (try clear hfz23_1); (try clear hfz26_0); (try clear hfz26_1); (try clear hfz30_0); (try clear hfz30_1); (try clear hfz35_0); (try clear hfz35_1); (try clear hfz38_0); (try clear hfz38_1); (try clear hfz40_0); (try clear hfz40_1); (try clear hfz45_0); (try clear hfz45_1); (try clear p2); (try clear p6); obtain ⟨x9_2, x204001_2, u204001, rfl, HA, HK2, HO_204001, BK198, BK199, BK200, BK203, HB⟩ := hrel
        cases gk with
        | zero => exact absurd HA.out (by simp [spec_Product.l0])
        | succ k2 =>
          have H := HA.out; clear HA
          simp only [spec_Product.l0] at H
          by_cases c46 : x9_2 < (l0.length : Int)
          · rw [if_pos c46] at H; have c46b0 := decide_eq_true c46; clear c46; obtain ⟨y204, hy204⟩ : ∃ y_ : List Int, y_ = (([] : List Int)) := ⟨_, rfl⟩; replace H : (spec_Product.l1 k2 l0 x9_2 y204 0 a1_0 l1_1 a2_0 l2_1 (wrap64 (a1_0 * a2_0)) x204001_2) = some (r1, r2, r3) := by first | (rw [hy204]; with_reducible exact H) | (have H2_ := (Option.bind_some _ _).symm.trans H; rw [hy204]; with_reducible exact H2_) | (have H2_ := (Option.bind_some _ _).symm.trans H; with_reducible exact H2_) | with_reducible exact H | (rw [hy204]; exact H) | exact H
            have Ny204 := ak hy204; clear hy204; have H' := ak H; clear H
            go_wp2_with (first | ((with_reducible refine gate_dst (N := 50) rfl ?_); refine Kd.R_lit (Kd.int .i64) _ 3 ?hg (N := 50) ?hd (xs := ([] : List Int)) (inner := []) (ok := fun _ => True) (okp := fun _ => True) ?hr ?hp (fun _ hk => hk) trivial (Below.refl _ _) (Nat.le_refl _) (by simp) ?_; (case hd => rfl); (case hg => rfl); (case hr => first | (go_simp; done) | (go_simp; rfl)); (case hp => exact (Reps.none _ _)); intro v205 w47 ho48 hb hg_ hnew_; clear hg_ hnew_; (first | rw [← Ny204.out] at ho48 | (simp only [Int.reduceToNat] at ho48; rw [← Ny204.out] at ho48)); replace HO_204001 := ak (Kd.S_elder' (sa_ HO_204001.out) (Kd.R_base ho48) hb); have HO206 := ak (Kd.R_lower ho48 (below_size (bs4_ HB.out GE198.out GE199.out GE200.out GE203.out))); replace BK198 := ak (blk_below (bk_ BK198.out) hb); replace BK199 := ak (blk_below (bk_ BK199.out) hb); replace BK200 := ak (blk_below (bk_ BK200.out) hb); replace BK203 := ak (blk_below (bk_ BK203.out) hb); replace HB := ak (below_step (bs4_ HB.out GE198.out GE199.out GE200.out GE203.out) hb); clear hb ho48))
            go_loopg [10, 11] k2 (fun kq v10 v11 w' => ∃ (x10_3 : List Int) (x11_3 : Int), v11 = .int .i64 x11_3 ∧ Aside0 (spec_Product.l1 kq l0 x9_2 x10_3 x11_3 a1_0 l1_1 a2_0 l2_1 (wrap64 (a1_0 * a2_0)) x204001_2 = some (r1, r2, r3)) ∧ Aside0 (kq ≤ k2) ∧ Aside0 (Kd.R (Kd.int .i64) 3 w' w.heap.size (fun _ => True) v10 x10_3) ∧ Aside0 (Kd.S (Kd.slice 3 (Kd.int .i64)) 75 w' w.heap.size (fun k_ => some k_ ≠ (v10 : Value).ownBlock) u204001 x204001_2) ∧ Aside0 (w'.heap[gb198]? = some (.cells #[.int .i64 a1_0, (.slice A1_1 l1_1.length c1_1)] 51 (0, 0))) ∧ Aside0 (w'.heap[gb199]? = some (.cells #[.int .i64 a2_0, (.slice A2_1 l2_1.length c2_1)] 51 (0, 0))) ∧ Aside0 (w'.heap[gb200]? = some (.cells #[.int .i64 0, (.slice none 0 0)] 51 (0, 0))) ∧ Aside0 (w'.heap[gb203]? = some (.cells #[.int .i64 (wrap64 (a1_0 * a2_0)), u204001] 51 (0, 0))) ∧ Aside0 (Below w.heap.size w w'))
            case atStart => exact ⟨(y204), (0), (by first | rfl | (simp; done) | (simp [*]; done)), H', ⟨Nat.le_refl _⟩, ⟨by (with_reducible repeat (first | apply Kd.R_alloc | apply Kd.R_drewN | apply Kd.R_drew)); exact HO206.out⟩, ⟨by (with_reducible repeat (first | apply Kd.S_alloc | apply Kd.S_drewN | apply Kd.S_drew)); exact Kd.S_mono HO_204001.out (fun _ hk => hk.2)⟩, ⟨bk_ BK198.out⟩, ⟨bk_ BK199.out⟩, ⟨bk_ BK200.out⟩, ⟨bk_ BK203.out⟩, ⟨bs4_ HB.out GE198.out GE199.out GE200.out GE203.out⟩⟩
            case round =>
              clear H'; (try clear c1); (try clear c2); (try clear p2); (try clear c3); (try clear c4); (try clear c5); (try clear p6); (try clear c9); (try clear c11); (try clear c12); (try clear c13); (try clear c16); (try clear c21); (try clear c22); (try clear c25); (try clear c28); (try clear c29); (try clear c31); (try clear c32); (try clear c33); (try clear c34); (try clear c36); (try clear c37); (try clear c39); (try clear c42); (try clear c43); (try clear c44); (try clear c46); (try clear c46b0); (try clear hcz14_0); (try clear hcz14_1); (try clear hcz17_0); (try clear hcz17_1); (try clear hcz19_0); (try clear hcz19_1); (try clear hcz20_0); (try clear hcz20_1); (try clear hcz23_0); (try clear hcz23_1); (try clear hcz26_0); (try clear hcz26_1); (try clear hcz30_0); (try clear hcz30_1); (try clear hcz35_0); (try clear hcz35_1); (try clear hcz38_0); (try clear hcz38_1); (try clear hcz40_0); (try clear hcz40_1); (try clear hcz45_0); (try clear hcz45_1); (try clear hfz14_0); (try clear hfz14_1); (try clear hfz17_0); (try clear hfz17_1); (try clear hfz19_0); (try clear hfz19_1); (try clear hfz20_0); (try clear hfz20_1); (try clear hfz23_0); (try clear hfz23_1); (try clear hfz26_0); (try clear hfz26_1); (try clear hfz30_0); (try clear hfz30_1); (try clear hfz35_0); (try clear hfz35_1); (try clear hfz38_0); (try clear hfz38_1); (try clear hfz40_0); (try clear hfz40_1); (try clear hfz45_0); (try clear hfz45_1); (try clear p2); (try clear p6); obtain ⟨x10_3, x11_3, rfl, HA, HK3, HO_10, HO_204001, BK198, BK199, BK200, BK203, HB⟩ := hrel
              cases gk with
              | zero => exact absurd HA.out (by simp [spec_Product.l1])
              | succ k3 =>
                have H := HA.out; clear HA
                simp only [spec_Product.l1] at H
                by_cases c49 : 0 ≤ x9_2
                · rw [if_pos c49] at H; have c49b0 := decide_eq_true c49; clear c49
                  by_cases c50 : x9_2 < (l0.length : Int)
                  · rw [if_pos c50] at H; have c50b0 := decide_eq_true c50; clear c50; replace H := Option.bind_eq_some_iff.mp H; obtain ⟨t208, A510, H⟩ := H; have A51 := ak A510; clear A510
                    by_cases c52 : x11_3 < t208
                    · rw [if_pos c52] at H; have c52b0 := decide_eq_true c52; clear c52; have H' := ak H; clear H
                      try go_wp2
                      replace HO_10 := ak (Kd.R_drew HO_10.out); replace HO_204001 := ak (Kd.S_drew HO_204001.out); replace BK198 := ak (blk_drew BK198.out); replace BK199 := ak (blk_drew BK199.out); replace BK200 := ak (blk_drew BK200.out); replace BK203 := ak (blk_drew BK203.out); replace HB := ak (below_drew1 HB.out); have p207 : 0 ≤ (x9_2 : Int) := as_; have q207 : x9_2 < (l0.length : Int) := as_; obtain ⟨ad207, e207, hx207_0, hx207_1, hx207_2⟩ := at_T99 HR0.out x9_2 p207 q207; have hw207_2 := hx207_2; have hw207_1 := hx207_1; have hw207_0 := hx207_0
                      cases e207
                      replace hx207_0 := hbc_ HB.out hx207_0; replace hx207_1 := hbc_ HB.out hx207_1; replace hx207_2 := hbc_ HB.out hx207_2; replace p207 := eq_true p207; replace q207 := eq_true q207; refine start_ (n := 10) (S := fun w' => w'.cell? ⟨gb203, 0, none⟩ = some (.int .i64 (wrap64 (a1_0 * a2_0))) ∧ w'.cell? ⟨gb203, 1, none⟩ = some (u204001) ∧ w'.cell? (ad207.add ((x9_2).toNat * 3)) = some (.string ((rd_I_Sym l0 x9_2).f0)) ∧ w'.cell? ⟨(ad207.add ((x9_2).toNat * 3)).block, (ad207.add ((x9_2).toNat * 3)).off + 1, none⟩ = some (.int .i64 ((rd_I_Sym l0 x9_2).f1)) ∧ w'.cell? ⟨(ad207.add ((x9_2).toNat * 3)).block, (ad207.add ((x9_2).toNat * 3)).off + 2, none⟩ = some (.bool ((rd_I_Sym l0 x9_2).f2))) (ds := []) (bm 10 0) (by kernel_rfl) rfl (by kernel_rfl) ⟨(blk_cell BK203.out 0).trans rfl, (blk_cell BK203.out 1).trans rfl, (hbc_ HB.out hw207_0 :), (hbc_ HB.out hw207_1 :), (hbc_ HB.out hw207_2 :)⟩ (fun hHeld => ?_); refine with_tabW spec_Product.tab9 spec_Product.bits9 (fun HT_ HW_ => ?_)
                      generalize wr.drew = w53 at HO_10 HO_204001 BK198 BK199 BK200 BK203 HB hx207_0 hx207_1 hx207_2 hHeld ⊢
                      refine pv_ 0 ?_; refine pv_ 1 ?_; refine pv_ 3 ?_; refine pv_ 4 ?_; refine pv_ 5 ?_; refine pv_ 6 ?_; refine tv_ 2 hHeld ?_; refine tv_ 7 hHeld ?_; refine one_ (i := 8) (N := some 59) (bm 10 511) rfl rfl (one_of HT_.out (by kernel_rfl)) (by decide) (fun K hK => ?_); refine goesB_ Try.func84 (by kernel_rfl) rfl #[.int .i64 (wrap64 (a1_0 * a2_0)), .int .i64 ((rd_I_Sym l0 x9_2).f1)] (by rfl) rfl rfl ?_
                      with_reducible refine (spec_l24Power.calls k3 (wrap64 (a1_0 * a2_0)) ((rd_I_Sym l0 x9_2).f1) t208 _ A51.out).mono ?_
                      rintro e w' ⟨rfl, ⟨nd, rfl⟩⟩; refine ⟨_, rfl, ?_⟩; refine hK.out _ _ ⟨(blk_cell BK203.out 0).trans rfl, (blk_cell BK203.out 1).trans rfl, (hbc_ HB.out hw207_0 :), (hbc_ HB.out hw207_1 :), (hbc_ HB.out hw207_2 :)⟩ (fun hHeld => ?_); clear hK K; refine norm_ (a' := ?_) ?_ ?_
                      rotate_left
                      · show Act.put _ (some 59) _ = _
                        simp only [Act.put, List.setIfInBounds_toArray, List.set_cons_zero, List.set_cons_succ, i64_w, i32_w]
                        rfl
                      refine pv_ 9 ?_; refine done_ (done_of HT_.out (by kernel_rfl)) ?_
                      try go_wp2
                      go_loopg [12, 13, 14, 15, 16, 17] k3 (fun kq v12 v13 v14 v15 v16 v17 w' => ∃ (x12_4 : Int) (x13_4 : Int) (x14_4 : Int) (x15_4 : Int) (x16_4 : Int) (x17_4 : Int), v12 = .int .i64 x12_4 ∧ v13 = .int .i64 x13_4 ∧ v14 = .int .i64 x14_4 ∧ v15 = .int .i64 x15_4 ∧ v16 = .int .i64 x16_4 ∧ v17 = .int .i64 x17_4 ∧ Aside0 (spec_Product.l2 kq l0 x9_2 x10_3 x11_3 x12_4 x13_4 x14_4 x15_4 x16_4 x17_4 a1_0 l1_1 a2_0 l2_1 (wrap64 (a1_0 * a2_0)) x204001_2 = some (r1, r2, r3)) ∧ Aside0 (kq ≤ k3) ∧ Aside0 (Kd.R (Kd.int .i64) 3 w' w.heap.size (fun _ => True) u10 x10_3) ∧ Aside0 (Kd.S (Kd.slice 3 (Kd.int .i64)) 75 w' w.heap.size (fun k_ => some k_ ≠ (u10 : Value).ownBlock) u204001 x204001_2) ∧ Aside0 (w'.heap[gb198]? = some (.cells #[.int .i64 a1_0, (.slice A1_1 l1_1.length c1_1)] 51 (0, 0))) ∧ Aside0 (w'.heap[gb199]? = some (.cells #[.int .i64 a2_0, (.slice A2_1 l2_1.length c2_1)] 51 (0, 0))) ∧ Aside0 (w'.heap[gb200]? = some (.cells #[.int .i64 0, (.slice none 0 0)] 51 (0, 0))) ∧ Aside0 (w'.heap[gb203]? = some (.cells #[.int .i64 (wrap64 (a1_0 * a2_0)), u204001] 51 (0, 0))) ∧ Aside0 (Below w.heap.size w w'))
                      case atStart => exact ⟨(0), (0), (x11_3), (1), (1), (0), (by first | rfl | (simp; done) | (simp [*]; done)), (by first | rfl | (simp; done) | (simp [*]; done)), (by first | rfl | (simp; done) | (simp [*]; done)), (by first | rfl | (simp; done) | (simp [*]; done)), (by first | rfl | (simp; done) | (simp [*]; done)), (by first | rfl | (simp; done) | (simp [*]; done)), H', ⟨Nat.le_refl _⟩, ⟨by (with_reducible repeat (first | apply Kd.R_alloc | apply Kd.R_drewN | apply Kd.R_drew)); exact HO_10.out⟩, ⟨by (with_reducible repeat (first | apply Kd.S_alloc | apply Kd.S_drewN | apply Kd.S_drew)); exact HO_204001.out⟩, ⟨bk_ BK198.out⟩, ⟨bk_ BK199.out⟩, ⟨bk_ BK200.out⟩, ⟨bk_ BK203.out⟩, ⟨bs4_ HB.out GE198.out GE199.out GE200.out GE203.out⟩⟩
                      case round =>
                        clear H'; (try clear c1); (try clear c2); (try clear p2); (try clear q2); (try clear hx2); (try clear c3); (try clear c4); (try clear c5); (try clear p6); (try clear c8); (try clear c9); (try clear c11); (try clear c12); (try clear c13); (try clear c16); (try clear p20); (try clear q20); (try clear hx20); (try clear c21); (try clear c22); (try clear c25); (try clear c28); (try clear c29); (try clear c31); (try clear c32); (try clear c33); (try clear c34); (try clear c36); (try clear c37); (try clear c39); (try clear c42); (try clear c43); (try clear c44); (try clear c46); (try clear c46b0); (try clear c49); (try clear c49b0); (try clear c50); (try clear c50b0); (try clear c52); (try clear c52b0); (try clear hcz14_0); (try clear hcz14_1); (try clear hcz17_0); (try clear hcz17_1); (try clear hcz19_0); (try clear hcz19_1); (try clear hcz20_0); (try clear hcz20_1); (try clear hcz23_0); (try clear hcz23_1); (try clear hcz26_0); (try clear hcz26_1); (try clear hcz30_0); (try clear hcz30_1); (try clear hcz35_0); (try clear hcz35_1); (try clear hcz38_0); (try clear hcz38_1); (try clear hcz40_0); (try clear hcz40_1); (try clear hcz45_0); (try clear hcz45_1); (try clear hfz14_0); (try clear hfz14_1); (try clear hfz17_0); (try clear hfz17_1); (try clear hfz19_0); (try clear hfz19_1); (try clear hfz20_0); (try clear hfz20_1); (try clear hfz23_0); (try clear hfz23_1); (try clear hfz26_0); (try clear hfz26_1); (try clear hfz30_0); (try clear hfz30_1); (try clear hfz35_0); (try clear hfz35_1); (try clear hfz38_0); (try clear hfz38_1); (try clear hfz40_0); (try clear hfz40_1); (try clear hfz45_0); (try clear hfz45_1); (try clear hx207_0); (try clear hx207_1); (try clear hx207_2); (try clear p2); (try clear p207); (try clear p6); (try clear q207); obtain ⟨x12_4, x13_4, x14_4, x15_4, x16_4, x17_4, rfl, rfl, rfl, rfl, rfl, rfl, HA, HK4, HO_10, HO_204001, BK198, BK199, BK200, BK203, HB⟩ := hrel
                        cases gk with
                        | zero => exact absurd HA.out (by simp [spec_Product.l2])
                        | succ k4 =>
                          have H := HA.out; clear HA
                          simp only [spec_Product.l2] at H
                          by_cases c54 : 0 ≤ x9_2
                          · rw [if_pos c54] at H; have c54b0 := decide_eq_true c54; clear c54
                            by_cases c55 : x9_2 < (l0.length : Int)
                            · rw [if_pos c55] at H; have c55b0 := decide_eq_true c55; clear c55
                              by_cases c56 : x17_4 < ((rd_I_Sym l0 x9_2).f1)
                              · rw [if_pos c56] at H; have c56b0 := decide_eq_true c56; clear c56
                                by_cases c57 : (wrap64 (a1_0 * a2_0)) = 0
                                · rw [if_pos c57] at H; exact absurd H (by simp)
                                rw [if_neg c57] at H; have c57b0 : ((wrap64 (a1_0 * a2_0)) == 0) = false := beq_eq_false_iff_ne.mpr c57; have c57b1 : ((wrap64 (a1_0 * a2_0)) != 0) = true := bne_iff_ne.mpr c57
                                by_cases c58 : a1_0 = 0
                                · rw [if_pos c58] at H; exact absurd H (by simp)
                                rw [if_neg c58] at H; have c58b0 : (a1_0 == 0) = false := beq_eq_false_iff_ne.mpr c58; have c58b1 : (a1_0 != 0) = true := bne_iff_ne.mpr c58; have H' := ak H; clear H; have p212 : 0 ≤ (x9_2 : Int) := as_; have q212 : x9_2 < (l0.length : Int) := as_; obtain ⟨ad212, e212, hx212_0, hx212_1, hx212_2⟩ := at_T99 HR0.out x9_2 p212 q212; obtain rfl : ad207 = ad212 := (by injection e212); replace hx212_0 := hbc_ HB.out hx212_0; replace hx212_1 := hbc_ HB.out hx212_1; replace hx212_2 := hbc_ HB.out hx212_2; replace p212 := eq_true p212; replace q212 := eq_true q212; have hnb59 := NB203_198.out; have hnc59 := NB198_203.out; have hnb60 := NB203_199.out; have hnc60 := NB199_203.out; have hnb61 := NB203_200.out; have hnc61 := NB200_203.out; have hcz62_0 := bc_ BK203.out 0; have hcz62_1 := bc_ BK203.out 1; have hfz62_0 := blk_frozen BK203.out 0; have hfz62_1 := blk_frozen BK203.out 1; have hnb63 := NB198_199.out; have hnc63 := NB199_198.out; have hnb64 := NB198_200.out; have hnc64 := NB200_198.out; have hcz65_0 := bc_ BK198.out 0; have hcz65_1 := bc_ BK198.out 1; have hfz65_0 := blk_frozen BK198.out 0; have hfz65_1 := blk_frozen BK198.out 1; have hnb66 := NB199_200.out; have hnc66 := NB200_199.out; have hcz67_0 := bc_ BK199.out 0; have hcz67_1 := bc_ BK199.out 1; have hfz67_0 := blk_frozen BK199.out 0; have hfz67_1 := blk_frozen BK199.out 1
                                go_wp2
                                go_roundg k4
                                case measure => have := HJ3.out; have := HK2.out; have := HK3.out; have := HK4.out; omega
                                case rel => exact ⟨(wrap64 (x12_4 + (wrap64 (x15_4 * (Int.tmod (Int.tmod x14_4 (wrap64 (a1_0 * a2_0))) a1_0))))), (wrap64 (x13_4 + (wrap64 (x16_4 * (wrap64 (Int.tdiv (Int.tmod x14_4 (wrap64 (a1_0 * a2_0))) a1_0)))))), (wrap64 (Int.tdiv x14_4 (wrap64 (a1_0 * a2_0)))), (wrap64 (x15_4 * a1_0)), (wrap64 (x16_4 * a2_0)), (wrap64 (x17_4 + 1)), (by first | rfl | (simp; done) | (simp [*]; done)), (by first | rfl | (simp; done) | (simp [*]; done)), (by first | rfl | (simp; done) | (simp [*]; done)), (by first | rfl | (simp; done) | (simp [*]; done)), (by first | rfl | (simp; done) | (simp [*]; done)), (by first | rfl | (simp; done) | (simp [*]; done)), H', ⟨by have := HJ3.out; have := HK2.out; have := HK3.out; have := HK4.out; omega⟩, ⟨by (with_reducible repeat (first | apply Kd.R_alloc | apply Kd.R_drewN | apply Kd.R_drew)); exact HO_10.out⟩, ⟨by (with_reducible repeat (first | apply Kd.S_alloc | apply Kd.S_drewN | apply Kd.S_drew)); exact HO_204001.out⟩, ⟨bk_ BK198.out⟩, ⟨bk_ BK199.out⟩, ⟨bk_ BK200.out⟩, ⟨bk_ BK203.out⟩, ⟨bs4_ HB.out GE198.out GE199.out GE200.out GE203.out⟩⟩
                              rw [if_neg c56] at H; have c56b0 := decide_eq_false c56; clear c56
                              by_cases c68 : x9_2 < (l1_1.length : Int)
                              · rw [if_pos c68] at H; have c68b0 := decide_eq_true c68; clear c68
                                by_cases c69 : 0 ≤ x12_4
                                · rw [if_pos c69] at H; have c69b0 := decide_eq_true c69; clear c69
                                  by_cases c70 : x12_4 < ((rd_Ls_i64 l1_1 x9_2).length : Int)
                                  · rw [if_pos c70] at H; have c70b0 := decide_eq_true c70; clear c70
                                    by_cases c71 : x9_2 < (l2_1.length : Int)
                                    · rw [if_pos c71] at H; have c71b0 := decide_eq_true c71; clear c71
                                      by_cases c72 : 0 ≤ x13_4
                                      · rw [if_pos c72] at H; have c72b0 := decide_eq_true c72; clear c72
                                        by_cases c73 : x13_4 < ((rd_Ls_i64 l2_1 x9_2).length : Int)
                                        · rw [if_pos c73] at H; have c73b0 := decide_eq_true c73; clear c73
                                          by_cases c74 : x10_3.length < 17592186044416
                                          · rw [if_pos c74] at H; have LMc74 := ak c74; clear c74; obtain ⟨y217, hy217⟩ : ∃ y_ : List Int, y_ = (x10_3 ++ [wrap64 ((rd (rd_Ls_i64 l1_1 x9_2) x12_4) + (wrap64 (a1_0 * (rd (rd_Ls_i64 l2_1 x9_2) x13_4))))]) := ⟨_, rfl⟩; replace H : (spec_Product.l1 k4 l0 x9_2 y217 (wrap64 (x11_3 + 1)) a1_0 l1_1 a2_0 l2_1 (wrap64 (a1_0 * a2_0)) x204001_2) = some (r1, r2, r3) := by first | (rw [hy217]; with_reducible exact H) | (have H2_ := (Option.bind_some _ _).symm.trans H; rw [hy217]; with_reducible exact H2_) | (have H2_ := (Option.bind_some _ _).symm.trans H; with_reducible exact H2_) | with_reducible exact H | (rw [hy217]; exact H) | exact H
                                            have Ny217 := ak hy217; clear hy217; have H' := ak H; clear H; have p212 : 0 ≤ (x9_2 : Int) := as_; have q212 : x9_2 < (l0.length : Int) := as_; obtain ⟨ad212, e212, hx212_0, hx212_1, hx212_2⟩ := at_T99 HR0.out x9_2 p212 q212; obtain rfl : ad207 = ad212 := (by injection e212); replace hx212_0 := hbc_ HB.out hx212_0; replace hx212_1 := hbc_ HB.out hx212_1; replace hx212_2 := hbc_ HB.out hx212_2; replace p212 := eq_true p212; replace q212 := eq_true q212
                                            try go_wp2
                                            replace HO_10 := ak (Kd.R_drew HO_10.out); replace HO_204001 := ak (Kd.S_drew HO_204001.out); replace BK198 := ak (blk_drew BK198.out); replace BK199 := ak (blk_drew BK199.out); replace BK200 := ak (blk_drew BK200.out); replace BK203 := ak (blk_drew BK203.out); replace HB := ak (below_drew1 HB.out); have p213 : 0 ≤ (x9_2 : Int) := as_; have q213 : x9_2 < (l1_1.length : Int) := as_; obtain ⟨ad213, A213_0, c213_0, e213, hx213_0, hl213_0, hi213_0⟩ := at_L5 HR1_1.out x9_2 p213 q213; have hw213_0 := hx213_0
                                            cases e213
                                            replace hx213_0 := hbc_ HB.out hx213_0; have HR213_0 := ak hi213_0; have HC213_0 := ak hl213_0; clear hi213_0 hl213_0; replace p213 := eq_true p213; replace q213 := eq_true q213; have p214 : 0 ≤ (x12_4 : Int) := as_; have q214 : x12_4 < ((rd_Ls_i64 l1_1 x9_2).length : Int) := as_; obtain ⟨ad214, e214, hx214_0⟩ := Kd.at_int HR213_0.out x12_4 p214 q214; have hw214_0 := hx214_0
                                            cases e214
                                            replace hx214_0 := hbc_ HB.out hx214_0; replace p214 := eq_true p214; replace q214 := eq_true q214; have p215 : 0 ≤ (x9_2 : Int) := as_; have q215 : x9_2 < (l2_1.length : Int) := as_; obtain ⟨ad215, A215_0, c215_0, e215, hx215_0, hl215_0, hi215_0⟩ := at_L5 HR2_1.out x9_2 p215 q215; have hw215_0 := hx215_0
                                            cases e215
                                            replace hx215_0 := hbc_ HB.out hx215_0; have HR215_0 := ak hi215_0; have HC215_0 := ak hl215_0; clear hi215_0 hl215_0; replace p215 := eq_true p215; replace q215 := eq_true q215; have p216 : 0 ≤ (x13_4 : Int) := as_; have q216 : x13_4 < ((rd_Ls_i64 l2_1 x9_2).length : Int) := as_; obtain ⟨ad216, e216, hx216_0⟩ := Kd.at_int HR215_0.out x13_4 p216 q216; have hw216_0 := hx216_0
                                            cases e216
                                            replace hx216_0 := hbc_ HB.out hx216_0; replace p216 := eq_true p216; replace q216 := eq_true q216; refine start_ (n := 24) (S := fun w' => w'.cell? ⟨gb198, 0, none⟩ = some (.int .i64 a1_0) ∧ w'.cell? ⟨gb198, 1, none⟩ = some (.slice (some ad213) l1_1.length c1_1) ∧ w'.cell? ⟨gb199, 0, none⟩ = some (.int .i64 a2_0) ∧ w'.cell? ⟨gb199, 1, none⟩ = some (.slice (some ad215) l2_1.length c2_1) ∧ w'.cell? (ad213.add (x9_2).toNat) = some (.slice (some ad214) (rd_Ls_i64 l1_1 x9_2).length c213_0) ∧ w'.cell? (ad214.add (x12_4).toNat) = some (.int .i64 (rd (rd_Ls_i64 l1_1 x9_2) x12_4)) ∧ w'.cell? (ad215.add (x9_2).toNat) = some (.slice (some ad216) (rd_Ls_i64 l2_1 x9_2).length c215_0) ∧ w'.cell? (ad216.add (x13_4).toNat) = some (.int .i64 (rd (rd_Ls_i64 l2_1 x9_2) x13_4))) (ds := []) (bm 24 0) (by kernel_rfl) rfl (by kernel_rfl) ⟨(blk_cell BK198.out 0).trans rfl, (blk_cell BK198.out 1).trans rfl, (blk_cell BK199.out 0).trans rfl, (blk_cell BK199.out 1).trans rfl, (hbc_ HB.out hw213_0 :), (hbc_ HB.out hw214_0 :), (hbc_ HB.out hw215_0 :), (hbc_ HB.out hw216_0 :)⟩ (fun hHeld => ?_); refine with_tabW spec_Product.tab23 spec_Product.bits23 (fun HT_ HW_ => ?_)
                                            generalize wr.drew = w75 at HO_10 HO_204001 BK198 BK199 BK200 BK203 HB HR213_0 HR215_0 hx213_0 hx214_0 hx215_0 hx216_0 hHeld ⊢
                                            refine pv_ 0 ?_; refine pv_ 1 ?_; refine pv_ 3 ?_; refine pv_ 6 ?_; refine pv_ 9 ?_; refine pv_ 11 ?_; refine pv_ 13 ?_; refine pv_ 16 ?_; refine tv_ 2 hHeld ?_; refine pv_ 4 ?_; refine tv_ 5 hHeld ?_; refine pv_ 7 ?_; refine tv_ 8 hHeld ?_; refine tv_ 10 hHeld ?_; refine tv_ 12 hHeld ?_; refine pv_ 14 ?_; refine tv_ 15 hHeld ?_; refine pv_ 17 ?_; refine tv_ 18 hHeld ?_; refine pv_ 19 ?_; refine pv_ 20 ?_; refine one_ (i := 21) (N := some 126) (bm 24 4194303) rfl rfl (one_of HT_.out (by kernel_rfl)) (by decide) (fun K hK => ?_); refine value_ (w1 := ?_) (v := ?_) (by rfl) rfl ?_ ?_
                                            rotate_left 2
                                            · go_simp
                                              constructor
                                              · rfl
                                              · rfl
                                            refine hK.out _ _ ⟨(blk_cell (blk_alloc BK198.out _) 0).trans rfl, (blk_cell (blk_alloc BK198.out _) 1).trans rfl, (blk_cell (blk_alloc BK199.out _) 0).trans rfl, (blk_cell (blk_alloc BK199.out _) 1).trans rfl, (World.cell?_alloc_lt _ _ _ (World.block_lt_of_cell? _ _ ((hbc_ HB.out hw213_0 :)))).trans ((hbc_ HB.out hw213_0 :)), (World.cell?_alloc_lt _ _ _ (World.block_lt_of_cell? _ _ ((hbc_ HB.out hw214_0 :)))).trans ((hbc_ HB.out hw214_0 :)), (World.cell?_alloc_lt _ _ _ (World.block_lt_of_cell? _ _ ((hbc_ HB.out hw215_0 :)))).trans ((hbc_ HB.out hw215_0 :)), (World.cell?_alloc_lt _ _ _ (World.block_lt_of_cell? _ _ ((hbc_ HB.out hw216_0 :)))).trans ((hbc_ HB.out hw216_0 :))⟩ (fun hHeld => ?_); clear hK K; refine norm_ (a' := ?_) ?_ ?_
                                            rotate_left
                                            · show Act.put _ (some 126) _ = _
                                              simp only [Act.put, List.setIfInBounds_toArray, List.set_cons_zero, List.set_cons_succ, i64_w, i32_w]
                                              rfl
                                            refine one_ (i := 22) (N := some 127) (bm 24 8388607) rfl rfl (one_of HT_.out (by kernel_rfl)) (by decide) (fun K hK => ?_); refine Kd.R_append_step (Kd.int .i64) (w0 := w) w.heap.size (by rfl) (.tmp 105) (.tmp 126) 75 3 (.int .i64 0) 8 rfl Try.underlying75 info3 rfl (by decide) (by omega) u10 x10_3 (wrap64 ((rd (rd_Ls_i64 l1_1 x9_2) x12_4) + (wrap64 (a1_0 * (rd (rd_Ls_i64 l2_1 x9_2) x13_4))))) [.int .i64 (wrap64 ((rd (rd_Ls_i64 l1_1 x9_2) x12_4) + (wrap64 (a1_0 * (rd (rd_Ls_i64 l2_1 x9_2) x13_4)))))] (fun _ => True) (fun _ => False) rfl rfl ?aP (fun _ hk => hk.elim) ?aF ?aO ?aB ?aS ?aL ?_; (case aP => exact rfl); (case aB => exact (bs4_ HB.out GE198.out GE199.out GE200.out GE203.out)); (case aF => exact (fun _ _ => trivial)); (case aO => exact (ra_ HO_10.out)); (case aS => exact (below_size (bs4_ HB.out GE198.out GE199.out GE200.out GE203.out))); (case aL => have := LMc74.out; omega); intro v218 w76 ho hb hg hat; rw [← Ny217.out] at ho; replace HO_204001 := ak (Kd.S_after (ok := (fun _ => True)) (by (with_reducible repeat (first | apply Kd.S_alloc | apply Kd.S_drewN | apply Kd.S_drew)); exact Kd.S_mono HO_204001.out (fun _ hk => ⟨trivial, hk⟩)) hg hat); replace BK198 := ak (blk_grown (g := gb198) (o := .cells #[.int .i64 a1_0, .slice (some ad213) l1_1.length c1_1] 51 (0, 0)) (bk_ BK198.out) hg (Kd.R_ne HO_10.out BK198.out (by decide))); replace BK199 := ak (blk_grown (g := gb199) (o := .cells #[.int .i64 a2_0, .slice (some ad215) l2_1.length c2_1] 51 (0, 0)) (bk_ BK199.out) hg (Kd.R_ne HO_10.out BK199.out (by decide))); replace BK200 := ak (blk_grown (g := gb200) (o := .cells #[.int .i64 0, .slice none 0 0] 51 (0, 0)) (bk_ BK200.out) hg (Kd.R_ne HO_10.out BK200.out (by decide))); replace BK203 := ak (blk_grown (g := gb203) (o := .cells #[.int .i64 (wrap64 (a1_0 * a2_0)), u204001] 51 (0, 0)) (bk_ BK203.out) hg (Kd.R_ne HO_10.out BK203.out (by decide))); replace HB := ak (hb); have HO219 := ak (ho); clear HO_10; clear ho hb hg hat; refine hK.out _ _ ⟨(blk_cell BK198.out 0).trans rfl, (blk_cell BK198.out 1).trans rfl, (blk_cell BK199.out 0).trans rfl, (blk_cell BK199.out 1).trans rfl, (hbc_ HB.out hw213_0 :), (hbc_ HB.out hw214_0 :), (hbc_ HB.out hw215_0 :), (hbc_ HB.out hw216_0 :)⟩ (fun hHeld => ?_); clear hK K; refine norm_ (a' := ?_) ?_ ?_
                                            rotate_left
                                            · show Act.put _ (some 127) _ = _
                                              simp only [Act.put, List.setIfInBounds_toArray, List.set_cons_zero, List.set_cons_succ, i64_w, i32_w]
                                              rfl
                                            refine pv_ 23 ?_; refine done_ (done_of HT_.out (by kernel_rfl)) ?_
                                            try go_wp2
                                            go_roundg k4
                                            case measure => have := HJ3.out; have := HK2.out; have := HK3.out; have := HK4.out; omega
                                            case rel => exact ⟨(y217), (wrap64 (x11_3 + 1)), (by first | rfl | (simp; done) | (simp [*]; done)), H', ⟨by have := HJ3.out; have := HK2.out; have := HK3.out; have := HK4.out; omega⟩, ⟨by (with_reducible repeat (first | apply Kd.R_alloc | apply Kd.R_drewN | apply Kd.R_drew)); exact HO219.out⟩, ⟨by (with_reducible repeat (first | apply Kd.S_alloc | apply Kd.S_drewN | apply Kd.S_drew)); exact Kd.S_mono HO_204001.out (fun _ hk => hk.2)⟩, ⟨bk_ BK198.out⟩, ⟨bk_ BK199.out⟩, ⟨bk_ BK200.out⟩, ⟨bk_ BK203.out⟩, ⟨bs4_ HB.out GE198.out GE199.out GE200.out GE203.out⟩⟩
                                          rw [if_neg c74] at H; exact absurd H (by simp)
                                        rw [if_neg c73] at H; exact absurd H (by simp)
                                      rw [if_neg c72] at H; exact absurd H (by simp)
                                    rw [if_neg c71] at H; exact absurd H (by simp)
                                  rw [if_neg c70] at H; exact absurd H (by simp)
                                rw [if_neg c69] at H; exact absurd H (by simp)
                              rw [if_neg c68] at H; exact absurd H (by simp)
                            rw [if_neg c55] at H; exact absurd H (by simp)
                          rw [if_neg c54] at H; exact absurd H (by simp)
                    rw [if_neg c52] at H; have c52b0 := decide_eq_false c52; clear c52
                    by_cases c77 : x204001_2.length < 5864062014805
                    · rw [if_pos c77] at H; have LMc77 := ak c77; clear c77; obtain ⟨y209, hy209⟩ : ∃ y_ : List (List Int), y_ = (x204001_2 ++ [x10_3]) := ⟨_, rfl⟩; replace H : (spec_Product.l0 k3 l0 (wrap64 (x9_2 + 1)) a1_0 l1_1 a2_0 l2_1 (wrap64 (a1_0 * a2_0)) y209) = some (r1, r2, r3) := by first | (rw [hy209]; with_reducible exact H) | (have H2_ := (Option.bind_some _ _).symm.trans H; rw [hy209]; with_reducible exact H2_) | (have H2_ := (Option.bind_some _ _).symm.trans H; with_reducible exact H2_) | with_reducible exact H | (rw [hy209]; exact H) | exact H
                      have Ny209 := ak hy209; clear hy209; have H' := ak H; clear H
                      try go_wp2
                      replace HO_10 := ak (Kd.R_drew HO_10.out); replace HO_204001 := ak (Kd.S_drew HO_204001.out); replace BK198 := ak (blk_drew BK198.out); replace BK199 := ak (blk_drew BK199.out); replace BK200 := ak (blk_drew BK200.out); replace BK203 := ak (blk_drew BK203.out); replace HB := ak (below_drew1 HB.out); have p207 : 0 ≤ (x9_2 : Int) := as_; have q207 : x9_2 < (l0.length : Int) := as_; obtain ⟨ad207, e207, hx207_0, hx207_1, hx207_2⟩ := at_T99 HR0.out x9_2 p207 q207; have hw207_2 := hx207_2; have hw207_1 := hx207_1; have hw207_0 := hx207_0
                      cases e207
                      replace hx207_0 := hbc_ HB.out hx207_0; replace hx207_1 := hbc_ HB.out hx207_1; replace hx207_2 := hbc_ HB.out hx207_2; replace p207 := eq_true p207; replace q207 := eq_true q207; refine start_ (n := 10) (S := fun w' => w'.cell? ⟨gb203, 0, none⟩ = some (.int .i64 (wrap64 (a1_0 * a2_0))) ∧ w'.cell? ⟨gb203, 1, none⟩ = some (u204001) ∧ w'.cell? (ad207.add ((x9_2).toNat * 3)) = some (.string ((rd_I_Sym l0 x9_2).f0)) ∧ w'.cell? ⟨(ad207.add ((x9_2).toNat * 3)).block, (ad207.add ((x9_2).toNat * 3)).off + 1, none⟩ = some (.int .i64 ((rd_I_Sym l0 x9_2).f1)) ∧ w'.cell? ⟨(ad207.add ((x9_2).toNat * 3)).block, (ad207.add ((x9_2).toNat * 3)).off + 2, none⟩ = some (.bool ((rd_I_Sym l0 x9_2).f2))) (ds := []) (bm 10 0) (by kernel_rfl) rfl (by kernel_rfl) ⟨(blk_cell BK203.out 0).trans rfl, (blk_cell BK203.out 1).trans rfl, (hbc_ HB.out hw207_0 :), (hbc_ HB.out hw207_1 :), (hbc_ HB.out hw207_2 :)⟩ (fun hHeld => ?_); refine with_tabW spec_Product.tab9 spec_Product.bits9 (fun HT_ HW_ => ?_)
                      generalize wr.drew = w78 at HO_10 HO_204001 BK198 BK199 BK200 BK203 HB hx207_0 hx207_1 hx207_2 hHeld ⊢
                      refine pv_ 0 ?_; refine pv_ 1 ?_; refine pv_ 3 ?_; refine pv_ 4 ?_; refine pv_ 5 ?_; refine pv_ 6 ?_; refine tv_ 2 hHeld ?_; refine tv_ 7 hHeld ?_; refine one_ (i := 8) (N := some 59) (bm 10 511) rfl rfl (one_of HT_.out (by kernel_rfl)) (by decide) (fun K hK => ?_); refine goesB_ Try.func84 (by kernel_rfl) rfl #[.int .i64 (wrap64 (a1_0 * a2_0)), .int .i64 ((rd_I_Sym l0 x9_2).f1)] (by rfl) rfl rfl ?_
                      with_reducible refine (spec_l24Power.calls k3 (wrap64 (a1_0 * a2_0)) ((rd_I_Sym l0 x9_2).f1) t208 _ A51.out).mono ?_
                      rintro e w' ⟨rfl, ⟨nd, rfl⟩⟩; refine ⟨_, rfl, ?_⟩; refine hK.out _ _ ⟨(blk_cell BK203.out 0).trans rfl, (blk_cell BK203.out 1).trans rfl, (hbc_ HB.out hw207_0 :), (hbc_ HB.out hw207_1 :), (hbc_ HB.out hw207_2 :)⟩ (fun hHeld => ?_); clear hK K; refine norm_ (a' := ?_) ?_ ?_
                      rotate_left
                      · show Act.put _ (some 59) _ = _
                        simp only [Act.put, List.setIfInBounds_toArray, List.set_cons_zero, List.set_cons_succ, i64_w, i32_w]
                        rfl
                      refine pv_ 9 ?_; refine done_ (done_of HT_.out (by kernel_rfl)) ?_; have hnb79 := NB203_198.out; have hnc79 := NB198_203.out; have hnb80 := NB203_199.out; have hnc80 := NB199_203.out; have hnb81 := NB203_200.out; have hnc81 := NB200_203.out; have hcz82_0 := bc_ BK203.out 0; have hcz82_1 := bc_ BK203.out 1; have hfz82_0 := blk_frozen BK203.out 0; have hfz82_1 := blk_frozen BK203.out 1; obtain ⟨Ao84, co84, eo84⟩ := Kd.R_slice HO_10.out; subst eo84
                      try go_wp2_with (first | ((with_reducible refine gate_builtin (b := .append) (xs := #[.tmp 129, .tmp 131]) rfl ?_); at_builtin; refine Kd.S_append (Kd.slice 3 (Kd.int .i64)) (w0 := w) w.heap.size rfl (.tmp 129) (.tmp 131) 38 75 (.slice none 0 0) 24 rfl Try.underlying38 info75 rfl (by decide) (by omega) u204001 x204001_2 x10_3 [.slice Ao84 x10_3.length co84] (fun _ => True) (fun k_ => some k_ = (.slice Ao84 x10_3.length co84 : Value).ownBlock) rfl rfl ?aP (fun k_ hk_ => ((Kd.R_mono (ok' := fun k_ => ((fun _ => True)) k_ ∧ some k_ ≠ (u204001 : Value).ownBlock) (Kd.R_apart' (HO_10.out) (Kd.S_typed HO_204001.out) (by decide)) (fun k_ hk => ⟨trivial, hk.2⟩))).1 k_ hk_.symm) ?aF ?aO ?aB ?aS ?aL ?_; (case aP => exact Kd.M_row (Kd.R_mono (Kd.R_tight rfl (Kd.R_mono (ok' := fun k_ => ((fun _ => True)) k_ ∧ some k_ ≠ (u204001 : Value).ownBlock) (Kd.R_apart' (HO_10.out) (Kd.S_typed HO_204001.out) (by decide)) (fun k_ hk => ⟨trivial, hk.2⟩))) (fun _ h_ => h_))); (case aB => exact (bs4_ HB.out GE198.out GE199.out GE200.out GE203.out)); (case aF => exact (fun _ _ => trivial)); (case aO => exact (by (with_reducible repeat (first | apply Kd.S_alloc | apply Kd.S_drewN | apply Kd.S_drew)); exact Kd.S_mono HO_204001.out (fun k_ hk => ⟨trivial, fun e_ => hk e_⟩))); (case aS => exact (below_size (bs4_ HB.out GE198.out GE199.out GE200.out GE203.out))); (case aL => have := LMc77.out; omega); intro v210 w83 ho hb hg hat; rw [← Ny209.out] at ho; replace BK198 := ak (blk_grown (g := gb198) (o := .cells #[.int .i64 a1_0, .slice A1_1 l1_1.length c1_1] 51 (0, 0)) (bk_ BK198.out) hg (Kd.S_ne HO_204001.out BK198.out (by decide))); replace BK199 := ak (blk_grown (g := gb199) (o := .cells #[.int .i64 a2_0, .slice A2_1 l2_1.length c2_1] 51 (0, 0)) (bk_ BK199.out) hg (Kd.S_ne HO_204001.out BK199.out (by decide))); replace BK200 := ak (blk_grown (g := gb200) (o := .cells #[.int .i64 0, .slice none 0 0] 51 (0, 0)) (bk_ BK200.out) hg (Kd.S_ne HO_204001.out BK200.out (by decide))); replace BK203 := ak (blk_grown (g := gb203) (o := .cells #[.int .i64 (wrap64 (a1_0 * a2_0)), u204001] 51 (0, 0)) (bk_ BK203.out) hg (Kd.S_ne HO_204001.out BK203.out (by decide))); replace HB := ak (hb); have HO211 := ak (ho); clear HO_204001 HO_10; clear ho hb hg hat; obtain ⟨Ao85, co85, eo85⟩ := Kd.S_slice HO211.out; subst eo85; have hcz86_0 := bc_ BK203.out 0; have hcz86_1 := bc_ BK203.out 1; have hfz86_0 := blk_frozen BK203.out 0; have hfz86_1 := blk_frozen BK203.out 1))
                      go_roundg k3
                      case measure => have := HJ3.out; have := HK2.out; have := HK3.out; omega
                      case rel => exact ⟨(wrap64 (x9_2 + 1)), (y209), (.slice Ao85 y209.length co85), (by first | rfl | (simp; done) | (simp [*]; done)), H', ⟨by have := HJ3.out; have := HK2.out; have := HK3.out; omega⟩, ⟨by (with_reducible repeat (first | apply Kd.S_alloc | apply Kd.S_drewN | apply Kd.S_drew)); exact Kd.S_mono (Kd.S_far (p := ⟨gb203, 1, none⟩) (Kd.S_types HO211.out BK203.out (by decide)) (fun _ hk => hk.2) (.slice Ao85 y209.length co85)) (fun _ hk => trivial)⟩, ⟨by (with_reducible repeat (first | refine blk_drewN ?_ _ | refine blk_drew ?_ | refine blk_alloc ?_ _)); refine blk_far ?_ NB198_203.out _; (with_reducible repeat (first | refine blk_drewN ?_ _ | refine blk_drew ?_ | refine blk_alloc ?_ _)); exact BK198.out⟩, ⟨by (with_reducible repeat (first | refine blk_drewN ?_ _ | refine blk_drew ?_ | refine blk_alloc ?_ _)); refine blk_far ?_ NB199_203.out _; (with_reducible repeat (first | refine blk_drewN ?_ _ | refine blk_drew ?_ | refine blk_alloc ?_ _)); exact BK199.out⟩, ⟨by (with_reducible repeat (first | refine blk_drewN ?_ _ | refine blk_drew ?_ | refine blk_alloc ?_ _)); refine blk_far ?_ NB200_203.out _; (with_reducible repeat (first | refine blk_drewN ?_ _ | refine blk_drew ?_ | refine blk_alloc ?_ _)); exact BK200.out⟩, ⟨by (with_reducible repeat (first | refine blk_drewN ?_ _ | refine blk_drew ?_ | refine blk_alloc ?_ _)); refine blk_put (cs := #[.int .i64 (wrap64 (a1_0 * a2_0)), u204001]) ?_ 1 _ rfl; (with_reducible repeat (first | refine blk_drewN ?_ _ | refine blk_drew ?_ | refine blk_alloc ?_ _)); exact BK203.out⟩, ⟨bs4_ HB.out GE198.out GE199.out GE200.out GE203.out⟩⟩
                    rw [if_neg c77] at H; exact absurd H (by simp)
                  rw [if_neg c50] at H; exact absurd H (by simp)
                rw [if_neg c49] at H; exact absurd H (by simp)
          rw [if_neg c46] at H; have c46b0 := decide_eq_false c46; clear c46
          simp only [Option.some.injEq, Prod.mk.injEq] at H
          obtain ⟨rfl, rfl, rfl⟩ := H; have hnb87 := NB203_198.out; have hnc87 := NB198_203.out; have hnb88 := NB203_199.out; have hnc88 := NB199_203.out; have hnb89 := NB203_200.out; have hnc89 := NB200_203.out; have hcz90_0 := bc_ BK203.out 0; have hcz90_1 := bc_ BK203.out 1; have hfz90_0 := blk_frozen BK203.out 0; have hfz90_1 := blk_frozen BK203.out 1; have hnb91 := NB200_198.out; have hnc91 := NB198_200.out; have hnb92 := NB200_199.out; have hnc92 := NB199_200.out; have hcz93_0 := bc_ BK200.out 0; have hcz93_1 := bc_ BK200.out 1; have hfz93_0 := blk_frozen BK200.out 0; have hfz93_1 := blk_frozen BK200.out 1; obtain ⟨Ao94, co94, eo94⟩ := Kd.S_slice HO_204001.out; subst eo94
          go_wp2
          refine bodyPost_ret (results_ct rfl _ _ gb200 51 #[.int .i64 (wrap64 (a1_0 * a2_0)), .slice Ao94 x204001_2.length co94] (0, 0) _ rfl (by (with_reducible repeat (first | refine blk_drewN ?_ _ | refine blk_drew ?_ | refine blk_alloc ?_ _)); refine blk_put (cs := #[.int .i64 (wrap64 (a1_0 * a2_0)), .slice none 0 0]) ?_ 1 _ rfl; (with_reducible repeat (first | refine blk_drewN ?_ _ | refine blk_drew ?_ | refine blk_alloc ?_ _)); refine blk_put (cs := #[.int .i64 0, .slice none 0 0]) ?_ 0 _ rfl; (with_reducible repeat (first | refine blk_drewN ?_ _ | refine blk_drew ?_ | refine blk_alloc ?_ _)); exact BK200.out) Try.underlying51 rfl (by kernel_rfl)) rfl ?_; exact ⟨_, by first | rfl | (simp [errW_none, errW_some] <;> rfl) | (simp [*, errW_none, errW_some] <;> rfl), by (with_reducible repeat (first | apply Kd.S_alloc | apply Kd.S_drewN | apply Kd.S_drew)); exact Kd.S_mono (Kd.S_far (p := ⟨gb200, 1, none⟩) (Kd.S_far (p := ⟨gb200, 0, none⟩) (Kd.S_types HO_204001.out BK200.out (by decide)) (fun _ hk => hk.2) (.int .i64 (wrap64 (a1_0 * a2_0)))) (fun _ hk => hk.2) (.slice Ao94 x204001_2.length co94)) (fun _ hk => trivial), by repeat (first | (with_reducible first | exact HB.out | apply below_alloc | apply pw_below_drewN | apply below_drew1 | refine below_set ?_ GE198.out | refine below_set ?_ GE199.out | refine below_set ?_ GE200.out | refine below_set ?_ GE203.out) | exact HB.out)⟩

/-! ### impl_from: function 87 -/
def impl_from.f (a0 : Int) (a1 : Int) (a2 : Int) : Option (Bool) := if a0 ≥ a1 then (some (decide (a0 ≤ a2))) else (some false)
set_option maxHeartbeats 8000000 in
set_option maxRecDepth 100000 in
theorem impl_from.calls (a0 : Int) (a1 : Int) (a2 : Int) (r : Bool) (w : World) (h : impl_from.f a0 a1 a2 = some r) :
    Calls Try.prog 87 #[.int .i64 a0, .int .i64 a1, .int .i64 a2] w fun e w' => e = .returned (.bool r) ∧ Drawn0 w w' := by
  have H : (if a0 ≥ a1 then (some (decide (a0 ≤ a2))) else (some false)) = some r := h; clear h
  by_cases c4 : a0 ≥ a1
  · rw [if_pos c4] at H; have c4b0 := decide_eq_true c4; clear c4; obtain rfl := Option.some.inj H
    go_enter Try.func87, Try.ntmps87
    go_wp2
    go_ret
    exact ⟨by first | rfl | (simp; done) | (simp [*]; done), by repeat (first | exact Drawn0.refl _ | apply Drawn0.step)⟩
  rw [if_neg c4] at H; have c4b0 := decide_eq_false c4; clear c4; obtain rfl := Option.some.inj H
  go_enter Try.func87, Try.ntmps87
  go_wp2
  go_ret
  exact ⟨by first | rfl | (simp; done) | (simp [*]; done), by repeat (first | exact Drawn0.refl _ | apply Drawn0.step)⟩

/-! ### impl_isSmall: function 169 -/
def impl_isSmall.f (a0 : Int) : Option (Bool) := if a0 ≥ 97 then (some (decide (a0 ≤ 122))) else (some false)
set_option maxHeartbeats 8000000 in
set_option maxRecDepth 100000 in
theorem impl_isSmall.calls (a0 : Int) (r : Bool) (w : World) (h : impl_isSmall.f a0 = some r) :
    Calls Try.prog 169 #[.int .u8 a0] w fun e w' => e = .returned (.bool r) ∧ Drawn0 w w' := by
  have H : (if a0 ≥ 97 then (some (decide (a0 ≤ 122))) else (some false)) = some r := h; clear h
  by_cases c2 : a0 ≥ 97
  · rw [if_pos c2] at H; have c2b0 := decide_eq_true c2; clear c2; obtain rfl := Option.some.inj H
    go_enter Try.func169, Try.ntmps169
    go_wp2
    go_ret
    exact ⟨by first | rfl | (simp; done) | (simp [*]; done), by repeat (first | exact Drawn0.refl _ | apply Drawn0.step)⟩
  rw [if_neg c2] at H; have c2b0 := decide_eq_false c2; clear c2; obtain rfl := Option.some.inj H
  go_enter Try.func169, Try.ntmps169
  go_wp2
  go_ret
  exact ⟨by first | rfl | (simp; done) | (simp [*]; done), by repeat (first | exact Drawn0.refl _ | apply Drawn0.step)⟩

/-! ### impl_isDigit: function 170 -/
def impl_isDigit.f (a0 : Int) : Option (Bool) := if a0 ≥ 48 then (some (decide (a0 ≤ 57))) else (some false)
set_option maxHeartbeats 8000000 in
set_option maxRecDepth 100000 in
theorem impl_isDigit.calls (a0 : Int) (r : Bool) (w : World) (h : impl_isDigit.f a0 = some r) :
    Calls Try.prog 170 #[.int .u8 a0] w fun e w' => e = .returned (.bool r) ∧ Drawn0 w w' := by
  have H : (if a0 ≥ 48 then (some (decide (a0 ≤ 57))) else (some false)) = some r := h; clear h
  by_cases c2 : a0 ≥ 48
  · rw [if_pos c2] at H; have c2b0 := decide_eq_true c2; clear c2; obtain rfl := Option.some.inj H
    go_enter Try.func170, Try.ntmps170
    go_wp2
    go_ret
    exact ⟨by first | rfl | (simp; done) | (simp [*]; done), by repeat (first | exact Drawn0.refl _ | apply Drawn0.step)⟩
  rw [if_neg c2] at H; have c2b0 := decide_eq_false c2; clear c2; obtain rfl := Option.some.inj H
  go_enter Try.func170, Try.ntmps170
  go_wp2
  go_ret
  exact ⟨by first | rfl | (simp; done) | (simp [*]; done), by repeat (first | exact Drawn0.refl _ | apply Drawn0.step)⟩

/-! ### impl_NameOk: function 144 -/
def impl_NameOk.l0 : Nat → ByteArray → Int → Int → Option (Bool)
  | 0, _, _, _ => none
  | k + 1, x0, x5, x6 => if x6 < x5 then (if 0 ≤ x6 then (if x6 < (x0.size : Int) then ((impl_isSmall.f (bt x0 x6)).bind fun t222 => (if t222 = true then (impl_NameOk.l0 k x0 x5 (wrap64 (x6 + 1))) else ((impl_isDigit.f (bt x0 x6)).bind fun t223 => (if t223 = true then (impl_NameOk.l0 k x0 x5 (wrap64 (x6 + 1))) else (some false))))) else (none)) else (none)) else ((impl_from.f (x0.size : Int) 1 8).bind fun t220 => (if t220 = true then (if 0 < (x0.size : Int) then ((impl_isSmall.f (bt x0 0)).bind fun t221 => (some t221)) else (none)) else (some false)))
def impl_NameOk.f (k : Nat) (a0 : ByteArray) : Option (Bool) := impl_NameOk.l0 k a0 (a0.size : Int) 0
theorem impl_NameOk.mono_l : ∀ k, (∀ y0 y1 y2, LeO (impl_NameOk.l0 k y0 y1 y2) (impl_NameOk.l0 (k + 1) y0 y1 y2))
  | 0 => fun _ _ _ r h => by simp [impl_NameOk.l0] at h
  | k + 1 => by
    have ih0 := impl_NameOk.mono_l k
    · intro y0 y1 y2
      unfold impl_NameOk.l0
      repeat' first | (with_reducible first | exact ih0 _ _ _ | exact LeO.refl _ | exact LeO.none _ | refine LeO.ite ?_ ?_ | refine LeO.bind ?_ (fun _ => ?_)) | exact ih0 _ _ _ | exact LeO.none _ | refine LeO.ite ?_ ?_ | refine LeO.bind ?_ (fun _ => ?_)
theorem impl_NameOk.mono : ∀ a0 k, LeO (impl_NameOk.f k a0) (impl_NameOk.f (k + 1) a0) := by
  intro a0 k; have ih0 := impl_NameOk.mono_l k
  unfold impl_NameOk.f
  repeat' first
      | (with_reducible exact ih0 _ _ _)
      | (with_reducible exact LeO.refl _)
      | (with_reducible exact LeO.none _)
      | (with_reducible refine LeO.ite ?_ ?_)
      | (with_reducible refine LeO.bind ?_ (fun _ => ?_))
      | exact ih0 _ _ _
      | exact LeO.none _
      | refine LeO.ite ?_ ?_
      | refine LeO.bind ?_ (fun _ => ?_)
set_option maxHeartbeats 8000000 in
set_option maxRecDepth 100000 in
theorem impl_NameOk.calls (k : Nat) (a0 : ByteArray) (r : Bool) (w : World) (h : impl_NameOk.f k a0 = some r) :
    Calls Try.prog 144 #[.string a0] w fun e w' => e = .returned (.bool r) ∧ Drawn0 w w' := by
  have H : (impl_NameOk.l0 k a0 (a0.size : Int) 0) = some r := h; clear h; have H' := ak H; clear H
  go_enter Try.func144, Try.ntmps144
  go_wp2
  go_loopg [6] k (fun kq v6 w' => ∃ (x6_1 : Int), v6 = .int .i64 x6_1 ∧ Aside0 (impl_NameOk.l0 kq a0 (a0.size : Int) x6_1 = some r) ∧ Aside0 (kq ≤ k) ∧ Drawn0 w w')
  case atStart => exact ⟨(0), (by first | rfl | (simp; done) | (simp [*]; done)), H', ⟨Nat.le_refl _⟩, by repeat (first | exact Drawn0.refl _ | apply Drawn0.step)⟩
  case round =>
    clear H'; (try clear c1); obtain ⟨x6_1, rfl, HA, HK1, ⟨m1, rfl⟩⟩ := hrel
    cases gk with
    | zero => exact absurd HA.out (by simp [impl_NameOk.l0])
    | succ k1 =>
      have H := HA.out; clear HA
      simp only [impl_NameOk.l0] at H
      by_cases c2 : x6_1 < (a0.size : Int)
      · rw [if_pos c2] at H; have c2b0 := decide_eq_true c2; clear c2
        by_cases c3 : 0 ≤ x6_1
        · rw [if_pos c3] at H; have c3b0 := decide_eq_true c3; clear c3
          by_cases c4 : x6_1 < (a0.size : Int)
          · rw [if_pos c4] at H; have c4b0 := decide_eq_true c4; clear c4; replace H := Option.bind_eq_some_iff.mp H; obtain ⟨t222, A60, H⟩ := H; have A6 := ak A60; clear A60
            by_cases c7 : t222 = true
            · subst c7; rw [if_pos rfl] at H; have H' := ak H; clear H; have p5 : 0 ≤ (x6_1 : Int) := as_; have q5 : x6_1 < (a0.size : Int) := as_; have hx5 := bt_at a0 x6_1; replace p5 := eq_true p5; replace q5 := eq_true q5
              go_wp2_with (first | ((with_reducible refine gate_callee (f := 169) rfl ?_); refine goesM_ (some 12) rfl rfl Try.func169 (by kernel_rfl) rfl #[.int .u8 (bt a0 x6_1)] rfl ?_; (with_reducible refine (impl_isSmall.calls (bt a0 x6_1) true _ A6.out).mono ?_); rintro e w' ⟨rfl, ⟨nd, rfl⟩⟩; refine ⟨_, rfl, ?_⟩))
              go_roundg k1
              case measure => have := HK1.out; omega
              case rel => exact ⟨(wrap64 (x6_1 + 1)), (by first | rfl | (simp; done) | (simp [*]; done)), H', ⟨by have := HK1.out; omega⟩, by repeat (first | exact Drawn0.refl _ | apply Drawn0.step)⟩
            replace c7 := Bool.eq_false_iff.mpr c7; subst c7; rw [if_neg (show ¬ (false = true) by decide)] at H; replace H := Option.bind_eq_some_iff.mp H; obtain ⟨t223, A90, H⟩ := H; have A9 := ak A90; clear A90
            by_cases c10 : t223 = true
            · subst c10; rw [if_pos rfl] at H; have H' := ak H; clear H; have p5 : 0 ≤ (x6_1 : Int) := as_; have q5 : x6_1 < (a0.size : Int) := as_; have hx5 := bt_at a0 x6_1; replace p5 := eq_true p5; replace q5 := eq_true q5
              go_wp2_with (first | ((with_reducible refine gate_callee (f := 169) rfl ?_); refine goesM_ (some 12) rfl rfl Try.func169 (by kernel_rfl) rfl #[.int .u8 (bt a0 x6_1)] rfl ?_; (with_reducible refine (impl_isSmall.calls (bt a0 x6_1) false _ A6.out).mono ?_); rintro e w' ⟨rfl, ⟨nd, rfl⟩⟩; refine ⟨_, rfl, ?_⟩; have p8 : 0 ≤ (x6_1 : Int) := as_; have q8 : x6_1 < (a0.size : Int) := as_; have hx8 := bt_at a0 x6_1; replace p8 := eq_true p8; replace q8 := eq_true q8) | (go_at_call 170; (with_reducible refine (impl_isDigit.calls (bt a0 x6_1) true _ A9.out).mono ?_); rintro e w' ⟨rfl, ⟨nd, rfl⟩⟩))
              go_roundg k1
              case measure => have := HK1.out; omega
              case rel => exact ⟨(wrap64 (x6_1 + 1)), (by first | rfl | (simp; done) | (simp [*]; done)), H', ⟨by have := HK1.out; omega⟩, by repeat (first | exact Drawn0.refl _ | apply Drawn0.step)⟩
            replace c10 := Bool.eq_false_iff.mpr c10; subst c10; rw [if_neg (show ¬ (false = true) by decide)] at H; obtain rfl := Option.some.inj H; have p5 : 0 ≤ (x6_1 : Int) := as_; have q5 : x6_1 < (a0.size : Int) := as_; have hx5 := bt_at a0 x6_1; replace p5 := eq_true p5; replace q5 := eq_true q5
            go_wp2_with (first | ((with_reducible refine gate_callee (f := 169) rfl ?_); refine goesM_ (some 12) rfl rfl Try.func169 (by kernel_rfl) rfl #[.int .u8 (bt a0 x6_1)] rfl ?_; (with_reducible refine (impl_isSmall.calls (bt a0 x6_1) false _ A6.out).mono ?_); rintro e w' ⟨rfl, ⟨nd, rfl⟩⟩; refine ⟨_, rfl, ?_⟩; have p8 : 0 ≤ (x6_1 : Int) := as_; have q8 : x6_1 < (a0.size : Int) := as_; have hx8 := bt_at a0 x6_1; replace p8 := eq_true p8; replace q8 := eq_true q8) | (go_at_call 170; (with_reducible refine (impl_isDigit.calls (bt a0 x6_1) false _ A9.out).mono ?_); rintro e w' ⟨rfl, ⟨nd, rfl⟩⟩))
            go_ret
            exact ⟨by first | rfl | (simp; done) | (simp [*]; done), by repeat (first | exact Drawn0.refl _ | apply Drawn0.step)⟩
          rw [if_neg c4] at H; exact absurd H (by simp)
        rw [if_neg c3] at H; exact absurd H (by simp)
      rw [if_neg c2] at H; have c2b0 := decide_eq_false c2; clear c2; replace H := Option.bind_eq_some_iff.mp H; obtain ⟨t220, A110, H⟩ := H; have A11 := ak A110; clear A110
      by_cases c12 : t220 = true
      · subst c12; rw [if_pos rfl] at H
        by_cases c13 : 0 < (a0.size : Int)
        · rw [if_pos c13] at H; have c13b0 := decide_eq_true c13; have c13b1 : decide (0 < a0.size) = true := decide_eq_true (by omega); clear c13; replace H := Option.bind_eq_some_iff.mp H; obtain ⟨t221, A150, H⟩ := H; have A15 := ak A150; clear A150; obtain rfl := Option.some.inj H
          go_wp2_with (first | ((with_reducible refine gate_callee (f := 87) rfl ?_); refine goesM_ (some 24) rfl rfl Try.func87 (by kernel_rfl) rfl #[.int .i64 (a0.size : Int), .int .i64 1, .int .i64 8] rfl ?_; (with_reducible refine (impl_from.calls (a0.size : Int) 1 8 true _ A11.out).mono ?_); rintro e w' ⟨rfl, ⟨nd, rfl⟩⟩; refine ⟨_, rfl, ?_⟩; have p14 : 0 ≤ (0 : Int) := (by omega); have q14 : 0 < a0.size := (by have : (0 : Int) < (a0.size : Int) := as_; omega); have hx14 : ∀ h : 0 < a0.size, ((a0[0]'h).toNat : Int) = bt a0 0 := bt_at a0 0; clear p14; have qi14 : (0 < (a0.size : Int)) = True := eq_true (as_); replace q14 := eq_true q14) | (go_at_call 169; (with_reducible refine (impl_isSmall.calls (bt a0 0) t221 _ A15.out).mono ?_); rintro e w' ⟨rfl, ⟨nd, rfl⟩⟩))
          go_ret
          exact ⟨by first | rfl | (simp; done) | (simp [*]; done), by repeat (first | exact Drawn0.refl _ | apply Drawn0.step)⟩
        rw [if_neg c13] at H; exact absurd H (by simp)
      replace c12 := Bool.eq_false_iff.mpr c12; subst c12; rw [if_neg (show ¬ (false = true) by decide)] at H; obtain rfl := Option.some.inj H
      go_wp2_with (first | ((with_reducible refine gate_callee (f := 87) rfl ?_); refine goesM_ (some 24) rfl rfl Try.func87 (by kernel_rfl) rfl #[.int .i64 (a0.size : Int), .int .i64 1, .int .i64 8] rfl ?_; (with_reducible refine (impl_from.calls (a0.size : Int) 1 8 false _ A11.out).mono ?_); rintro e w' ⟨rfl, ⟨nd, rfl⟩⟩; refine ⟨_, rfl, ?_⟩))
      go_ret
      exact ⟨by first | rfl | (simp; done) | (simp [*]; done), by repeat (first | exact Drawn0.refl _ | apply Drawn0.step)⟩

/-! ### impl_SymOf_1: function 172 -/
def impl_SymOf_1.f (a0_0 : ByteArray) (a0_1 : Int) (a0_2 : Bool) (a1_0 : ByteArray) : Option (Bool) := some (a0_0.toList == a1_0.toList)
set_option maxHeartbeats 8000000 in
set_option maxRecDepth 100000 in
theorem impl_SymOf_1.calls (a0_0 : ByteArray) (a0_1 : Int) (a0_2 : Bool) (G1 : Nat) (a1_0 : ByteArray) (r : Bool) (w : World) (hG1 : w.heap[G1]? = some (.cells #[.string a1_0] 9 (0, 0))) (h : impl_SymOf_1.f a0_0 a0_1 a0_2 a1_0 = some r) :
    Calls Try.prog 172 #[.agg #[.string a0_0, .int .i64 a0_1, .bool a0_2], .pointer (some ⟨G1, 0, none⟩)] w fun e w' => e = .returned (.bool r) ∧ Below w.heap.size w w' := by
  have hu99 := Try.underlying99; have BK1 := ak hG1; clear hG1; have HB := ak (Below.refl w.heap.size w); have H : (some (a0_0.toList == a1_0.toList)) = some r := h; clear h; obtain rfl := Option.some.inj H
  go_enter Try.func172, Try.ntmps172
  go_wp2_with (first | ((with_reducible refine gate_dst (N := 2) rfl ?_); refine bxe_ (N := 2) (cs := #[.string a0_0, .int .i64 a0_1, .bool a0_2]) (t := 99) ?_; intro gb224 hg w3 hbox hb; have BK224 := ak (hbox); have GW224 := ak (lg_ hg (bl_ HB.out)); have GE224 := ak (lg_ hg (bl_ HB.out)); replace HB := ak (below_step (bl_ HB.out) hb); have NB1_224 := ak (nl_ hg (bk_ BK1.out)); have NB224_1 := ak (ng_ hg (bk_ BK1.out)); replace BK1 := ak (blk_below (bk_ BK1.out) hb); clear hb hbox hg; have hnb4 := NB224_1.out; have hnc4 := NB1_224.out; have hcz5_0 := bc_ BK224.out 0; have hcz5_1 := bc_ BK224.out 1; have hcz5_2 := bc_ BK224.out 2; have hfz5_0 := blk_frozen BK224.out 0; have hfz5_1 := blk_frozen BK224.out 1; have hfz5_2 := blk_frozen BK224.out 2; have hcz6_0 := bc_ BK1.out 0; have hfz6_0 := blk_frozen BK1.out 0))
  go_ret
  exact fin_ (bs1_ HB.out GE224.out)

end Go.Proofs.Ytcboagkbcoihjaa.XProduct
