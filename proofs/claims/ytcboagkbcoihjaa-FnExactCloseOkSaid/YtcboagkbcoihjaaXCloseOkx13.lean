-- printed by a program of this session (xprint, turned from the kit's print) for this claim
import Derived.Test.YtcboagkbcoihjaaXCloseOkx0
import Derived.Test.YtcboagkbcoihjaaXCloseOkx2
import Derived.Test.YtcboagkbcoihjaaXCloseOkx3
import Derived.Test.YtcboagkbcoihjaaXCloseOkx4
import Derived.Test.YtcboagkbcoihjaaXCloseOkx8
import Derived.Test.YtcboagkbcoihjaaXCloseOkx9
import Derived.Test.YtcboagkbcoihjaaXCloseOkx12
namespace Go.Proofs.Ytcboagkbcoihjaa.XCloseOk
open Go.RowKit Go.Proofs.Ytcboagkbcoihjaa.XOpens Go.Proofs.YtcboagkbcoihjaaW.PrintWords Go.Proofs.YtcboagkbcoihjaaW.PrintLast Go.Proofs.YtcboagkbcoihjaaW.PrintMore
attribute [local go_sem] max2_int min2_int max_two min_two max_three min_three max_four min_four   -- for this text's walks alone
set_option linter.unusedVariables false
set_option linter.unusedSimpArgs false

/-! ### impl_CloseOk_1: function 103 -/
def impl_CloseOk_1.f (k : Nat) (a0_0 : Bool) (a0_1 : Int) (a0_2 : Int) (l0_3 : List (I_Term)) (a0_4 : Int) (a0_5 : Int) (l0_6 : List (I_Term)) (l1_0 : List (I_Sym)) : Option (Bool) := (impl_LitOk.f k l1_0 a0_0 a0_1 a0_2 l0_3 a0_4 a0_5 l0_6).bind fun t333 => (if t333 = true then (if a0_0 = true then ((impl_plain.f k l1_0 a0_1 a0_2 l0_3).bind fun t334 => (if t334 = true then ((impl_plain.f k l1_0 a0_4 a0_5 l0_6).bind fun t335 => (some (!t335))) else (some true))) else (some true)) else (some true))
theorem impl_CloseOk_1.mono : ∀ a0 a1 a2 a3 a4 a5 a6 a7 k, LeO (impl_CloseOk_1.f k a0 a1 a2 a3 a4 a5 a6 a7) (impl_CloseOk_1.f (k + 1) a0 a1 a2 a3 a4 a5 a6 a7) := by
  intro a0 a1 a2 a3 a4 a5 a6 a7 k
  unfold impl_CloseOk_1.f
  repeat' first
      | (with_reducible exact impl_LitOk.mono _ _ _ _ _ _ _ _ _)
      | (with_reducible exact impl_plain.mono _ _ _ _ _)
      | (with_reducible exact LeO.refl _)
      | (with_reducible exact LeO.none _)
      | (with_reducible refine LeO.ite ?_ ?_)
      | (with_reducible refine LeO.bind ?_ (fun _ => ?_))
      | exact impl_LitOk.mono _ _ _ _ _ _ _ _ _
      | exact impl_plain.mono _ _ _ _ _
      | exact LeO.none _
      | refine LeO.ite ?_ ?_
      | refine LeO.bind ?_ (fun _ => ?_)
set_option maxHeartbeats 8000000 in
set_option maxRecDepth 100000 in
theorem impl_CloseOk_1.calls (k : Nat) (a0_0 : Bool) (a0_1 : Int) (a0_2 : Int) (A0_3 : Option Addr) (c0_3 : Nat) (l0_3 : List (I_Term)) (a0_4 : Int) (a0_5 : Int) (A0_6 : Option Addr) (c0_6 : Nat) (l0_6 : List (I_Term)) (G1 : Nat) (A1_0 : Option Addr) (c1_0 : Nat) (l1_0 : List (I_Sym)) (r : Bool) (w : World) (hr0_3 : Kd.C k33 w A0_3 l0_3.length l0_3) (hc0_3 : l0_3.length ≤ c0_3) (hr0_6 : Kd.C k33 w A0_6 l0_6.length l0_6) (hc0_6 : l0_6.length ≤ c0_6) (hG1 : w.heap[G1]? = some (.cells #[.slice A1_0 l1_0.length c1_0] 29 (0, 0))) (hr1_0 : Kd.C k99 w A1_0 l1_0.length l1_0) (hc1_0 : l1_0.length ≤ c1_0) (h : impl_CloseOk_1.f k a0_0 a0_1 a0_2 l0_3 a0_4 a0_5 l0_6 l1_0 = some r) :
    Calls Try.prog 103 #[.agg #[.bool a0_0, .int .i64 a0_1, .int .i64 a0_2, .slice A0_3 l0_3.length c0_3, .int .i64 a0_4, .int .i64 a0_5, .slice A0_6 l0_6.length c0_6], .pointer (some ⟨G1, 0, none⟩)] w fun e w' => e = .returned (.bool r) ∧ Below w.heap.size w w' := by
  have hu119 := Try.underlying119; have hu33 := Try.underlying33; have HR0_3 := Aside0.mk hr0_3; have HC0_3 := Aside0.mk hc0_3; clear hr0_3 hc0_3; have HR0_6 := Aside0.mk hr0_6; have HC0_6 := Aside0.mk hc0_6; clear hr0_6 hc0_6; have HR1_0 := Aside0.mk hr1_0; have HC1_0 := Aside0.mk hc1_0; clear hr1_0 hc1_0; have BK1 := Aside0.mk hG1; clear hG1; have HB := Aside0.mk (Below.refl w.heap.size w); have H : ((impl_LitOk.f k l1_0 a0_0 a0_1 a0_2 l0_3 a0_4 a0_5 l0_6).bind fun t333 => (if t333 = true then (if a0_0 = true then ((impl_plain.f k l1_0 a0_1 a0_2 l0_3).bind fun t334 => (if t334 = true then ((impl_plain.f k l1_0 a0_4 a0_5 l0_6).bind fun t335 => (some (!t335))) else (some true))) else (some true)) else (some true))) = some r := h; clear h; replace H := Option.bind_eq_some_iff.mp H; obtain ⟨t333, A30, H⟩ := H; replace H : (if t333 = true then (if a0_0 = true then ((impl_plain.f k l1_0 a0_1 a0_2 l0_3).bind fun t334 => (if t334 = true then ((impl_plain.f k l1_0 a0_4 a0_5 l0_6).bind fun t335 => (some (!t335))) else (some true))) else (some true)) else (some true)) = some r := H; have A3 := Aside0.mk A30; clear A30
  by_cases c4 : t333 = true
  · subst c4; rw [if_pos rfl] at H
    by_cases c5 : a0_0 = true
    · subst c5; rw [if_pos rfl] at H; replace H := Option.bind_eq_some_iff.mp H; obtain ⟨t334, A60, H⟩ := H; replace H : (if t334 = true then ((impl_plain.f k l1_0 a0_4 a0_5 l0_6).bind fun t335 => (some (!t335))) else (some true)) = some r := H; have A6 := Aside0.mk A60; clear A60
      by_cases c7 : t334 = true
      · subst c7; rw [if_pos rfl] at H; replace H := Option.bind_eq_some_iff.mp H; obtain ⟨t335, A80, H⟩ := H; replace H : (some (!t335)) = some r := H; have A8 := Aside0.mk A80; clear A80; obtain rfl := Option.some.inj H
        go_enter Try.func103, Try.ntmps103
        go_wp2_with (first | ((with_reducible refine gate_dst (N := 2) rfl ?_); refine bxe_ (N := 2) (cs := #[.bool true, .int .i64 a0_1, .int .i64 a0_2, .slice A0_3 l0_3.length c0_3, .int .i64 a0_4, .int .i64 a0_5, .slice A0_6 l0_6.length c0_6]) (t := 119) ?_; intro gb332 hg w9 hbox hb; have n0_ := Aside0.mk (blk_below (bk_ BK1.out) hb); have n1_ := Aside0.mk (below_step (bl_ HB.out) hb); have n2_ := Aside0.mk (hbox); have n3_ := Aside0.mk (lg_ hg (bl_ HB.out)); have n4_ := Aside0.mk (lg_ hg (bl_ HB.out)); have n5_ := Aside0.mk (nl_ hg (bk_ BK1.out)); have n6_ := Aside0.mk (ng_ hg (bk_ BK1.out)); clear BK1; clear HB; have BK1 := n0_; have HB := n1_; have BK332 := n2_; have GW332 := n3_; have GE332 := n4_; have NB1_332 := n5_; have NB332_1 := n6_; clear n0_ n1_ n2_ n3_ n4_ n5_ n6_; clear hb hbox hg; have hnb10 := NB1_332.out; have hnc10 := NB332_1.out; have hcz11_0 := bc_ BK1.out 0; have hfz11_0 := blk_frozen BK1.out 0; have hcz12_0 := bc_ BK332.out 0; have hcz12_1 := bc_ BK332.out 1; have hcz12_2 := bc_ BK332.out 2; have hcz12_3 := bc_ BK332.out 3; have hcz12_4 := bc_ BK332.out 4; have hcz12_5 := bc_ BK332.out 5; have hcz12_6 := bc_ BK332.out 6; have hfz12_0 := blk_frozen BK332.out 0; have hfz12_1 := blk_frozen BK332.out 1; have hfz12_2 := blk_frozen BK332.out 2; have hfz12_3 := blk_frozen BK332.out 3; have hfz12_4 := blk_frozen BK332.out 4; have hfz12_5 := blk_frozen BK332.out 5; have hfz12_6 := blk_frozen BK332.out 6) | ((with_reducible refine gate_callee (f := 104) rfl ?_); refine goesM_ (some 6) rfl rfl Try.func104 (by kernel_rfl) rfl #[.slice A1_0 l1_0.length c1_0, .agg #[.bool true, .int .i64 a0_1, .int .i64 a0_2, .slice A0_3 l0_3.length c0_3, .int .i64 a0_4, .int .i64 a0_5, .slice A0_6 l0_6.length c0_6]] rfl ?_; (with_reducible refine (impl_LitOk.calls k _ _ l1_0 true a0_1 a0_2 _ _ l0_3 a0_4 a0_5 _ _ l0_6 true _ ?side1 ?side2 ?side3 ?side4 ?side5 ?side6 A3.out).mono ?_); (case side1 => exact cb_ HR1_0.out HB.out); (case side2 => exact HC1_0.out); (case side3 => exact cb_ HR0_3.out HB.out); (case side4 => exact HC0_3.out); (case side5 => exact cb_ HR0_6.out HB.out); (case side6 => exact HC0_6.out); rintro e w13 ⟨rfl, hb⟩; refine ⟨_, rfl, ?_⟩; have n0_ := Aside0.mk (blk_below (bk_ BK1.out) hb); have n1_ := Aside0.mk (blk_below (bk_ BK332.out) hb); have n2_ := Aside0.mk (below_step (bs1_ HB.out GE332.out) hb); clear BK1; clear BK332; clear HB; have BK1 := n0_; have BK332 := n1_; have HB := n2_; clear n0_ n1_ n2_; (try clear hb); (try clear hb2); (try clear hk); (try clear hi); have hcz14_0 := bc_ BK332.out 0; have hcz14_1 := bc_ BK332.out 1; have hcz14_2 := bc_ BK332.out 2; have hcz14_3 := bc_ BK332.out 3; have hcz14_4 := bc_ BK332.out 4; have hcz14_5 := bc_ BK332.out 5; have hcz14_6 := bc_ BK332.out 6; have hfz14_0 := blk_frozen BK332.out 0; have hfz14_1 := blk_frozen BK332.out 1; have hfz14_2 := blk_frozen BK332.out 2; have hfz14_3 := blk_frozen BK332.out 3; have hfz14_4 := blk_frozen BK332.out 4; have hfz14_5 := blk_frozen BK332.out 5; have hfz14_6 := blk_frozen BK332.out 6; have hcz15_0 := bc_ BK1.out 0; have hfz15_0 := blk_frozen BK1.out 0) | (go_at_call 105; (with_reducible refine (impl_plain.calls k _ _ l1_0 a0_1 a0_2 _ _ l0_3 true _ ?side1 ?side2 ?side3 ?side4 A6.out).mono ?_); (case side1 => exact cb_ HR1_0.out HB.out); (case side2 => exact HC1_0.out); (case side3 => exact cb_ HR0_3.out HB.out); (case side4 => exact HC0_3.out); rintro e w16 ⟨rfl, hb⟩; have n0_ := Aside0.mk (blk_below (bk_ BK1.out) hb); have n1_ := Aside0.mk (blk_below (bk_ BK332.out) hb); have n2_ := Aside0.mk (below_step (bs1_ HB.out GE332.out) hb); clear BK1; clear BK332; clear HB; have BK1 := n0_; have BK332 := n1_; have HB := n2_; clear n0_ n1_ n2_; (try clear hb); (try clear hb2); (try clear hk); (try clear hi); have hcz17_0 := bc_ BK1.out 0; have hfz17_0 := blk_frozen BK1.out 0; have hcz18_0 := bc_ BK332.out 0; have hcz18_1 := bc_ BK332.out 1; have hcz18_2 := bc_ BK332.out 2; have hcz18_3 := bc_ BK332.out 3; have hcz18_4 := bc_ BK332.out 4; have hcz18_5 := bc_ BK332.out 5; have hcz18_6 := bc_ BK332.out 6; have hfz18_0 := blk_frozen BK332.out 0; have hfz18_1 := blk_frozen BK332.out 1; have hfz18_2 := blk_frozen BK332.out 2; have hfz18_3 := blk_frozen BK332.out 3; have hfz18_4 := blk_frozen BK332.out 4; have hfz18_5 := blk_frozen BK332.out 5; have hfz18_6 := blk_frozen BK332.out 6) | (go_at_call 105; (with_reducible refine (impl_plain.calls k _ _ l1_0 a0_4 a0_5 _ _ l0_6 t335 _ ?side1 ?side2 ?side3 ?side4 A8.out).mono ?_); (case side1 => exact cb_ HR1_0.out HB.out); (case side2 => exact HC1_0.out); (case side3 => exact cb_ HR0_6.out HB.out); (case side4 => exact HC0_6.out); rintro e w19 ⟨rfl, hb⟩; have n0_ := Aside0.mk (blk_below (bk_ BK1.out) hb); have n1_ := Aside0.mk (blk_below (bk_ BK332.out) hb); have n2_ := Aside0.mk (below_step (bs1_ HB.out GE332.out) hb); clear BK1; clear BK332; clear HB; have BK1 := n0_; have BK332 := n1_; have HB := n2_; clear n0_ n1_ n2_; (try clear hb); (try clear hb2); (try clear hk); (try clear hi)))
        go_ret
        exact fin_ (bs1_ HB.out GE332.out)
      · replace c7 := Bool.eq_false_iff.mpr c7; subst c7; rw [if_neg (show ¬ (false = true) by decide)] at H; obtain rfl := Option.some.inj H
        go_enter Try.func103, Try.ntmps103
        go_wp2_with (first | ((with_reducible refine gate_dst (N := 2) rfl ?_); refine bxe_ (N := 2) (cs := #[.bool true, .int .i64 a0_1, .int .i64 a0_2, .slice A0_3 l0_3.length c0_3, .int .i64 a0_4, .int .i64 a0_5, .slice A0_6 l0_6.length c0_6]) (t := 119) ?_; intro gb332 hg w20 hbox hb; have n0_ := Aside0.mk (blk_below (bk_ BK1.out) hb); have n1_ := Aside0.mk (below_step (bl_ HB.out) hb); have n2_ := Aside0.mk (hbox); have n3_ := Aside0.mk (lg_ hg (bl_ HB.out)); have n4_ := Aside0.mk (lg_ hg (bl_ HB.out)); have n5_ := Aside0.mk (nl_ hg (bk_ BK1.out)); have n6_ := Aside0.mk (ng_ hg (bk_ BK1.out)); clear BK1; clear HB; have BK1 := n0_; have HB := n1_; have BK332 := n2_; have GW332 := n3_; have GE332 := n4_; have NB1_332 := n5_; have NB332_1 := n6_; clear n0_ n1_ n2_ n3_ n4_ n5_ n6_; clear hb hbox hg; have hnb21 := NB1_332.out; have hnc21 := NB332_1.out; have hcz22_0 := bc_ BK1.out 0; have hfz22_0 := blk_frozen BK1.out 0; have hcz23_0 := bc_ BK332.out 0; have hcz23_1 := bc_ BK332.out 1; have hcz23_2 := bc_ BK332.out 2; have hcz23_3 := bc_ BK332.out 3; have hcz23_4 := bc_ BK332.out 4; have hcz23_5 := bc_ BK332.out 5; have hcz23_6 := bc_ BK332.out 6; have hfz23_0 := blk_frozen BK332.out 0; have hfz23_1 := blk_frozen BK332.out 1; have hfz23_2 := blk_frozen BK332.out 2; have hfz23_3 := blk_frozen BK332.out 3; have hfz23_4 := blk_frozen BK332.out 4; have hfz23_5 := blk_frozen BK332.out 5; have hfz23_6 := blk_frozen BK332.out 6) | ((with_reducible refine gate_callee (f := 104) rfl ?_); refine goesM_ (some 6) rfl rfl Try.func104 (by kernel_rfl) rfl #[.slice A1_0 l1_0.length c1_0, .agg #[.bool true, .int .i64 a0_1, .int .i64 a0_2, .slice A0_3 l0_3.length c0_3, .int .i64 a0_4, .int .i64 a0_5, .slice A0_6 l0_6.length c0_6]] rfl ?_; (with_reducible refine (impl_LitOk.calls k _ _ l1_0 true a0_1 a0_2 _ _ l0_3 a0_4 a0_5 _ _ l0_6 true _ ?side1 ?side2 ?side3 ?side4 ?side5 ?side6 A3.out).mono ?_); (case side1 => exact cb_ HR1_0.out HB.out); (case side2 => exact HC1_0.out); (case side3 => exact cb_ HR0_3.out HB.out); (case side4 => exact HC0_3.out); (case side5 => exact cb_ HR0_6.out HB.out); (case side6 => exact HC0_6.out); rintro e w24 ⟨rfl, hb⟩; refine ⟨_, rfl, ?_⟩; have n0_ := Aside0.mk (blk_below (bk_ BK1.out) hb); have n1_ := Aside0.mk (blk_below (bk_ BK332.out) hb); have n2_ := Aside0.mk (below_step (bs1_ HB.out GE332.out) hb); clear BK1; clear BK332; clear HB; have BK1 := n0_; have BK332 := n1_; have HB := n2_; clear n0_ n1_ n2_; (try clear hb); (try clear hb2); (try clear hk); (try clear hi); have hcz25_0 := bc_ BK332.out 0; have hcz25_1 := bc_ BK332.out 1; have hcz25_2 := bc_ BK332.out 2; have hcz25_3 := bc_ BK332.out 3; have hcz25_4 := bc_ BK332.out 4; have hcz25_5 := bc_ BK332.out 5; have hcz25_6 := bc_ BK332.out 6; have hfz25_0 := blk_frozen BK332.out 0; have hfz25_1 := blk_frozen BK332.out 1; have hfz25_2 := blk_frozen BK332.out 2; have hfz25_3 := blk_frozen BK332.out 3; have hfz25_4 := blk_frozen BK332.out 4; have hfz25_5 := blk_frozen BK332.out 5; have hfz25_6 := blk_frozen BK332.out 6; have hcz26_0 := bc_ BK1.out 0; have hfz26_0 := blk_frozen BK1.out 0) | (go_at_call 105; (with_reducible refine (impl_plain.calls k _ _ l1_0 a0_1 a0_2 _ _ l0_3 false _ ?side1 ?side2 ?side3 ?side4 A6.out).mono ?_); (case side1 => exact cb_ HR1_0.out HB.out); (case side2 => exact HC1_0.out); (case side3 => exact cb_ HR0_3.out HB.out); (case side4 => exact HC0_3.out); rintro e w27 ⟨rfl, hb⟩; have n0_ := Aside0.mk (blk_below (bk_ BK1.out) hb); have n1_ := Aside0.mk (blk_below (bk_ BK332.out) hb); have n2_ := Aside0.mk (below_step (bs1_ HB.out GE332.out) hb); clear BK1; clear BK332; clear HB; have BK1 := n0_; have BK332 := n1_; have HB := n2_; clear n0_ n1_ n2_; (try clear hb); (try clear hb2); (try clear hk); (try clear hi)))
        go_ret
        exact fin_ (bs1_ HB.out GE332.out)
    · replace c5 := Bool.eq_false_iff.mpr c5; subst c5; rw [if_neg (show ¬ (false = true) by decide)] at H; obtain rfl := Option.some.inj H
      go_enter Try.func103, Try.ntmps103
      go_wp2_with (first | ((with_reducible refine gate_dst (N := 2) rfl ?_); refine bxe_ (N := 2) (cs := #[.bool false, .int .i64 a0_1, .int .i64 a0_2, .slice A0_3 l0_3.length c0_3, .int .i64 a0_4, .int .i64 a0_5, .slice A0_6 l0_6.length c0_6]) (t := 119) ?_; intro gb332 hg w28 hbox hb; have n0_ := Aside0.mk (blk_below (bk_ BK1.out) hb); have n1_ := Aside0.mk (below_step (bl_ HB.out) hb); have n2_ := Aside0.mk (hbox); have n3_ := Aside0.mk (lg_ hg (bl_ HB.out)); have n4_ := Aside0.mk (lg_ hg (bl_ HB.out)); have n5_ := Aside0.mk (nl_ hg (bk_ BK1.out)); have n6_ := Aside0.mk (ng_ hg (bk_ BK1.out)); clear BK1; clear HB; have BK1 := n0_; have HB := n1_; have BK332 := n2_; have GW332 := n3_; have GE332 := n4_; have NB1_332 := n5_; have NB332_1 := n6_; clear n0_ n1_ n2_ n3_ n4_ n5_ n6_; clear hb hbox hg; have hnb29 := NB1_332.out; have hnc29 := NB332_1.out; have hcz30_0 := bc_ BK1.out 0; have hfz30_0 := blk_frozen BK1.out 0; have hcz31_0 := bc_ BK332.out 0; have hcz31_1 := bc_ BK332.out 1; have hcz31_2 := bc_ BK332.out 2; have hcz31_3 := bc_ BK332.out 3; have hcz31_4 := bc_ BK332.out 4; have hcz31_5 := bc_ BK332.out 5; have hcz31_6 := bc_ BK332.out 6; have hfz31_0 := blk_frozen BK332.out 0; have hfz31_1 := blk_frozen BK332.out 1; have hfz31_2 := blk_frozen BK332.out 2; have hfz31_3 := blk_frozen BK332.out 3; have hfz31_4 := blk_frozen BK332.out 4; have hfz31_5 := blk_frozen BK332.out 5; have hfz31_6 := blk_frozen BK332.out 6) | ((with_reducible refine gate_callee (f := 104) rfl ?_); refine goesM_ (some 6) rfl rfl Try.func104 (by kernel_rfl) rfl #[.slice A1_0 l1_0.length c1_0, .agg #[.bool false, .int .i64 a0_1, .int .i64 a0_2, .slice A0_3 l0_3.length c0_3, .int .i64 a0_4, .int .i64 a0_5, .slice A0_6 l0_6.length c0_6]] rfl ?_; (with_reducible refine (impl_LitOk.calls k _ _ l1_0 false a0_1 a0_2 _ _ l0_3 a0_4 a0_5 _ _ l0_6 true _ ?side1 ?side2 ?side3 ?side4 ?side5 ?side6 A3.out).mono ?_); (case side1 => exact cb_ HR1_0.out HB.out); (case side2 => exact HC1_0.out); (case side3 => exact cb_ HR0_3.out HB.out); (case side4 => exact HC0_3.out); (case side5 => exact cb_ HR0_6.out HB.out); (case side6 => exact HC0_6.out); rintro e w32 ⟨rfl, hb⟩; refine ⟨_, rfl, ?_⟩; have n0_ := Aside0.mk (blk_below (bk_ BK1.out) hb); have n1_ := Aside0.mk (blk_below (bk_ BK332.out) hb); have n2_ := Aside0.mk (below_step (bs1_ HB.out GE332.out) hb); clear BK1; clear BK332; clear HB; have BK1 := n0_; have BK332 := n1_; have HB := n2_; clear n0_ n1_ n2_; (try clear hb); (try clear hb2); (try clear hk); (try clear hi); have hcz33_0 := bc_ BK332.out 0; have hcz33_1 := bc_ BK332.out 1; have hcz33_2 := bc_ BK332.out 2; have hcz33_3 := bc_ BK332.out 3; have hcz33_4 := bc_ BK332.out 4; have hcz33_5 := bc_ BK332.out 5; have hcz33_6 := bc_ BK332.out 6; have hfz33_0 := blk_frozen BK332.out 0; have hfz33_1 := blk_frozen BK332.out 1; have hfz33_2 := blk_frozen BK332.out 2; have hfz33_3 := blk_frozen BK332.out 3; have hfz33_4 := blk_frozen BK332.out 4; have hfz33_5 := blk_frozen BK332.out 5; have hfz33_6 := blk_frozen BK332.out 6))
      go_ret
      exact fin_ (bs1_ HB.out GE332.out)
  · replace c4 := Bool.eq_false_iff.mpr c4; subst c4; rw [if_neg (show ¬ (false = true) by decide)] at H; obtain rfl := Option.some.inj H
    go_enter Try.func103, Try.ntmps103
    go_wp2_with (first | ((with_reducible refine gate_dst (N := 2) rfl ?_); refine bxe_ (N := 2) (cs := #[.bool a0_0, .int .i64 a0_1, .int .i64 a0_2, .slice A0_3 l0_3.length c0_3, .int .i64 a0_4, .int .i64 a0_5, .slice A0_6 l0_6.length c0_6]) (t := 119) ?_; intro gb332 hg w34 hbox hb; have n0_ := Aside0.mk (blk_below (bk_ BK1.out) hb); have n1_ := Aside0.mk (below_step (bl_ HB.out) hb); have n2_ := Aside0.mk (hbox); have n3_ := Aside0.mk (lg_ hg (bl_ HB.out)); have n4_ := Aside0.mk (lg_ hg (bl_ HB.out)); have n5_ := Aside0.mk (nl_ hg (bk_ BK1.out)); have n6_ := Aside0.mk (ng_ hg (bk_ BK1.out)); clear BK1; clear HB; have BK1 := n0_; have HB := n1_; have BK332 := n2_; have GW332 := n3_; have GE332 := n4_; have NB1_332 := n5_; have NB332_1 := n6_; clear n0_ n1_ n2_ n3_ n4_ n5_ n6_; clear hb hbox hg; have hnb35 := NB1_332.out; have hnc35 := NB332_1.out; have hcz36_0 := bc_ BK1.out 0; have hfz36_0 := blk_frozen BK1.out 0; have hcz37_0 := bc_ BK332.out 0; have hcz37_1 := bc_ BK332.out 1; have hcz37_2 := bc_ BK332.out 2; have hcz37_3 := bc_ BK332.out 3; have hcz37_4 := bc_ BK332.out 4; have hcz37_5 := bc_ BK332.out 5; have hcz37_6 := bc_ BK332.out 6; have hfz37_0 := blk_frozen BK332.out 0; have hfz37_1 := blk_frozen BK332.out 1; have hfz37_2 := blk_frozen BK332.out 2; have hfz37_3 := blk_frozen BK332.out 3; have hfz37_4 := blk_frozen BK332.out 4; have hfz37_5 := blk_frozen BK332.out 5; have hfz37_6 := blk_frozen BK332.out 6) | ((with_reducible refine gate_callee (f := 104) rfl ?_); refine goesM_ (some 6) rfl rfl Try.func104 (by kernel_rfl) rfl #[.slice A1_0 l1_0.length c1_0, .agg #[.bool a0_0, .int .i64 a0_1, .int .i64 a0_2, .slice A0_3 l0_3.length c0_3, .int .i64 a0_4, .int .i64 a0_5, .slice A0_6 l0_6.length c0_6]] rfl ?_; (with_reducible refine (impl_LitOk.calls k _ _ l1_0 a0_0 a0_1 a0_2 _ _ l0_3 a0_4 a0_5 _ _ l0_6 false _ ?side1 ?side2 ?side3 ?side4 ?side5 ?side6 A3.out).mono ?_); (case side1 => exact cb_ HR1_0.out HB.out); (case side2 => exact HC1_0.out); (case side3 => exact cb_ HR0_3.out HB.out); (case side4 => exact HC0_3.out); (case side5 => exact cb_ HR0_6.out HB.out); (case side6 => exact HC0_6.out); rintro e w38 ⟨rfl, hb⟩; refine ⟨_, rfl, ?_⟩; have n0_ := Aside0.mk (blk_below (bk_ BK1.out) hb); have n1_ := Aside0.mk (blk_below (bk_ BK332.out) hb); have n2_ := Aside0.mk (below_step (bs1_ HB.out GE332.out) hb); clear BK1; clear BK332; clear HB; have BK1 := n0_; have BK332 := n1_; have HB := n2_; clear n0_ n1_ n2_; (try clear hb); (try clear hb2); (try clear hk); (try clear hi)))
    go_ret
    exact fin_ (bs1_ HB.out GE332.out)

/-! ### impl_Lit__with_impl_CloseOk_1_196: function 196 -/
def impl_Lit__with_impl_CloseOk_1_196.l0 : Nat → List (I_Lit) → Int → Int → List (I_Sym) → Option (Int)
  | 0, _, _, _, _ => none
  | k + 1, x0, x7, x8, x3000 => if x8 < x7 then (if 0 ≤ x8 then (if x8 < (x0.length : Int) then ((impl_CloseOk_1.f k ((rd_I_Lit x0 x8).f0) ((rd_I_Lit x0 x8).f1.f0) ((rd_I_Lit x0 x8).f1.f1) ((rd_I_Lit x0 x8).f1.f2) ((rd_I_Lit x0 x8).f2.f0) ((rd_I_Lit x0 x8).f2.f1) ((rd_I_Lit x0 x8).f2.f2) x3000).bind fun t337 => (if t337 = true then (some x8) else (impl_Lit__with_impl_CloseOk_1_196.l0 k x0 x7 (wrap64 (x8 + 1)) x3000))) else (none)) else (none)) else (some (-1))
def impl_Lit__with_impl_CloseOk_1_196.f (k : Nat) (l0 : List (I_Lit))  (l2_0 : List (I_Sym)) : Option (Int) := impl_Lit__with_impl_CloseOk_1_196.l0 k l0 (l0.length : Int) 0 l2_0
theorem impl_Lit__with_impl_CloseOk_1_196.mono_l : ∀ k, (∀ y0 y1 y2 y3, LeO (impl_Lit__with_impl_CloseOk_1_196.l0 k y0 y1 y2 y3) (impl_Lit__with_impl_CloseOk_1_196.l0 (k + 1) y0 y1 y2 y3))
  | 0 => fun _ _ _ _ r h => by simp [impl_Lit__with_impl_CloseOk_1_196.l0] at h
  | k + 1 => by
    have ih0 := impl_Lit__with_impl_CloseOk_1_196.mono_l k
    · intro y0 y1 y2 y3
      unfold impl_Lit__with_impl_CloseOk_1_196.l0
      repeat' first
      | (with_reducible exact ih0 _ _ _ _)
      | (with_reducible exact impl_CloseOk_1.mono _ _ _ _ _ _ _ _ _)
      | (with_reducible exact LeO.refl _)
      | (with_reducible exact LeO.none _)
      | (with_reducible refine LeO.ite ?_ ?_)
      | (with_reducible refine LeO.bind ?_ (fun _ => ?_))
      | exact ih0 _ _ _ _
      | exact impl_CloseOk_1.mono _ _ _ _ _ _ _ _ _
      | exact LeO.none _
      | refine LeO.ite ?_ ?_
      | refine LeO.bind ?_ (fun _ => ?_)
theorem impl_Lit__with_impl_CloseOk_1_196.mono : ∀ a0 a1 k, LeO (impl_Lit__with_impl_CloseOk_1_196.f k a0 a1) (impl_Lit__with_impl_CloseOk_1_196.f (k + 1) a0 a1) := by
  intro a0 a1 k; have ih0 := impl_Lit__with_impl_CloseOk_1_196.mono_l k
  unfold impl_Lit__with_impl_CloseOk_1_196.f
  repeat' first
      | (with_reducible exact ih0 _ _ _ _)
      | (with_reducible exact impl_CloseOk_1.mono _ _ _ _ _ _ _ _ _)
      | (with_reducible exact LeO.refl _)
      | (with_reducible exact LeO.none _)
      | (with_reducible refine LeO.ite ?_ ?_)
      | (with_reducible refine LeO.bind ?_ (fun _ => ?_))
      | exact ih0 _ _ _ _
      | exact impl_CloseOk_1.mono _ _ _ _ _ _ _ _ _
      | exact LeO.none _
      | refine LeO.ite ?_ ?_
      | refine LeO.bind ?_ (fun _ => ?_)
set_option maxHeartbeats 8000000 in
set_option maxRecDepth 100000 in
theorem impl_Lit__with_impl_CloseOk_1_196.calls (k : Nat) (A0 : Option Addr) (c0 : Nat) (l0 : List (I_Lit))  (G2 : Nat) (A2_0 : Option Addr) (c2_0 : Nat) (l2_0 : List (I_Sym)) (r : Int) (w : World) (hr0 : Kd.C k119 w A0 l0.length l0) (hc0 : l0.length ≤ c0) (hG2 : w.heap[G2]? = some (.cells #[.slice A2_0 l2_0.length c2_0] 29 (0, 0))) (hr2_0 : Kd.C k99 w A2_0 l2_0.length l2_0) (hc2_0 : l2_0.length ≤ c2_0) (h : impl_Lit__with_impl_CloseOk_1_196.f k l0 l2_0 = some r) :
    Calls Try.prog 155 #[.slice A0 l0.length c0, .func (.func 103) #[] #[.pointer (some ⟨G2, 0, none⟩)]] w fun e w' => e = .returned (.int .i64 r) ∧ Below w.heap.size w w' := by
  have hu119 := Try.underlying119; have HR0 := Aside0.mk hr0; have HC0 := Aside0.mk hc0; clear hr0 hc0; have HR2_0 := Aside0.mk hr2_0; have HC2_0 := Aside0.mk hc2_0; clear hr2_0 hc2_0; have BK2 := Aside0.mk hG2; clear hG2; have HB := Aside0.mk (Below.refl w.heap.size w); have H : (impl_Lit__with_impl_CloseOk_1_196.l0 k l0 (l0.length : Int) 0 l2_0) = some r := h; clear h; have H' := Aside0.mk H; clear H
  go_enter Try.func155, Try.ntmps155
  go_wp2
  go_loopg [8] k (fun kq v8 w' => ∃ (x8_1 : Int), v8 = .int .i64 x8_1 ∧ Aside0 (impl_Lit__with_impl_CloseOk_1_196.l0 kq l0 (l0.length : Int) x8_1 l2_0 = some r) ∧ Aside0 (kq ≤ k) ∧ Aside0 (w'.heap[G2]? = some (.cells #[(.slice A2_0 l2_0.length c2_0)] 29 (0, 0))) ∧ Aside0 (Below w.heap.size w w'))
  case atStart => exact ⟨(0), (by first | rfl | (simp; done) | (simp [*]; done)), H', ⟨Nat.le_refl _⟩, ⟨bk_ BK2.out⟩, ⟨bl_ HB.out⟩⟩
  case round =>
    clear H'; (try clear c1); (try clear c2); (try clear p2); obtain ⟨x8_1, rfl, HA, HK1, BK2, HB⟩ := hrel
    cases gk with
    | zero => exact absurd HA.out (by simp [impl_Lit__with_impl_CloseOk_1_196.l0])
    | succ k1 =>
      have H := HA.out; clear HA
      simp only [impl_Lit__with_impl_CloseOk_1_196.l0] at H
      by_cases c4 : x8_1 < (l0.length : Int)
      · rw [if_pos c4] at H; have c4b0 := decide_eq_true c4; clear c4
        by_cases c5 : 0 ≤ x8_1
        · rw [if_pos c5] at H; have c5b0 := decide_eq_true c5; clear c5
          by_cases c6 : x8_1 < (l0.length : Int)
          · rw [if_pos c6] at H; have c6b0 := decide_eq_true c6; clear c6; replace H := Option.bind_eq_some_iff.mp H; obtain ⟨t337, A70, H⟩ := H; replace H : (if t337 = true then (some x8_1) else (impl_Lit__with_impl_CloseOk_1_196.l0 k1 l0 (l0.length : Int) (wrap64 (x8_1 + 1)) l2_0)) = some r := H; have A7 := Aside0.mk A70; clear A70
            by_cases c8 : t337 = true
            · subst c8; rw [if_pos rfl] at H; obtain rfl := Option.some.inj H; have p336 : 0 ≤ (x8_1 : Int) := as_; have q336 : x8_1 < (l0.length : Int) := as_; obtain ⟨ad336, A336_3, c336_3, A336_6, c336_6, e336, hx336_0, hx336_1, hx336_2, hx336_3, hx336_4, hx336_5, hx336_6, hl336_3, hi336_3, hl336_6, hi336_6⟩ := at_T119 HR0.out x8_1 p336 q336
              cases e336
              replace hx336_0 := hbc_ HB.out hx336_0; replace hx336_1 := hbc_ HB.out hx336_1; replace hx336_2 := hbc_ HB.out hx336_2; replace hx336_3 := hbc_ HB.out hx336_3; replace hx336_4 := hbc_ HB.out hx336_4; replace hx336_5 := hbc_ HB.out hx336_5; replace hx336_6 := hbc_ HB.out hx336_6; have HR336_3 := Aside0.mk hi336_3; have HC336_3 := Aside0.mk hl336_3; clear hi336_3 hl336_3; have HR336_6 := Aside0.mk hi336_6; have HC336_6 := Aside0.mk hl336_6; clear hi336_6 hl336_6; replace p336 := eq_true p336; replace q336 := eq_true q336
              go_wp2_with (first | ((with_reducible refine Go.Proofs.Ytcboagkbcoihjaa.XOpens.gate_calleeV (t := 11) rfl ?_); refine Go.Proofs.Ytcboagkbcoihjaa.XOpens.goesV_ (some 16) rfl rfl Try.func103 (by kernel_rfl) rfl #[.agg #[.bool ((rd_I_Lit l0 x8_1).f0), .int .i64 ((rd_I_Lit l0 x8_1).f1.f0), .int .i64 ((rd_I_Lit l0 x8_1).f1.f1), .slice A336_3 ((rd_I_Lit l0 x8_1).f1.f2).length c336_3, .int .i64 ((rd_I_Lit l0 x8_1).f2.f0), .int .i64 ((rd_I_Lit l0 x8_1).f2.f1), .slice A336_6 ((rd_I_Lit l0 x8_1).f2.f2).length c336_6], .pointer (some ⟨G2, 0, none⟩)] rfl rfl (by (try simp only [List.map_toArray, List.map_cons, List.map_nil]); first | done | rfl | (simp only [List.length_drop, List.length_take]; rfl)) ?_; (with_reducible refine (impl_CloseOk_1.calls k1 ((rd_I_Lit l0 x8_1).f0) ((rd_I_Lit l0 x8_1).f1.f0) ((rd_I_Lit l0 x8_1).f1.f1) _ _ ((rd_I_Lit l0 x8_1).f1.f2) ((rd_I_Lit l0 x8_1).f2.f0) ((rd_I_Lit l0 x8_1).f2.f1) _ _ ((rd_I_Lit l0 x8_1).f2.f2) G2 A2_0 c2_0 l2_0 true _ ?side1 ?side2 ?side3 ?side4 ?side5 ?side6 ?side7 A7.out).mono ?_); (case side1 => exact cb_ HR336_3.out HB.out); (case side2 => exact HC336_3.out); (case side3 => exact cb_ HR336_6.out HB.out); (case side4 => exact HC336_6.out); (case side5 => exact (bk_ BK2.out)); (case side6 => exact cb_ HR2_0.out HB.out); (case side7 => exact HC2_0.out); rintro e w9 ⟨rfl, hb⟩; refine ⟨_, rfl, ?_⟩; have n0_ := Aside0.mk (blk_below (bk_ BK2.out) hb); have n1_ := Aside0.mk (below_step (bl_ HB.out) hb); clear BK2; clear HB; have BK2 := n0_; have HB := n1_; clear n0_ n1_; (try clear hb); (try clear hb2); (try clear hk); (try clear hi)))
              go_ret
              exact fin_ (bl_ HB.out)
            · replace c8 := Bool.eq_false_iff.mpr c8; subst c8; rw [if_neg (show ¬ (false = true) by decide)] at H; have H' := Aside0.mk H; clear H; have p336 : 0 ≤ (x8_1 : Int) := as_; have q336 : x8_1 < (l0.length : Int) := as_; obtain ⟨ad336, A336_3, c336_3, A336_6, c336_6, e336, hx336_0, hx336_1, hx336_2, hx336_3, hx336_4, hx336_5, hx336_6, hl336_3, hi336_3, hl336_6, hi336_6⟩ := at_T119 HR0.out x8_1 p336 q336
              cases e336
              replace hx336_0 := hbc_ HB.out hx336_0; replace hx336_1 := hbc_ HB.out hx336_1; replace hx336_2 := hbc_ HB.out hx336_2; replace hx336_3 := hbc_ HB.out hx336_3; replace hx336_4 := hbc_ HB.out hx336_4; replace hx336_5 := hbc_ HB.out hx336_5; replace hx336_6 := hbc_ HB.out hx336_6; have HR336_3 := Aside0.mk hi336_3; have HC336_3 := Aside0.mk hl336_3; clear hi336_3 hl336_3; have HR336_6 := Aside0.mk hi336_6; have HC336_6 := Aside0.mk hl336_6; clear hi336_6 hl336_6; replace p336 := eq_true p336; replace q336 := eq_true q336
              go_wp2_with (first | ((with_reducible refine Go.Proofs.Ytcboagkbcoihjaa.XOpens.gate_calleeV (t := 11) rfl ?_); refine Go.Proofs.Ytcboagkbcoihjaa.XOpens.goesV_ (some 16) rfl rfl Try.func103 (by kernel_rfl) rfl #[.agg #[.bool ((rd_I_Lit l0 x8_1).f0), .int .i64 ((rd_I_Lit l0 x8_1).f1.f0), .int .i64 ((rd_I_Lit l0 x8_1).f1.f1), .slice A336_3 ((rd_I_Lit l0 x8_1).f1.f2).length c336_3, .int .i64 ((rd_I_Lit l0 x8_1).f2.f0), .int .i64 ((rd_I_Lit l0 x8_1).f2.f1), .slice A336_6 ((rd_I_Lit l0 x8_1).f2.f2).length c336_6], .pointer (some ⟨G2, 0, none⟩)] rfl rfl (by (try simp only [List.map_toArray, List.map_cons, List.map_nil]); first | done | rfl | (simp only [List.length_drop, List.length_take]; rfl)) ?_; (with_reducible refine (impl_CloseOk_1.calls k1 ((rd_I_Lit l0 x8_1).f0) ((rd_I_Lit l0 x8_1).f1.f0) ((rd_I_Lit l0 x8_1).f1.f1) _ _ ((rd_I_Lit l0 x8_1).f1.f2) ((rd_I_Lit l0 x8_1).f2.f0) ((rd_I_Lit l0 x8_1).f2.f1) _ _ ((rd_I_Lit l0 x8_1).f2.f2) G2 A2_0 c2_0 l2_0 false _ ?side1 ?side2 ?side3 ?side4 ?side5 ?side6 ?side7 A7.out).mono ?_); (case side1 => exact cb_ HR336_3.out HB.out); (case side2 => exact HC336_3.out); (case side3 => exact cb_ HR336_6.out HB.out); (case side4 => exact HC336_6.out); (case side5 => exact (bk_ BK2.out)); (case side6 => exact cb_ HR2_0.out HB.out); (case side7 => exact HC2_0.out); rintro e w10 ⟨rfl, hb⟩; refine ⟨_, rfl, ?_⟩; have n0_ := Aside0.mk (blk_below (bk_ BK2.out) hb); have n1_ := Aside0.mk (below_step (bl_ HB.out) hb); clear BK2; clear HB; have BK2 := n0_; have HB := n1_; clear n0_ n1_; (try clear hb); (try clear hb2); (try clear hk); (try clear hi)))
              go_roundg k1
              case measure => have := HK1.out; omega
              case rel => exact ⟨(wrap64 (x8_1 + 1)), (by first | rfl | (simp; done) | (simp [*]; done)), H', ⟨by have := HK1.out; omega⟩, ⟨bk_ BK2.out⟩, ⟨bl_ HB.out⟩⟩
          · rw [if_neg c6] at H; exact absurd H (by simp)
        · rw [if_neg c5] at H; exact absurd H (by simp)
      · rw [if_neg c4] at H; have c4b0 := decide_eq_false c4; clear c4; obtain rfl := Option.some.inj H
        go_wp2
        go_ret
        exact fin_ (bl_ HB.out)

/-! ### impl_Lit__with_impl_CloseOk_1_195: function 195 -/
def impl_Lit__with_impl_CloseOk_1_195.f (k : Nat) (l0 : List (I_Lit))  (l2_0 : List (I_Sym)) : Option (Bool) := (impl_Lit__with_impl_CloseOk_1_196.f k l0 l2_0).bind fun t338 => (some (decide (t338 ≥ 0)))
theorem impl_Lit__with_impl_CloseOk_1_195.mono : ∀ a0 a1 k, LeO (impl_Lit__with_impl_CloseOk_1_195.f k a0 a1) (impl_Lit__with_impl_CloseOk_1_195.f (k + 1) a0 a1) := by
  intro a0 a1 k
  unfold impl_Lit__with_impl_CloseOk_1_195.f
  repeat' first
      | (with_reducible exact impl_Lit__with_impl_CloseOk_1_196.mono _ _ _)
      | (with_reducible exact LeO.refl _)
      | (with_reducible exact LeO.none _)
      | (with_reducible refine LeO.ite ?_ ?_)
      | (with_reducible refine LeO.bind ?_ (fun _ => ?_))
      | exact impl_Lit__with_impl_CloseOk_1_196.mono _ _ _
      | exact LeO.none _
      | refine LeO.ite ?_ ?_
      | refine LeO.bind ?_ (fun _ => ?_)
set_option maxHeartbeats 8000000 in
set_option maxRecDepth 100000 in
theorem impl_Lit__with_impl_CloseOk_1_195.calls (k : Nat) (A0 : Option Addr) (c0 : Nat) (l0 : List (I_Lit))  (G2 : Nat) (A2_0 : Option Addr) (c2_0 : Nat) (l2_0 : List (I_Sym)) (r : Bool) (w : World) (hr0 : Kd.C k119 w A0 l0.length l0) (hc0 : l0.length ≤ c0) (hG2 : w.heap[G2]? = some (.cells #[.slice A2_0 l2_0.length c2_0] 29 (0, 0))) (hr2_0 : Kd.C k99 w A2_0 l2_0.length l2_0) (hc2_0 : l2_0.length ≤ c2_0) (h : impl_Lit__with_impl_CloseOk_1_195.f k l0 l2_0 = some r) :
    Calls Try.prog 102 #[.slice A0 l0.length c0, .func (.func 103) #[] #[.pointer (some ⟨G2, 0, none⟩)]] w fun e w' => e = .returned (.bool r) ∧ Below w.heap.size w w' := by
  have HR0 := Aside0.mk hr0; have HC0 := Aside0.mk hc0; clear hr0 hc0; have HR2_0 := Aside0.mk hr2_0; have HC2_0 := Aside0.mk hc2_0; clear hr2_0 hc2_0; have BK2 := Aside0.mk hG2; clear hG2; have HB := Aside0.mk (Below.refl w.heap.size w); have H : ((impl_Lit__with_impl_CloseOk_1_196.f k l0 l2_0).bind fun t338 => (some (decide (t338 ≥ 0)))) = some r := h; clear h; replace H := Option.bind_eq_some_iff.mp H; obtain ⟨t338, A40, H⟩ := H; replace H : (some (decide (t338 ≥ 0))) = some r := H; have A4 := Aside0.mk A40; clear A40; obtain rfl := Option.some.inj H
  go_enter Try.func102, Try.ntmps102
  go_wp2_with (first | ((with_reducible refine gate_callee (f := 155) rfl ?_); refine goesM_ (some 7) rfl rfl Try.func155 (by kernel_rfl) rfl #[.slice A0 l0.length c0, .func (.func 103) #[] #[.pointer (some ⟨G2, 0, none⟩)]] rfl ?_; (with_reducible refine (impl_Lit__with_impl_CloseOk_1_196.calls k _ _ l0  G2 A2_0 c2_0 l2_0 t338 _ ?side1 ?side2 ?side3 ?side4 ?side5 A4.out).mono ?_); (case side1 => exact ca_ HR0.out); (case side2 => exact HC0.out); (case side3 => exact (bk_ BK2.out)); (case side4 => exact ca_ HR2_0.out); (case side5 => exact HC2_0.out); rintro e w5 ⟨rfl, hb⟩; refine ⟨_, rfl, ?_⟩; have n0_ := Aside0.mk (blk_below (bk_ BK2.out) hb); have n1_ := Aside0.mk (below_step (bl_ HB.out) hb); clear BK2; clear HB; have BK2 := n0_; have HB := n1_; clear n0_ n1_; (try clear hb); (try clear hb2); (try clear hk); (try clear hi)))
  go_ret
  exact fin_ (bl_ HB.out)

/-! ### impl_CloseOk: function 46 -/
def impl_CloseOk.f (k : Nat) (l0 : List (I_Sym)) (l1 : List (I_Lit)) : Option (Bool) := (impl_SigOk.f k l0).bind fun t340 => (if t340 = true then (if (l1.length : Int) ≤ 8 then ((impl_Lit__with_impl_CloseOk_1_195.f k l1 l0).bind fun t341 => (some (!t341))) else (some false)) else (some false))
theorem impl_CloseOk.mono : ∀ a0 a1 k, LeO (impl_CloseOk.f k a0 a1) (impl_CloseOk.f (k + 1) a0 a1) := by
  intro a0 a1 k
  unfold impl_CloseOk.f
  repeat' first
      | (with_reducible exact impl_Lit__with_impl_CloseOk_1_195.mono _ _ _)
      | (with_reducible exact impl_SigOk.mono _ _)
      | (with_reducible exact LeO.refl _)
      | (with_reducible exact LeO.none _)
      | (with_reducible refine LeO.ite ?_ ?_)
      | (with_reducible refine LeO.bind ?_ (fun _ => ?_))
      | exact impl_Lit__with_impl_CloseOk_1_195.mono _ _ _
      | exact impl_SigOk.mono _ _
      | exact LeO.none _
      | refine LeO.ite ?_ ?_
      | refine LeO.bind ?_ (fun _ => ?_)
set_option maxHeartbeats 8000000 in
set_option maxRecDepth 100000 in
theorem impl_CloseOk.calls (k : Nat) (A0 : Option Addr) (c0 : Nat) (l0 : List (I_Sym)) (A1 : Option Addr) (c1 : Nat) (l1 : List (I_Lit)) (r : Bool) (w : World) (hr0 : Kd.C k99 w A0 l0.length l0) (hc0 : l0.length ≤ c0) (hr1 : Kd.C k119 w A1 l1.length l1) (hc1 : l1.length ≤ c1) (h : impl_CloseOk.f k l0 l1 = some r) :
    Calls Try.prog 46 #[.slice A0 l0.length c0, .slice A1 l1.length c1] w fun e w' => e = .returned (.bool r) ∧ Below w.heap.size w w' := by
  have HR0 := Aside0.mk hr0; have HC0 := Aside0.mk hc0; clear hr0 hc0; have HR1 := Aside0.mk hr1; have HC1 := Aside0.mk hc1; clear hr1 hc1; have HB := Aside0.mk (Below.refl w.heap.size w); have H : ((impl_SigOk.f k l0).bind fun t340 => (if t340 = true then (if (l1.length : Int) ≤ 8 then ((impl_Lit__with_impl_CloseOk_1_195.f k l1 l0).bind fun t341 => (some (!t341))) else (some false)) else (some false))) = some r := h; clear h; replace H := Option.bind_eq_some_iff.mp H; obtain ⟨t340, A30, H⟩ := H; replace H : (if t340 = true then (if (l1.length : Int) ≤ 8 then ((impl_Lit__with_impl_CloseOk_1_195.f k l1 l0).bind fun t341 => (some (!t341))) else (some false)) else (some false)) = some r := H; have A3 := Aside0.mk A30; clear A30
  by_cases c4 : t340 = true
  · subst c4; rw [if_pos rfl] at H
    by_cases c5 : (l1.length : Int) ≤ 8
    · rw [if_pos c5] at H; have c5b0 := decide_eq_true c5; have c5b1 : decide (l1.length ≤ 8) = true := decide_eq_true (by omega); clear c5; replace H := Option.bind_eq_some_iff.mp H; obtain ⟨t341, A60, H⟩ := H; replace H : (some (!t341)) = some r := H; have A6 := Aside0.mk A60; clear A60; obtain rfl := Option.some.inj H
      go_enter Try.func46, Try.ntmps46
      go_wp2_with (first | ((with_reducible refine gate_dst (N := 2) rfl ?_); (try (refine gate_guard (by rfl) ?_; dsimp only)); refine bxe_ (N := 2) (cs := #[.slice A0 l0.length c0]) (t := 29) ?_; intro gb339 hg w7 hbox hb; have n0_ := Aside0.mk (below_step (bl_ HB.out) hb); have n1_ := Aside0.mk (hbox); have n2_ := Aside0.mk (lg_ hg (bl_ HB.out)); have n3_ := Aside0.mk (lg_ hg (bl_ HB.out)); clear HB; have HB := n0_; have BK339 := n1_; have GW339 := n2_; have GE339 := n3_; clear n0_ n1_ n2_ n3_; clear hb hbox hg; have hcz8_0 := bc_ BK339.out 0; have hfz8_0 := blk_frozen BK339.out 0) | ((with_reducible refine gate_callee (f := 86) rfl ?_); refine goesM_ (some 6) rfl rfl Try.func86 (by kernel_rfl) rfl #[.slice A0 l0.length c0] rfl ?_; (with_reducible refine (impl_SigOk.calls k _ _ l0 true _ ?side1 ?side2 A3.out).mono ?_); (case side1 => exact cb_ HR0.out HB.out); (case side2 => exact HC0.out); rintro e w9 ⟨rfl, hb⟩; refine ⟨_, rfl, ?_⟩; have n0_ := Aside0.mk (blk_below (bk_ BK339.out) hb); have n1_ := Aside0.mk (below_step (bs1_ HB.out GE339.out) hb); clear BK339; clear HB; have BK339 := n0_; have HB := n1_; clear n0_ n1_; (try clear hb); (try clear hb2); (try clear hk); (try clear hi)) | (go_at_call 102; (with_reducible refine (impl_Lit__with_impl_CloseOk_1_195.calls k _ _ l1  gb339 A0 c0 l0 t341 _ ?side1 ?side2 ?side3 ?side4 ?side5 A6.out).mono ?_); (case side1 => exact cb_ HR1.out HB.out); (case side2 => exact HC1.out); (case side3 => exact (bk_ BK339.out)); (case side4 => exact cb_ HR0.out HB.out); (case side5 => exact HC0.out); rintro e w10 ⟨rfl, hb⟩; have n0_ := Aside0.mk (blk_below (bk_ BK339.out) hb); have n1_ := Aside0.mk (below_step (bs1_ HB.out GE339.out) hb); clear BK339; clear HB; have BK339 := n0_; have HB := n1_; clear n0_ n1_; (try clear hb); (try clear hb2); (try clear hk); (try clear hi)))
      go_ret
      exact fin_ (bs1_ HB.out GE339.out)
    · rw [if_neg c5] at H; have c5b0 := decide_eq_false c5; have c5b1 : decide (l1.length ≤ 8) = false := decide_eq_false (by omega); clear c5; obtain rfl := Option.some.inj H
      go_enter Try.func46, Try.ntmps46
      go_wp2_with (first | ((with_reducible refine gate_dst (N := 2) rfl ?_); (try (refine gate_guard (by rfl) ?_; dsimp only)); refine bxe_ (N := 2) (cs := #[.slice A0 l0.length c0]) (t := 29) ?_; intro gb339 hg w11 hbox hb; have n0_ := Aside0.mk (below_step (bl_ HB.out) hb); have n1_ := Aside0.mk (hbox); have n2_ := Aside0.mk (lg_ hg (bl_ HB.out)); have n3_ := Aside0.mk (lg_ hg (bl_ HB.out)); clear HB; have HB := n0_; have BK339 := n1_; have GW339 := n2_; have GE339 := n3_; clear n0_ n1_ n2_ n3_; clear hb hbox hg; have hcz12_0 := bc_ BK339.out 0; have hfz12_0 := blk_frozen BK339.out 0) | ((with_reducible refine gate_callee (f := 86) rfl ?_); refine goesM_ (some 6) rfl rfl Try.func86 (by kernel_rfl) rfl #[.slice A0 l0.length c0] rfl ?_; (with_reducible refine (impl_SigOk.calls k _ _ l0 true _ ?side1 ?side2 A3.out).mono ?_); (case side1 => exact cb_ HR0.out HB.out); (case side2 => exact HC0.out); rintro e w13 ⟨rfl, hb⟩; refine ⟨_, rfl, ?_⟩; have n0_ := Aside0.mk (blk_below (bk_ BK339.out) hb); have n1_ := Aside0.mk (below_step (bs1_ HB.out GE339.out) hb); clear BK339; clear HB; have BK339 := n0_; have HB := n1_; clear n0_ n1_; (try clear hb); (try clear hb2); (try clear hk); (try clear hi)))
      go_ret
      exact fin_ (bs1_ HB.out GE339.out)
  · replace c4 := Bool.eq_false_iff.mpr c4; subst c4; rw [if_neg (show ¬ (false = true) by decide)] at H; obtain rfl := Option.some.inj H
    go_enter Try.func46, Try.ntmps46
    go_wp2_with (first | ((with_reducible refine gate_dst (N := 2) rfl ?_); (try (refine gate_guard (by rfl) ?_; dsimp only)); refine bxe_ (N := 2) (cs := #[.slice A0 l0.length c0]) (t := 29) ?_; intro gb339 hg w14 hbox hb; have n0_ := Aside0.mk (below_step (bl_ HB.out) hb); have n1_ := Aside0.mk (hbox); have n2_ := Aside0.mk (lg_ hg (bl_ HB.out)); have n3_ := Aside0.mk (lg_ hg (bl_ HB.out)); clear HB; have HB := n0_; have BK339 := n1_; have GW339 := n2_; have GE339 := n3_; clear n0_ n1_ n2_ n3_; clear hb hbox hg; have hcz15_0 := bc_ BK339.out 0; have hfz15_0 := blk_frozen BK339.out 0) | ((with_reducible refine gate_callee (f := 86) rfl ?_); refine goesM_ (some 6) rfl rfl Try.func86 (by kernel_rfl) rfl #[.slice A0 l0.length c0] rfl ?_; (with_reducible refine (impl_SigOk.calls k _ _ l0 false _ ?side1 ?side2 A3.out).mono ?_); (case side1 => exact cb_ HR0.out HB.out); (case side2 => exact HC0.out); rintro e w16 ⟨rfl, hb⟩; refine ⟨_, rfl, ?_⟩; have n0_ := Aside0.mk (blk_below (bk_ BK339.out) hb); have n1_ := Aside0.mk (below_step (bs1_ HB.out GE339.out) hb); clear BK339; clear HB; have BK339 := n0_; have HB := n1_; clear n0_ n1_; (try clear hb); (try clear hb2); (try clear hk); (try clear hi)))
    go_ret
    exact fin_ (bs1_ HB.out GE339.out)

/-! ### laws_FnExactCloseOk: function 8 -/
mutual
def laws_FnExactCloseOk.j0 : Nat → List (L_Sym) → List (L_Lit) → Int → Option (Bool)
  | 0, _, _, _ => none
  | k + 1, x0, x1, x5 => (laws_szLitS.f k x1 x5).bind fun t343 => (if t343 < 0 then (some true) else (laws_FnExactCloseOk.j1 k x0 x1))
def laws_FnExactCloseOk.j1 : Nat → List (L_Sym) → List (L_Lit) → Option (Bool)
  | 0, _, _ => none
  | k + 1, x0, x1 => (laws_toSymS.f k x0).bind fun t344 => ((laws_toLitS.f k x1).bind fun t347 => ((spec_CloseOk.f k t344 t347).bind fun t350 => ((laws_toSymS.f k x0).bind fun t351 => ((laws_toLitS.f k x1).bind fun t354 => ((impl_CloseOk.f k t351 t354).bind fun t357 => (if (t357 != t350) = true then (some false) else (laws_FnExactCloseOk.j2 k x0 x1 t351 t354)))))))
def laws_FnExactCloseOk.j2 : Nat → List (L_Sym) → List (L_Lit) → List (I_Sym) → List (I_Lit) → Option (Bool)
  | 0, _, _, _, _ => none
  | k + 1, x0, x1, x7, x8 => (laws_toSymS.f k x0).bind fun t358 => ((laws_eqSymS.f k x7 t358).bind fun t361 => (if t361 = true then (laws_FnExactCloseOk.j3 k x1 x8) else (some false)))
def laws_FnExactCloseOk.j3 : Nat → List (L_Lit) → List (I_Lit) → Option (Bool)
  | 0, _, _ => none
  | k + 1, x1, x8 => (laws_toLitS.f k x1).bind fun t362 => ((laws_eqLitS.f k x8 t362).bind fun t365 => (if t365 = true then (some true) else (some false)))
end
def laws_FnExactCloseOk.f (k : Nat) (l0 : List (L_Sym)) (l1 : List (L_Lit)) : Option (Bool) := (laws_szSymS.f k l0 1048576).bind fun t342 => (if t342 < 0 then (some true) else (laws_FnExactCloseOk.j0 k l0 l1 t342))
theorem laws_FnExactCloseOk.mono_l : ∀ k, (∀ y0 y1 y2, LeO (laws_FnExactCloseOk.j0 k y0 y1 y2) (laws_FnExactCloseOk.j0 (k + 1) y0 y1 y2)) ∧ (∀ y0 y1, LeO (laws_FnExactCloseOk.j1 k y0 y1) (laws_FnExactCloseOk.j1 (k + 1) y0 y1)) ∧ (∀ y0 y1 y2 y3, LeO (laws_FnExactCloseOk.j2 k y0 y1 y2 y3) (laws_FnExactCloseOk.j2 (k + 1) y0 y1 y2 y3)) ∧ (∀ y0 y1, LeO (laws_FnExactCloseOk.j3 k y0 y1) (laws_FnExactCloseOk.j3 (k + 1) y0 y1))
  | 0 => ⟨fun _ _ _ r h => by simp [laws_FnExactCloseOk.j0] at h, fun _ _ r h => by simp [laws_FnExactCloseOk.j1] at h, fun _ _ _ _ r h => by simp [laws_FnExactCloseOk.j2] at h, fun _ _ r h => by simp [laws_FnExactCloseOk.j3] at h⟩
  | k + 1 => by
    obtain ⟨ih0, ih1, ih2, ih3⟩ := laws_FnExactCloseOk.mono_l k; refine ⟨?_, ?_, ?_, ?_⟩
    · intro y0 y1 y2
      unfold laws_FnExactCloseOk.j0
      repeat' first
      | (with_reducible exact ih0 _ _ _)
      | (with_reducible exact ih1 _ _)
      | (with_reducible exact ih2 _ _ _ _)
      | (with_reducible exact ih3 _ _)
      | (with_reducible exact impl_CloseOk.mono _ _ _)
      | (with_reducible exact laws_eqLitS.mono _ _ _)
      | (with_reducible exact laws_eqSymS.mono _ _ _)
      | (with_reducible exact laws_szLitS.mono _ _ _)
      | (with_reducible exact laws_szSymS.mono _ _ _)
      | (with_reducible exact laws_toLitS.mono _ _)
      | (with_reducible exact laws_toSymS.mono _ _)
      | (with_reducible exact spec_CloseOk.mono _ _ _)
      | (with_reducible exact LeO.refl _)
      | (with_reducible exact LeO.none _)
      | (with_reducible refine LeO.ite ?_ ?_)
      | (with_reducible refine LeO.bind ?_ (fun _ => ?_))
      | exact ih0 _ _ _
      | exact ih1 _ _
      | exact ih2 _ _ _ _
      | exact ih3 _ _
      | exact impl_CloseOk.mono _ _ _
      | exact laws_eqLitS.mono _ _ _
      | exact laws_eqSymS.mono _ _ _
      | exact laws_szLitS.mono _ _ _
      | exact laws_szSymS.mono _ _ _
      | exact laws_toLitS.mono _ _
      | exact laws_toSymS.mono _ _
      | exact spec_CloseOk.mono _ _ _
      | exact LeO.none _
      | refine LeO.ite ?_ ?_
      | refine LeO.bind ?_ (fun _ => ?_)
    · intro y0 y1
      unfold laws_FnExactCloseOk.j1
      repeat' first
      | (with_reducible exact ih0 _ _ _)
      | (with_reducible exact ih1 _ _)
      | (with_reducible exact ih2 _ _ _ _)
      | (with_reducible exact ih3 _ _)
      | (with_reducible exact impl_CloseOk.mono _ _ _)
      | (with_reducible exact laws_eqLitS.mono _ _ _)
      | (with_reducible exact laws_eqSymS.mono _ _ _)
      | (with_reducible exact laws_szLitS.mono _ _ _)
      | (with_reducible exact laws_szSymS.mono _ _ _)
      | (with_reducible exact laws_toLitS.mono _ _)
      | (with_reducible exact laws_toSymS.mono _ _)
      | (with_reducible exact spec_CloseOk.mono _ _ _)
      | (with_reducible exact LeO.refl _)
      | (with_reducible exact LeO.none _)
      | (with_reducible refine LeO.ite ?_ ?_)
      | (with_reducible refine LeO.bind ?_ (fun _ => ?_))
      | exact ih0 _ _ _
      | exact ih1 _ _
      | exact ih2 _ _ _ _
      | exact ih3 _ _
      | exact impl_CloseOk.mono _ _ _
      | exact laws_eqLitS.mono _ _ _
      | exact laws_eqSymS.mono _ _ _
      | exact laws_szLitS.mono _ _ _
      | exact laws_szSymS.mono _ _ _
      | exact laws_toLitS.mono _ _
      | exact laws_toSymS.mono _ _
      | exact spec_CloseOk.mono _ _ _
      | exact LeO.none _
      | refine LeO.ite ?_ ?_
      | refine LeO.bind ?_ (fun _ => ?_)
    · intro y0 y1 y2 y3
      unfold laws_FnExactCloseOk.j2
      repeat' first
      | (with_reducible exact ih0 _ _ _)
      | (with_reducible exact ih1 _ _)
      | (with_reducible exact ih2 _ _ _ _)
      | (with_reducible exact ih3 _ _)
      | (with_reducible exact impl_CloseOk.mono _ _ _)
      | (with_reducible exact laws_eqLitS.mono _ _ _)
      | (with_reducible exact laws_eqSymS.mono _ _ _)
      | (with_reducible exact laws_szLitS.mono _ _ _)
      | (with_reducible exact laws_szSymS.mono _ _ _)
      | (with_reducible exact laws_toLitS.mono _ _)
      | (with_reducible exact laws_toSymS.mono _ _)
      | (with_reducible exact spec_CloseOk.mono _ _ _)
      | (with_reducible exact LeO.refl _)
      | (with_reducible exact LeO.none _)
      | (with_reducible refine LeO.ite ?_ ?_)
      | (with_reducible refine LeO.bind ?_ (fun _ => ?_))
      | exact ih0 _ _ _
      | exact ih1 _ _
      | exact ih2 _ _ _ _
      | exact ih3 _ _
      | exact impl_CloseOk.mono _ _ _
      | exact laws_eqLitS.mono _ _ _
      | exact laws_eqSymS.mono _ _ _
      | exact laws_szLitS.mono _ _ _
      | exact laws_szSymS.mono _ _ _
      | exact laws_toLitS.mono _ _
      | exact laws_toSymS.mono _ _
      | exact spec_CloseOk.mono _ _ _
      | exact LeO.none _
      | refine LeO.ite ?_ ?_
      | refine LeO.bind ?_ (fun _ => ?_)
    · intro y0 y1
      unfold laws_FnExactCloseOk.j3
      repeat' first
      | (with_reducible exact ih0 _ _ _)
      | (with_reducible exact ih1 _ _)
      | (with_reducible exact ih2 _ _ _ _)
      | (with_reducible exact ih3 _ _)
      | (with_reducible exact impl_CloseOk.mono _ _ _)
      | (with_reducible exact laws_eqLitS.mono _ _ _)
      | (with_reducible exact laws_eqSymS.mono _ _ _)
      | (with_reducible exact laws_szLitS.mono _ _ _)
      | (with_reducible exact laws_szSymS.mono _ _ _)
      | (with_reducible exact laws_toLitS.mono _ _)
      | (with_reducible exact laws_toSymS.mono _ _)
      | (with_reducible exact spec_CloseOk.mono _ _ _)
      | (with_reducible exact LeO.refl _)
      | (with_reducible exact LeO.none _)
      | (with_reducible refine LeO.ite ?_ ?_)
      | (with_reducible refine LeO.bind ?_ (fun _ => ?_))
      | exact ih0 _ _ _
      | exact ih1 _ _
      | exact ih2 _ _ _ _
      | exact ih3 _ _
      | exact impl_CloseOk.mono _ _ _
      | exact laws_eqLitS.mono _ _ _
      | exact laws_eqSymS.mono _ _ _
      | exact laws_szLitS.mono _ _ _
      | exact laws_szSymS.mono _ _ _
      | exact laws_toLitS.mono _ _
      | exact laws_toSymS.mono _ _
      | exact spec_CloseOk.mono _ _ _
      | exact LeO.none _
      | refine LeO.ite ?_ ?_
      | refine LeO.bind ?_ (fun _ => ?_)
theorem laws_FnExactCloseOk.mono : ∀ a0 a1 k, LeO (laws_FnExactCloseOk.f k a0 a1) (laws_FnExactCloseOk.f (k + 1) a0 a1) := by
  intro a0 a1 k; obtain ⟨ih0, ih1, ih2, ih3⟩ := laws_FnExactCloseOk.mono_l k
  unfold laws_FnExactCloseOk.f
  repeat' first
      | (with_reducible exact ih0 _ _ _)
      | (with_reducible exact ih1 _ _)
      | (with_reducible exact ih2 _ _ _ _)
      | (with_reducible exact ih3 _ _)
      | (with_reducible exact impl_CloseOk.mono _ _ _)
      | (with_reducible exact laws_eqLitS.mono _ _ _)
      | (with_reducible exact laws_eqSymS.mono _ _ _)
      | (with_reducible exact laws_szLitS.mono _ _ _)
      | (with_reducible exact laws_szSymS.mono _ _ _)
      | (with_reducible exact laws_toLitS.mono _ _)
      | (with_reducible exact laws_toSymS.mono _ _)
      | (with_reducible exact spec_CloseOk.mono _ _ _)
      | (with_reducible exact LeO.refl _)
      | (with_reducible exact LeO.none _)
      | (with_reducible refine LeO.ite ?_ ?_)
      | (with_reducible refine LeO.bind ?_ (fun _ => ?_))
      | exact ih0 _ _ _
      | exact ih1 _ _
      | exact ih2 _ _ _ _
      | exact ih3 _ _
      | exact impl_CloseOk.mono _ _ _
      | exact laws_eqLitS.mono _ _ _
      | exact laws_eqSymS.mono _ _ _
      | exact laws_szLitS.mono _ _ _
      | exact laws_szSymS.mono _ _ _
      | exact laws_toLitS.mono _ _
      | exact laws_toSymS.mono _ _
      | exact spec_CloseOk.mono _ _ _
      | exact LeO.none _
      | refine LeO.ite ?_ ?_
      | refine LeO.bind ?_ (fun _ => ?_)
set_option maxHeartbeats 8000000 in
set_option maxRecDepth 100000 in
theorem laws_FnExactCloseOk.calls (k : Nat) (A0 : Option Addr) (c0 : Nat) (l0 : List (L_Sym)) (A1 : Option Addr) (c1 : Nat) (l1 : List (L_Lit)) (r : Bool) (w : World) (hr0 : Kd.C k95 w A0 l0.length l0) (hc0 : l0.length ≤ c0) (hr1 : Kd.C k116 w A1 l1.length l1) (hc1 : l1.length ≤ c1) (h : laws_FnExactCloseOk.f k l0 l1 = some r) :
    Calls Try.prog 8 #[.slice A0 l0.length c0, .slice A1 l1.length c1] w fun e w' => e = .returned (.bool r) ∧ Below w.heap.size w w' := by
  have HR0 := Aside0.mk hr0; have HC0 := Aside0.mk hc0; clear hr0 hc0; have HR1 := Aside0.mk hr1; have HC1 := Aside0.mk hc1; clear hr1 hc1; have HB := Aside0.mk (Below.refl w.heap.size w); have H : ((laws_szSymS.f k l0 1048576).bind fun t342 => (if t342 < 0 then (some true) else (laws_FnExactCloseOk.j0 k l0 l1 t342))) = some r := h; clear h; replace H := Option.bind_eq_some_iff.mp H; obtain ⟨t342, A30, H⟩ := H; replace H : (if t342 < 0 then (some true) else (laws_FnExactCloseOk.j0 k l0 l1 t342)) = some r := H; have A3 := Aside0.mk A30; clear A30; have HC4 := Aside0.mk H; clear H
  go_enter Try.func8, Try.ntmps8
  go_upto_if 14 with (first | ((with_reducible refine gate_callee (f := 15) rfl ?_); refine goesM_ (some 12) rfl rfl Try.func15 (by kernel_rfl) rfl #[.slice A0 l0.length c0, .int .i64 1048576] rfl ?_; (with_reducible refine (laws_szSymS.calls k _ _ l0 1048576 t342 _ ?side1 ?side2 A3.out).mono ?_); (case side1 => exact ca_ HR0.out); (case side2 => exact HC0.out); rintro e w5 ⟨rfl, hb⟩; refine ⟨_, rfl, ?_⟩; have n0_ := Aside0.mk (below_step (bl_ HB.out) hb); clear HB; have HB := n0_; clear n0_; (try clear hb); (try clear hb2); (try clear hk); (try clear hi)))
  (try simp only [Act.put, List.setIfInBounds_toArray, List.set_cons_zero, List.set_cons_succ])
  go_cut [] (fun wc => ∃ (kq : Nat), Aside0 (laws_FnExactCloseOk.j0 kq l0 l1 t342 = some r) ∧ Aside0 (kq ≤ k) ∧ Aside0 (Below w.heap.size w wc))
  case first =>
    have H := HC4.out; clear HC4
    by_cases c6 : t342 < 0
    · rw [if_pos c6] at H; have c6b0 := decide_eq_true c6; clear c6; (first | rw [c6b0] | (simp only [i64_w, i32_w]; rw [c6b0]) | (rw [show ∀ x_ y_ : Bool, (!(x_ == y_)) = (x_ != y_) from fun _ _ => rfl, c6b0]) | skip); obtain rfl := Option.some.inj H
      go_wp2
      go_ret
      exact fin_ (bl_ HB.out)
    · rw [if_neg c6] at H; have c6b0 := decide_eq_false c6; clear c6; (first | rw [c6b0] | (simp only [i64_w, i32_w]; rw [c6b0]) | (rw [show ∀ x_ y_ : Bool, (!(x_ == y_)) = (x_ != y_) from fun _ _ => rfl, c6b0]) | skip); have H' := Aside0.mk H; clear H
      go_wp2
      go_meet
      case rel => exact ⟨_, H', ⟨by first | omega | exact Nat.le_refl _⟩, ⟨by repeat (first | (with_reducible first | exact HB.out | apply below_alloc | apply pw_below_drewN | apply below_drew1) | exact HB.out)⟩⟩
  case rest =>
    clear HC4; (try clear c1); (try clear p2); (try clear c6); (try clear c6b0); obtain ⟨kq, HA, HJ3, HB⟩ := hcut
    cases kq with
    | zero => exact absurd HA.out (by simp [laws_FnExactCloseOk.j0])
    | succ kj3 =>
      have H := HA.out; clear HA
      simp only [laws_FnExactCloseOk.j0] at H
      replace H := Option.bind_eq_some_iff.mp H; obtain ⟨t343, A70, H⟩ := H; replace H : (if t343 < 0 then (some true) else (laws_FnExactCloseOk.j1 kj3 l0 l1)) = some r := H; have A7 := Aside0.mk A70; clear A70; have HC8 := Aside0.mk H; clear H
      go_upto_if 19 with (first | ((with_reducible refine gate_callee (f := 35) rfl ?_); refine goesM_ (some 17) rfl rfl Try.func35 (by kernel_rfl) rfl #[.slice A1 l1.length c1, .int .i64 t342] rfl ?_; (with_reducible refine (laws_szLitS.calls kj3 _ _ l1 t342 t343 _ ?side1 ?side2 A7.out).mono ?_); (case side1 => exact cb_ HR1.out HB.out); (case side2 => exact HC1.out); rintro e w9 ⟨rfl, hb⟩; refine ⟨_, rfl, ?_⟩; have n0_ := Aside0.mk (below_step (bl_ HB.out) hb); clear HB; have HB := n0_; clear n0_; (try clear hb); (try clear hb2); (try clear hk); (try clear hi)))
      (try simp only [Act.put, List.setIfInBounds_toArray, List.set_cons_zero, List.set_cons_succ])
      go_cut [] (fun wc => ∃ (kq : Nat), Aside0 (laws_FnExactCloseOk.j1 kq l0 l1 = some r) ∧ Aside0 (kq ≤ kj3) ∧ Aside0 (Below w.heap.size w wc))
      case first =>
        have H := HC8.out; clear HC8
        by_cases c10 : t343 < 0
        · rw [if_pos c10] at H; have c10b0 := decide_eq_true c10; clear c10; (first | rw [c10b0] | (simp only [i64_w, i32_w]; rw [c10b0]) | (rw [show ∀ x_ y_ : Bool, (!(x_ == y_)) = (x_ != y_) from fun _ _ => rfl, c10b0]) | skip); obtain rfl := Option.some.inj H
          go_wp2
          go_ret
          exact fin_ (bl_ HB.out)
        · rw [if_neg c10] at H; have c10b0 := decide_eq_false c10; clear c10; (first | rw [c10b0] | (simp only [i64_w, i32_w]; rw [c10b0]) | (rw [show ∀ x_ y_ : Bool, (!(x_ == y_)) = (x_ != y_) from fun _ _ => rfl, c10b0]) | skip); have H' := Aside0.mk H; clear H
          go_wp2
          go_meet
          case rel => exact ⟨_, H', ⟨by have := HJ3.out; first | omega | exact Nat.le_refl _⟩, ⟨by repeat (first | (with_reducible first | exact HB.out | apply below_alloc | apply pw_below_drewN | apply below_drew1) | exact HB.out)⟩⟩
      case rest =>
        clear HC8; (try clear c1); (try clear p2); (try clear c3); (try clear c6); (try clear c6b0); (try clear c8); (try clear c10); (try clear c10b0); (try clear p2); obtain ⟨kq, HA, HJ7, HB⟩ := hcut
        cases kq with
        | zero => exact absurd HA.out (by simp [laws_FnExactCloseOk.j1])
        | succ kj7 =>
          have H := HA.out; clear HA
          simp only [laws_FnExactCloseOk.j1] at H
          replace H := Option.bind_eq_some_iff.mp H; obtain ⟨t344, A110, H⟩ := H; replace H : ((laws_toLitS.f kj7 l1).bind fun t347 => ((spec_CloseOk.f kj7 t344 t347).bind fun t350 => ((laws_toSymS.f kj7 l0).bind fun t351 => ((laws_toLitS.f kj7 l1).bind fun t354 => ((impl_CloseOk.f kj7 t351 t354).bind fun t357 => (if (t357 != t350) = true then (some false) else (laws_FnExactCloseOk.j2 kj7 l0 l1 t351 t354))))))) = some r := H; have A11 := Aside0.mk A110; clear A110; replace H := Option.bind_eq_some_iff.mp H; obtain ⟨t347, A120, H⟩ := H; replace H : ((spec_CloseOk.f kj7 t344 t347).bind fun t350 => ((laws_toSymS.f kj7 l0).bind fun t351 => ((laws_toLitS.f kj7 l1).bind fun t354 => ((impl_CloseOk.f kj7 t351 t354).bind fun t357 => (if (t357 != t350) = true then (some false) else (laws_FnExactCloseOk.j2 kj7 l0 l1 t351 t354)))))) = some r := H; have A12 := Aside0.mk A120; clear A120; replace H := Option.bind_eq_some_iff.mp H; obtain ⟨t350, A130, H⟩ := H; replace H : ((laws_toSymS.f kj7 l0).bind fun t351 => ((laws_toLitS.f kj7 l1).bind fun t354 => ((impl_CloseOk.f kj7 t351 t354).bind fun t357 => (if (t357 != t350) = true then (some false) else (laws_FnExactCloseOk.j2 kj7 l0 l1 t351 t354))))) = some r := H; have A13 := Aside0.mk A130; clear A130; replace H := Option.bind_eq_some_iff.mp H; obtain ⟨t351, A140, H⟩ := H; replace H : ((laws_toLitS.f kj7 l1).bind fun t354 => ((impl_CloseOk.f kj7 t351 t354).bind fun t357 => (if (t357 != t350) = true then (some false) else (laws_FnExactCloseOk.j2 kj7 l0 l1 t351 t354)))) = some r := H; have A14 := Aside0.mk A140; clear A140; replace H := Option.bind_eq_some_iff.mp H; obtain ⟨t354, A150, H⟩ := H; replace H : ((impl_CloseOk.f kj7 t351 t354).bind fun t357 => (if (t357 != t350) = true then (some false) else (laws_FnExactCloseOk.j2 kj7 l0 l1 t351 t354))) = some r := H; have A15 := Aside0.mk A150; clear A150; replace H := Option.bind_eq_some_iff.mp H; obtain ⟨t357, A160, H⟩ := H; replace H : (if (t357 != t350) = true then (some false) else (laws_FnExactCloseOk.j2 kj7 l0 l1 t351 t354)) = some r := H; have A16 := Aside0.mk A160; clear A160; have HC17 := Aside0.mk H; clear H
          go_upto_if 34 with (first | ((with_reducible refine gate_callee (f := 18) rfl ?_); refine goesM_ (some 21) rfl rfl Try.func18 (by kernel_rfl) rfl #[.slice A0 l0.length c0] rfl ?_; (with_reducible refine (laws_toSymS.calls kj7 _ _ l0 t344 _ ?side1 ?side2 A11.out).mono ?_); (case side1 => exact cb_ HR0.out HB.out); (case side2 => exact HC0.out); rintro e w18 ⟨v345, rfl, ho0, hb⟩; refine ⟨_, rfl, ?_⟩; have n0_ := Aside0.mk (Kd.R_lower ho0 (below_size (bl_ HB.out))); have n1_ := Aside0.mk (below_step (bl_ HB.out) hb); clear HB; have HO346 := n0_; have HB := n1_; clear n0_ n1_; (try clear hb); (try clear hb2); (try clear hk); (try clear hi); (try clear ho0)) | ((with_reducible refine gate_callee (f := 37) rfl ?_); refine goesM_ (some 23) rfl rfl Try.func37 (by kernel_rfl) rfl #[.slice A1 l1.length c1] rfl ?_; (with_reducible refine (laws_toLitS.calls kj7 _ _ l1 t347 _ ?side1 ?side2 A12.out).mono ?_); (case side1 => exact cb_ HR1.out HB.out); (case side2 => exact HC1.out); rintro e w19 ⟨v348, rfl, ho0, hb⟩; refine ⟨_, rfl, ?_⟩; have n0_ := Aside0.mk (Kd.R_below (ra_ HO346.out) hb); have n1_ := Aside0.mk (Kd.R_lower ho0 (below_size (bl_ HB.out))); have n2_ := Aside0.mk (below_step (bl_ HB.out) hb); clear HO346; clear HB; have HO346 := n0_; have HO349 := n1_; have HB := n2_; clear n0_ n1_ n2_; (try clear hb); (try clear hb2); (try clear hk); (try clear hi); (try clear ho0); obtain ⟨Ao20, co20, eo20⟩ := Kd.R_slice HO346.out; subst eo20; obtain ⟨Ao21, co21, eo21⟩ := Kd.R_slice HO349.out; subst eo21) | ((with_reducible refine gate_callee (f := 45) rfl ?_); refine goesM_ (some 24) rfl rfl Try.func45 (by kernel_rfl) rfl #[.slice Ao20 t344.length co20, .slice Ao21 t347.length co21] rfl ?_; (with_reducible refine (spec_CloseOk.calls kj7 _ _ t344 _ _ t347 t350 _ ?side1 ?side2 ?side3 ?side4 A13.out).mono ?_); (case side1 => exact ca_ (Kd.R_reads' HO346.out).2.2); (case side2 => exact (Kd.R_reads' HO346.out).2.1); (case side3 => exact ca_ (Kd.R_reads' HO349.out).2.2); (case side4 => exact (Kd.R_reads' HO349.out).2.1); rintro e w22 ⟨rfl, hb⟩; refine ⟨_, rfl, ?_⟩; have n0_ := Aside0.mk (Kd.R_below (ra_ HO346.out) hb); have n1_ := Aside0.mk (Kd.R_below (ra_ HO349.out) hb); have n2_ := Aside0.mk (below_step (bl_ HB.out) hb); clear HO346; clear HO349; clear HB; have HO346 := n0_; have HO349 := n1_; have HB := n2_; clear n0_ n1_ n2_; (try clear hb); (try clear hb2); (try clear hk); (try clear hi)) | ((with_reducible refine gate_callee (f := 18) rfl ?_); refine goesM_ (some 26) rfl rfl Try.func18 (by kernel_rfl) rfl #[.slice A0 l0.length c0] rfl ?_; (with_reducible refine (laws_toSymS.calls kj7 _ _ l0 t351 _ ?side1 ?side2 A14.out).mono ?_); (case side1 => exact cb_ HR0.out HB.out); (case side2 => exact HC0.out); rintro e w23 ⟨v352, rfl, ho0, hb⟩; refine ⟨_, rfl, ?_⟩; have n0_ := Aside0.mk (Kd.R_elder' (ra_ HO346.out) (Kd.R_base ho0) hb); have n1_ := Aside0.mk (Kd.R_below (ra_ HO349.out) hb); have n2_ := Aside0.mk (Kd.R_lower (Kd.R_new' ho0 (Kd.R_lt (ra_ HO346.out))) (below_size (bl_ HB.out))); have n3_ := Aside0.mk (below_step (bl_ HB.out) hb); clear HO346; clear HO349; clear HB; have HO346 := n0_; have HO349 := n1_; have HO353 := n2_; have HB := n3_; clear n0_ n1_ n2_ n3_; (try clear hb); (try clear hb2); (try clear hk); (try clear hi); (try clear ho0)) | ((with_reducible refine gate_callee (f := 37) rfl ?_); refine goesM_ (some 28) rfl rfl Try.func37 (by kernel_rfl) rfl #[.slice A1 l1.length c1] rfl ?_; (with_reducible refine (laws_toLitS.calls kj7 _ _ l1 t354 _ ?side1 ?side2 A15.out).mono ?_); (case side1 => exact cb_ HR1.out HB.out); (case side2 => exact HC1.out); rintro e w24 ⟨v355, rfl, ho0, hb⟩; refine ⟨_, rfl, ?_⟩; have n0_ := Aside0.mk (Kd.R_below (ra_ HO346.out) hb); have n1_ := Aside0.mk (Kd.R_elder' (ra_ HO349.out) (Kd.R_base ho0) hb); have n2_ := Aside0.mk (Kd.R_below (ra_ HO353.out) hb); have n3_ := Aside0.mk (Kd.R_lower (Kd.R_new' ho0 (Kd.R_lt (ra_ HO349.out))) (below_size (bl_ HB.out))); have n4_ := Aside0.mk (below_step (bl_ HB.out) hb); clear HO346; clear HO349; clear HO353; clear HB; have HO346 := n0_; have HO349 := n1_; have HO353 := n2_; have HO356 := n3_; have HB := n4_; clear n0_ n1_ n2_ n3_ n4_; (try clear hb); (try clear hb2); (try clear hk); (try clear hi); (try clear ho0); obtain ⟨Ao25, co25, eo25⟩ := Kd.R_slice HO353.out; subst eo25; obtain ⟨Ao26, co26, eo26⟩ := Kd.R_slice HO356.out; subst eo26) | ((with_reducible refine gate_callee (f := 46) rfl ?_); refine goesM_ (some 31) rfl rfl Try.func46 (by kernel_rfl) rfl #[.slice Ao25 t351.length co25, .slice Ao26 t354.length co26] rfl ?_; (with_reducible refine (impl_CloseOk.calls kj7 _ _ t351 _ _ t354 t357 _ ?side1 ?side2 ?side3 ?side4 A16.out).mono ?_); (case side1 => exact ca_ (Kd.R_reads' HO353.out).2.2); (case side2 => exact (Kd.R_reads' HO353.out).2.1); (case side3 => exact ca_ (Kd.R_reads' HO356.out).2.2); (case side4 => exact (Kd.R_reads' HO356.out).2.1); rintro e w27 ⟨rfl, hb⟩; refine ⟨_, rfl, ?_⟩; have n0_ := Aside0.mk (Kd.R_below (ra_ HO346.out) hb); have n1_ := Aside0.mk (Kd.R_below (ra_ HO349.out) hb); have n2_ := Aside0.mk (Kd.R_below (ra_ HO353.out) hb); have n3_ := Aside0.mk (Kd.R_below (ra_ HO356.out) hb); have n4_ := Aside0.mk (below_step (bl_ HB.out) hb); clear HO346; clear HO349; clear HO353; clear HO356; clear HB; have HO346 := n0_; have HO349 := n1_; have HO353 := n2_; have HO356 := n3_; have HB := n4_; clear n0_ n1_ n2_ n3_ n4_; (try clear hb); (try clear hb2); (try clear hk); (try clear hi)))
          (try simp only [Act.put, List.setIfInBounds_toArray, List.set_cons_zero, List.set_cons_succ])
          go_cut [] (fun wc => ∃ (kq : Nat), Aside0 (laws_FnExactCloseOk.j2 kq l0 l1 t351 t354 = some r) ∧ Aside0 (kq ≤ kj7) ∧ Aside0 (Kd.R k99 99 wc w.heap.size (fun _ => True) (.slice Ao25 t351.length co25) t351) ∧ Aside0 (Kd.R k119 119 wc w.heap.size (fun _ => True) (.slice Ao26 t354.length co26) t354) ∧ Aside0 (Below w.heap.size w wc))
          case first =>
            have H := HC17.out; clear HC17
            by_cases c28 : (t357 != t350) = true
            · rw [if_pos c28] at H; have c28b0 : (t357 != t350) = true := c28; (try (have c28b1 : decide (t357 = t350) = false := by simpa using c28)); (try (have c28b2 : (t357 == t350) = false := by simpa using c28)); (try (have c28b3 : (!(t357 == t350)) = true := by simpa using c28)); (try (have c28b4 : ¬ (t357 = t350) := by simpa using c28)); clear c28; (first | rw [c28b0] | (simp only [i64_w, i32_w]; rw [c28b0]) | (rw [show ∀ x_ y_ : Bool, (!(x_ == y_)) = (x_ != y_) from fun _ _ => rfl, c28b0]) | skip); obtain rfl := Option.some.inj H
              go_wp2
              go_ret
              exact fin_ (bl_ HB.out)
            · rw [if_neg c28] at H; have c28b0 : (t357 != t350) = false := by simpa using c28
              (try (have c28b1 : decide (t357 = t350) = true := by simpa using c28)); (try (have c28b2 : (t357 == t350) = true := by simpa using c28)); (try (have c28b3 : (!(t357 == t350)) = false := by simpa using c28)); clear c28; (first | rw [c28b0] | (simp only [i64_w, i32_w]; rw [c28b0]) | (rw [show ∀ x_ y_ : Bool, (!(x_ == y_)) = (x_ != y_) from fun _ _ => rfl, c28b0]) | skip); have H' := Aside0.mk H; clear H
              go_wp2
              go_meet
              case rel => exact ⟨_, H', ⟨by have := HJ3.out; have := HJ7.out; first | omega | exact Nat.le_refl _⟩, ⟨by (with_reducible repeat (first | apply Kd.R_alloc | apply Kd.R_drewN | apply Kd.R_drew)); exact Kd.R_mono HO353.out (fun _ hk => trivial)⟩, ⟨by (with_reducible repeat (first | apply Kd.R_alloc | apply Kd.R_drewN | apply Kd.R_drew)); exact Kd.R_mono HO356.out (fun _ hk => trivial)⟩, ⟨by repeat (first | (with_reducible first | exact HB.out | apply below_alloc | apply pw_below_drewN | apply below_drew1) | exact HB.out)⟩⟩
          case rest =>
            clear HC17; (try clear c1); (try clear c2); (try clear p2); (try clear c3); (try clear c4); (try clear c6); (try clear c6b0); (try clear c8); (try clear c10); (try clear c10b0); (try clear c15); (try clear c18); (try clear c28); (try clear c28b0); (try clear c28b1); (try clear c28b2); (try clear p2); obtain ⟨kq, HA, HJ16, HO_7, HO_8, HB⟩ := hcut
            cases kq with
            | zero => exact absurd HA.out (by simp [laws_FnExactCloseOk.j2])
            | succ kj16 =>
              have H := HA.out; clear HA
              simp only [laws_FnExactCloseOk.j2] at H
              replace H := Option.bind_eq_some_iff.mp H; obtain ⟨t358, A290, H⟩ := H; replace H : ((laws_eqSymS.f kj16 t351 t358).bind fun t361 => (if t361 = true then (laws_FnExactCloseOk.j3 kj16 l1 t354) else (some false))) = some r := H; have A29 := Aside0.mk A290; clear A290; replace H := Option.bind_eq_some_iff.mp H; obtain ⟨t361, A300, H⟩ := H; replace H : (if t361 = true then (laws_FnExactCloseOk.j3 kj16 l1 t354) else (some false)) = some r := H; have A30 := Aside0.mk A300; clear A300; have HC31 := Aside0.mk H; clear H
              go_upto_if 39 with (first | ((with_reducible refine gate_callee (f := 18) rfl ?_); refine goesM_ (some 37) rfl rfl Try.func18 (by kernel_rfl) rfl #[.slice A0 l0.length c0] rfl ?_; (with_reducible refine (laws_toSymS.calls kj16 _ _ l0 t358 _ ?side1 ?side2 A29.out).mono ?_); (case side1 => exact cb_ HR0.out HB.out); (case side2 => exact HC0.out); rintro e w32 ⟨v359, rfl, ho0, hb⟩; refine ⟨_, rfl, ?_⟩; have n0_ := Aside0.mk (Kd.R_elder' (ra_ HO_7.out) (Kd.R_base ho0) hb); have n1_ := Aside0.mk (Kd.R_below (ra_ HO_8.out) hb); have n2_ := Aside0.mk (Kd.R_lower (Kd.R_new' ho0 (Kd.R_lt (ra_ HO_7.out))) (below_size (bl_ HB.out))); have n3_ := Aside0.mk (below_step (bl_ HB.out) hb); clear HO_7; clear HO_8; clear HB; have HO_7 := n0_; have HO_8 := n1_; have HO360 := n2_; have HB := n3_; clear n0_ n1_ n2_ n3_; (try clear hb); (try clear hb2); (try clear hk); (try clear hi); (try clear ho0); obtain ⟨Ao33, co33, eo33⟩ := Kd.R_slice HO360.out; subst eo33) | ((with_reducible refine gate_callee (f := 21) rfl ?_); refine goesM_ (some 38) rfl rfl Try.func21 (by kernel_rfl) rfl #[.slice Ao25 t351.length co25, .slice Ao33 t358.length co33] rfl ?_; (with_reducible refine (laws_eqSymS.calls kj16 _ _ t351 _ _ t358 t361 _ ?side1 ?side2 ?side3 ?side4 A30.out).mono ?_); (case side1 => exact ca_ (Kd.R_reads' HO_7.out).2.2); (case side2 => exact (Kd.R_reads' HO_7.out).2.1); (case side3 => exact ca_ (Kd.R_reads' HO360.out).2.2); (case side4 => exact (Kd.R_reads' HO360.out).2.1); rintro e w34 ⟨rfl, hb⟩; refine ⟨_, rfl, ?_⟩; have n0_ := Aside0.mk (Kd.R_below (ra_ HO_7.out) hb); have n1_ := Aside0.mk (Kd.R_below (ra_ HO_8.out) hb); have n2_ := Aside0.mk (Kd.R_below (ra_ HO360.out) hb); have n3_ := Aside0.mk (below_step (bl_ HB.out) hb); clear HO_7; clear HO_8; clear HO360; clear HB; have HO_7 := n0_; have HO_8 := n1_; have HO360 := n2_; have HB := n3_; clear n0_ n1_ n2_ n3_; (try clear hb); (try clear hb2); (try clear hk); (try clear hi)))
              (try simp only [Act.put, List.setIfInBounds_toArray, List.set_cons_zero, List.set_cons_succ])
              go_cut [] (fun wc => ∃ (kq : Nat), Aside0 (laws_FnExactCloseOk.j3 kq l1 t354 = some r) ∧ Aside0 (kq ≤ kj16) ∧ Aside0 (Kd.R k119 119 wc w.heap.size (fun _ => True) (.slice Ao26 t354.length co26) t354) ∧ Aside0 (Below w.heap.size w wc))
              case first =>
                have H := HC31.out; clear HC31
                by_cases c35 : t361 = true
                · subst c35; rw [if_pos rfl] at H; have H' := Aside0.mk H; clear H
                  go_wp2
                  go_meet
                  case rel => exact ⟨_, H', ⟨by have := HJ3.out; have := HJ7.out; have := HJ16.out; first | omega | exact Nat.le_refl _⟩, ⟨by (with_reducible repeat (first | apply Kd.R_alloc | apply Kd.R_drewN | apply Kd.R_drew)); exact HO_8.out⟩, ⟨by repeat (first | (with_reducible first | exact HB.out | apply below_alloc | apply pw_below_drewN | apply below_drew1) | exact HB.out)⟩⟩
                · replace c35 := Bool.eq_false_iff.mpr c35; subst c35; rw [if_neg (show ¬ (false = true) by decide)] at H; obtain rfl := Option.some.inj H
                  go_wp2
                  go_ret
                  exact fin_ (bl_ HB.out)
              case rest =>
                clear HC31; (try clear c1); (try clear c2); (try clear p2); (try clear c3); (try clear c4); (try clear c6); (try clear c6b0); (try clear c8); (try clear c10); (try clear c10b0); (try clear c15); (try clear c18); (try clear c21); (try clear c28); (try clear c28b0); (try clear c28b1); (try clear c28b2); (try clear c35); (try clear p2); obtain ⟨kq, HA, HJ30, HO_8, HB⟩ := hcut
                cases kq with
                | zero => exact absurd HA.out (by simp [laws_FnExactCloseOk.j3])
                | succ kj30 =>
                  have H := HA.out; clear HA
                  simp only [laws_FnExactCloseOk.j3] at H
                  replace H := Option.bind_eq_some_iff.mp H; obtain ⟨t362, A360, H⟩ := H; replace H : ((laws_eqLitS.f kj30 t354 t362).bind fun t365 => (if t365 = true then (some true) else (some false))) = some r := H; have A36 := Aside0.mk A360; clear A360; replace H := Option.bind_eq_some_iff.mp H; obtain ⟨t365, A370, H⟩ := H; replace H : (if t365 = true then (some true) else (some false)) = some r := H; have A37 := Aside0.mk A370; clear A370
                  by_cases c38 : t365 = true
                  · subst c38; rw [if_pos rfl] at H; obtain rfl := Option.some.inj H
                    go_wp2_with (first | ((with_reducible refine gate_callee (f := 37) rfl ?_); refine goesM_ (some 42) rfl rfl Try.func37 (by kernel_rfl) rfl #[.slice A1 l1.length c1] rfl ?_; (with_reducible refine (laws_toLitS.calls kj30 _ _ l1 t362 _ ?side1 ?side2 A36.out).mono ?_); (case side1 => exact cb_ HR1.out HB.out); (case side2 => exact HC1.out); rintro e w39 ⟨v363, rfl, ho0, hb⟩; refine ⟨_, rfl, ?_⟩; have n0_ := Aside0.mk (Kd.R_elder' (ra_ HO_8.out) (Kd.R_base ho0) hb); have n1_ := Aside0.mk (Kd.R_lower (Kd.R_new' ho0 (Kd.R_lt (ra_ HO_8.out))) (below_size (bl_ HB.out))); have n2_ := Aside0.mk (below_step (bl_ HB.out) hb); clear HO_8; clear HB; have HO_8 := n0_; have HO364 := n1_; have HB := n2_; clear n0_ n1_ n2_; (try clear hb); (try clear hb2); (try clear hk); (try clear hi); (try clear ho0); obtain ⟨Ao40, co40, eo40⟩ := Kd.R_slice HO364.out; subst eo40) | ((with_reducible refine gate_callee (f := 40) rfl ?_); refine goesM_ (some 43) rfl rfl Try.func40 (by kernel_rfl) rfl #[.slice Ao26 t354.length co26, .slice Ao40 t362.length co40] rfl ?_; (with_reducible refine (laws_eqLitS.calls kj30 _ _ t354 _ _ t362 true _ ?side1 ?side2 ?side3 ?side4 A37.out).mono ?_); (case side1 => exact ca_ (Kd.R_reads' HO_8.out).2.2); (case side2 => exact (Kd.R_reads' HO_8.out).2.1); (case side3 => exact ca_ (Kd.R_reads' HO364.out).2.2); (case side4 => exact (Kd.R_reads' HO364.out).2.1); rintro e w41 ⟨rfl, hb⟩; refine ⟨_, rfl, ?_⟩; have n0_ := Aside0.mk (Kd.R_below (ra_ HO_8.out) hb); have n1_ := Aside0.mk (Kd.R_below (ra_ HO364.out) hb); have n2_ := Aside0.mk (below_step (bl_ HB.out) hb); clear HO_8; clear HO364; clear HB; have HO_8 := n0_; have HO364 := n1_; have HB := n2_; clear n0_ n1_ n2_; (try clear hb); (try clear hb2); (try clear hk); (try clear hi)))
                    go_ret
                    exact fin_ (bl_ HB.out)
                  · replace c38 := Bool.eq_false_iff.mpr c38; subst c38; rw [if_neg (show ¬ (false = true) by decide)] at H; obtain rfl := Option.some.inj H
                    go_wp2_with (first | ((with_reducible refine gate_callee (f := 37) rfl ?_); refine goesM_ (some 42) rfl rfl Try.func37 (by kernel_rfl) rfl #[.slice A1 l1.length c1] rfl ?_; (with_reducible refine (laws_toLitS.calls kj30 _ _ l1 t362 _ ?side1 ?side2 A36.out).mono ?_); (case side1 => exact cb_ HR1.out HB.out); (case side2 => exact HC1.out); rintro e w42 ⟨v363, rfl, ho0, hb⟩; refine ⟨_, rfl, ?_⟩; have n0_ := Aside0.mk (Kd.R_elder' (ra_ HO_8.out) (Kd.R_base ho0) hb); have n1_ := Aside0.mk (Kd.R_lower (Kd.R_new' ho0 (Kd.R_lt (ra_ HO_8.out))) (below_size (bl_ HB.out))); have n2_ := Aside0.mk (below_step (bl_ HB.out) hb); clear HO_8; clear HB; have HO_8 := n0_; have HO364 := n1_; have HB := n2_; clear n0_ n1_ n2_; (try clear hb); (try clear hb2); (try clear hk); (try clear hi); (try clear ho0); obtain ⟨Ao43, co43, eo43⟩ := Kd.R_slice HO364.out; subst eo43) | ((with_reducible refine gate_callee (f := 40) rfl ?_); refine goesM_ (some 43) rfl rfl Try.func40 (by kernel_rfl) rfl #[.slice Ao26 t354.length co26, .slice Ao43 t362.length co43] rfl ?_; (with_reducible refine (laws_eqLitS.calls kj30 _ _ t354 _ _ t362 false _ ?side1 ?side2 ?side3 ?side4 A37.out).mono ?_); (case side1 => exact ca_ (Kd.R_reads' HO_8.out).2.2); (case side2 => exact (Kd.R_reads' HO_8.out).2.1); (case side3 => exact ca_ (Kd.R_reads' HO364.out).2.2); (case side4 => exact (Kd.R_reads' HO364.out).2.1); rintro e w44 ⟨rfl, hb⟩; refine ⟨_, rfl, ?_⟩; have n0_ := Aside0.mk (Kd.R_below (ra_ HO_8.out) hb); have n1_ := Aside0.mk (Kd.R_below (ra_ HO364.out) hb); have n2_ := Aside0.mk (below_step (bl_ HB.out) hb); clear HO_8; clear HO364; clear HB; have HO_8 := n0_; have HO364 := n1_; have HB := n2_; clear n0_ n1_ n2_; (try clear hb); (try clear hb2); (try clear hk); (try clear hi)))
                    go_ret
                    exact fin_ (bl_ HB.out)

open Go.Proofs.Ytcboagkbcoihjaa.XOpens in
def Wf_L_Sym (x : L_Sym) : Prop := x.f0.size ≤ maxLen ∧ (Lit.int .i64 x.f1).wf = true ∧ True

open Go.Proofs.Ytcboagkbcoihjaa.XOpens in
theorem opens_L_Sym {H : Type} {enc : TypeId × Value → H} {w : World} (n : Nat) : Opens enc Try.prog w 95 k95 Wf_L_Sym n := by
  induction n using Nat.strongRecOn with
  | _ n ih =>
  intro cs x h
  obtain ⟨xs, m, rfl, _, hl, hxl, hf⟩ := DataW.trod_struct Try.underlying95 h
  rw [show Try.prog.cellsOf 95 = 3 from by kernel_rfl] at hl
  have g0 : DataW.trod enc Try.prog w 0 (fun _ => true) true m 9 (List.take (Try.prog.cellsOf 9) (List.drop 0 cs)) = xs[0]? := hf 0 _ rfl
  rw [List.getElem?_eq_getElem (show 0 < xs.length by rw [hxl]; simp)] at g0
  rw [show Try.prog.cellsOf 9 = 1 from by kernel_rfl] at g0
  obtain ⟨a0, k0_, w0⟩ := ((opens_string Try.underlying9) : Opens enc Try.prog w 9 Kd.string (fun a => a.size ≤ maxLen) m) _ _ g0
  have e0 : (cs.drop 0).take 1 = [.string a0] := k0_
  have g1 : DataW.trod enc Try.prog w 0 (fun _ => true) true m 3 (List.take (Try.prog.cellsOf 3) (List.drop 1 cs)) = xs[1]? := hf 1 _ rfl
  rw [List.getElem?_eq_getElem (show 1 < xs.length by rw [hxl]; simp)] at g1
  rw [show Try.prog.cellsOf 3 = 1 from by kernel_rfl] at g1
  obtain ⟨a1, k1_, w1⟩ := ((opens_int Try.underlying3) : Opens enc Try.prog w 3 (Kd.int .i64) (fun a => (Lit.int .i64 a).wf = true) m) _ _ g1
  have e1 : (cs.drop 1).take 1 = [.int .i64 a1] := k1_
  have g2 : DataW.trod enc Try.prog w 0 (fun _ => true) true m 4 (List.take (Try.prog.cellsOf 4) (List.drop 2 cs)) = xs[2]? := hf 2 _ rfl
  rw [List.getElem?_eq_getElem (show 2 < xs.length by rw [hxl]; simp)] at g2
  rw [show Try.prog.cellsOf 4 = 1 from by kernel_rfl] at g2
  obtain ⟨a2, k2_, w2⟩ := ((opens_bool Try.underlying4) : Opens enc Try.prog w 4 Kd.bool (fun a => True) m) _ _ g2
  have e2 : (cs.drop 2).take 1 = [.bool a2] := k2_
  have hc := (List.drop_zero (l := cs)).symm.trans ((show cs.drop 0 = (cs.drop 0).take 1 ++ cs.drop 1 from seg_split cs 0 1).trans (congrArg ((cs.drop 0).take 1 ++ ·) ((show cs.drop 1 = (cs.drop 1).take 1 ++ cs.drop 2 from seg_split cs 1 1).trans (congrArg ((cs.drop 1).take 1 ++ ·) ((show cs.drop 2 = (cs.drop 2).take 1 ++ cs.drop 3 from seg_split cs 2 1).trans (congrArg ((cs.drop 2).take 1 ++ ·) (seg_end cs 3 hl)))))))
  rw [e0, e1, e2] at hc
  simp only [List.cons_append, List.nil_append, List.append_nil] at hc
  exact ⟨⟨a0, a1, a2⟩, by rw [hc]; exact k95_mk w ⟨a0, a1, a2⟩ , ⟨w0, w1, w2⟩⟩

open Go.Proofs.Ytcboagkbcoihjaa.XOpens in
inductive Wf_L_Term : L_Term → Prop
  | mk (x : L_Term) (h0 : (Lit.int .i64 x.f0).wf = true) (h1 : (Lit.int .i64 x.f1).wf = true) (h2 : x.f2.length ≤ maxLen) (g2 : ∀ y ∈ x.f2, Wf_L_Term y) : Wf_L_Term x

open Go.Proofs.Ytcboagkbcoihjaa.XOpens in
theorem opens_L_Term {H : Type} {enc : TypeId × Value → H} {w : World} (n : Nat) : Opens enc Try.prog w 25 k25 Wf_L_Term n := by
  induction n using Nat.strongRecOn with
  | _ n ih =>
  intro cs x h
  obtain ⟨xs, m, rfl, _, hl, hxl, hf⟩ := DataW.trod_struct Try.underlying25 h
  rw [show Try.prog.cellsOf 25 = 3 from by kernel_rfl] at hl
  have g0 : DataW.trod enc Try.prog w 0 (fun _ => true) true m 3 (List.take (Try.prog.cellsOf 3) (List.drop 0 cs)) = xs[0]? := hf 0 _ rfl
  rw [List.getElem?_eq_getElem (show 0 < xs.length by rw [hxl]; simp)] at g0
  rw [show Try.prog.cellsOf 3 = 1 from by kernel_rfl] at g0
  obtain ⟨a0, k0_, w0⟩ := ((opens_int Try.underlying3) : Opens enc Try.prog w 3 (Kd.int .i64) (fun a => (Lit.int .i64 a).wf = true) m) _ _ g0
  have e0 : (cs.drop 0).take 1 = [.int .i64 a0] := k0_
  have g1 : DataW.trod enc Try.prog w 0 (fun _ => true) true m 3 (List.take (Try.prog.cellsOf 3) (List.drop 1 cs)) = xs[1]? := hf 1 _ rfl
  rw [List.getElem?_eq_getElem (show 1 < xs.length by rw [hxl]; simp)] at g1
  rw [show Try.prog.cellsOf 3 = 1 from by kernel_rfl] at g1
  obtain ⟨a1, k1_, w1⟩ := ((opens_int Try.underlying3) : Opens enc Try.prog w 3 (Kd.int .i64) (fun a => (Lit.int .i64 a).wf = true) m) _ _ g1
  have e1 : (cs.drop 1).take 1 = [.int .i64 a1] := k1_
  have g2 : DataW.trod enc Try.prog w 0 (fun _ => true) true m 23 (List.take (Try.prog.cellsOf 23) (List.drop 2 cs)) = xs[2]? := hf 2 _ rfl
  rw [List.getElem?_eq_getElem (show 2 < xs.length by rw [hxl]; simp)] at g2
  rw [show Try.prog.cellsOf 23 = 1 from by kernel_rfl] at g2
  obtain ⟨a2, k2_, w2⟩ := ((opens_slice Try.underlying23 (by kernel_rfl) (fun m_ hm_ => (ih m_ (by omega)))) : Opens enc Try.prog w 23 (Kd.slice 25 k25) (fun a => (a.length ≤ maxLen ∧ ∀ y ∈ a, Wf_L_Term y)) m) _ _ g2
  obtain ⟨A2, c2, e2, l2, q2⟩ := k2_
  have hc := (List.drop_zero (l := cs)).symm.trans ((show cs.drop 0 = (cs.drop 0).take 1 ++ cs.drop 1 from seg_split cs 0 1).trans (congrArg ((cs.drop 0).take 1 ++ ·) ((show cs.drop 1 = (cs.drop 1).take 1 ++ cs.drop 2 from seg_split cs 1 1).trans (congrArg ((cs.drop 1).take 1 ++ ·) ((show cs.drop 2 = (cs.drop 2).take 1 ++ cs.drop 3 from seg_split cs 2 1).trans (congrArg ((cs.drop 2).take 1 ++ ·) (seg_end cs 3 hl)))))))
  rw [e0, e1, e2] at hc
  simp only [List.cons_append, List.nil_append, List.append_nil] at hc
  exact ⟨⟨a0, a1, a2⟩, by rw [hc]; exact k25_mk w ⟨a0, a1, a2⟩ l2 q2, Wf_L_Term.mk _ w0 w1 w2.1 w2.2⟩

open Go.Proofs.Ytcboagkbcoihjaa.XOpens in
def Wf_L_Lit (x : L_Lit) : Prop := True ∧ Wf_L_Term x.f1 ∧ Wf_L_Term x.f2

open Go.Proofs.Ytcboagkbcoihjaa.XOpens in
theorem opens_L_Lit {H : Type} {enc : TypeId × Value → H} {w : World} (n : Nat) : Opens enc Try.prog w 116 k116 Wf_L_Lit n := by
  induction n using Nat.strongRecOn with
  | _ n ih =>
  intro cs x h
  obtain ⟨xs, m, rfl, _, hl, hxl, hf⟩ := DataW.trod_struct Try.underlying116 h
  rw [show Try.prog.cellsOf 116 = 7 from by kernel_rfl] at hl
  have g0 : DataW.trod enc Try.prog w 0 (fun _ => true) true m 4 (List.take (Try.prog.cellsOf 4) (List.drop 0 cs)) = xs[0]? := hf 0 _ rfl
  rw [List.getElem?_eq_getElem (show 0 < xs.length by rw [hxl]; simp)] at g0
  rw [show Try.prog.cellsOf 4 = 1 from by kernel_rfl] at g0
  obtain ⟨a0, k0_, w0⟩ := ((opens_bool Try.underlying4) : Opens enc Try.prog w 4 Kd.bool (fun a => True) m) _ _ g0
  have e0 : (cs.drop 0).take 1 = [.bool a0] := k0_
  have g1 : DataW.trod enc Try.prog w 0 (fun _ => true) true m 25 (List.take (Try.prog.cellsOf 25) (List.drop 1 cs)) = xs[1]? := hf 1 _ rfl
  rw [List.getElem?_eq_getElem (show 1 < xs.length by rw [hxl]; simp)] at g1
  rw [show Try.prog.cellsOf 25 = 3 from by kernel_rfl] at g1
  obtain ⟨a1, k1_, w1⟩ := ((opens_L_Term _) : Opens enc Try.prog w 25 k25 (fun a => Wf_L_Term a) m) _ _ g1
  obtain ⟨A1_2, c1_2, e1, l1_2, q1_2⟩ := k25_open k1_
  have g2 : DataW.trod enc Try.prog w 0 (fun _ => true) true m 25 (List.take (Try.prog.cellsOf 25) (List.drop 4 cs)) = xs[2]? := hf 2 _ rfl
  rw [List.getElem?_eq_getElem (show 2 < xs.length by rw [hxl]; simp)] at g2
  rw [show Try.prog.cellsOf 25 = 3 from by kernel_rfl] at g2
  obtain ⟨a2, k2_, w2⟩ := ((opens_L_Term _) : Opens enc Try.prog w 25 k25 (fun a => Wf_L_Term a) m) _ _ g2
  obtain ⟨A2_2, c2_2, e2, l2_2, q2_2⟩ := k25_open k2_
  have hc := (List.drop_zero (l := cs)).symm.trans ((show cs.drop 0 = (cs.drop 0).take 1 ++ cs.drop 1 from seg_split cs 0 1).trans (congrArg ((cs.drop 0).take 1 ++ ·) ((show cs.drop 1 = (cs.drop 1).take 3 ++ cs.drop 4 from seg_split cs 1 3).trans (congrArg ((cs.drop 1).take 3 ++ ·) ((show cs.drop 4 = (cs.drop 4).take 3 ++ cs.drop 7 from seg_split cs 4 3).trans (congrArg ((cs.drop 4).take 3 ++ ·) (seg_end cs 7 hl)))))))
  rw [e0, e1, e2] at hc
  simp only [List.cons_append, List.nil_append, List.append_nil] at hc
  exact ⟨⟨a0, a1, a2⟩, by rw [hc]; exact k116_mk w ⟨a0, a1, a2⟩ l1_2 q1_2 l2_2 q2_2, ⟨w0, w1, w2⟩⟩

/-- THE ONE PURE STATEMENT of laws_FnExactCloseOk. -/
def laws_FnExactCloseOk.Pure : Prop := ∀ (l0 : List (L_Sym)) (l1 : List (L_Lit)), (l0.length ≤ maxLen ∧ ∀ y ∈ l0, Wf_L_Sym y) → (l1.length ≤ maxLen ∧ ∀ y ∈ l1, Wf_L_Lit y) → ∃ k, laws_FnExactCloseOk.f k l0 l1 = some true

end Go.Proofs.Ytcboagkbcoihjaa.XCloseOk
