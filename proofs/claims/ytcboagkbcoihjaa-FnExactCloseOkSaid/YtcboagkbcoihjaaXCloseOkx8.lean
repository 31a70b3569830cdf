-- printed by a program of this session (xprint, turned from the kit's print) for this claim
import Derived.Test.YtcboagkbcoihjaaXCloseOkx0
import Derived.Test.YtcboagkbcoihjaaXCloseOkx4
import Derived.Test.YtcboagkbcoihjaaXCloseOkx5
import Derived.Test.YtcboagkbcoihjaaXCloseOkx6
import Derived.Test.YtcboagkbcoihjaaXCloseOkx7
namespace Go.Proofs.Ytcboagkbcoihjaa.XCloseOk
open Go.RowKit Go.Proofs.Ytcboagkbcoihjaa.XOpens Go.Proofs.YtcboagkbcoihjaaW.PrintWords Go.Proofs.YtcboagkbcoihjaaW.PrintLast Go.Proofs.YtcboagkbcoihjaaW.PrintMore
attribute [local go_sem] max2_int min2_int max_two min_two max_three min_three max_four min_four   -- for this text's walks alone
set_option linter.unusedVariables false
set_option linter.unusedSimpArgs false

/-! ### spec_TermOk: function 130 -/
def spec_TermOk.f (k : Nat) (l0 : List (I_Sym)) (a1_0 : Int) (a1_1 : Int) (l1_2 : List (I_Term)) : Option (Bool) := (spec_SigOk.f k l0).bind fun t234 => (if t234 = true then ((spec_Parts.f k a1_0 a1_1 l1_2).bind fun t235 => (if t235 ≤ 60 then ((spec_l4Right.f k l0 a1_0 a1_1 l1_2).bind fun t236 => (some t236)) else (some false))) else (some false))
theorem spec_TermOk.mono : ∀ a0 a1 a2 a3 k, LeO (spec_TermOk.f k a0 a1 a2 a3) (spec_TermOk.f (k + 1) a0 a1 a2 a3) := by
  intro a0 a1 a2 a3 k
  unfold spec_TermOk.f
  repeat' first
      | (with_reducible exact spec_Parts.mono _ _ _ _)
      | (with_reducible exact spec_SigOk.mono _ _)
      | (with_reducible exact spec_l4Right.mono _ _ _ _ _)
      | (with_reducible exact LeO.refl _)
      | (with_reducible exact LeO.none _)
      | (with_reducible refine LeO.ite ?_ ?_)
      | (with_reducible refine LeO.bind ?_ (fun _ => ?_))
      | exact spec_Parts.mono _ _ _ _
      | exact spec_SigOk.mono _ _
      | exact spec_l4Right.mono _ _ _ _ _
      | exact LeO.none _
      | refine LeO.ite ?_ ?_
      | refine LeO.bind ?_ (fun _ => ?_)
set_option maxHeartbeats 8000000 in
set_option maxRecDepth 100000 in
theorem spec_TermOk.calls (k : Nat) (A0 : Option Addr) (c0 : Nat) (l0 : List (I_Sym)) (a1_0 : Int) (a1_1 : Int) (A1_2 : Option Addr) (c1_2 : Nat) (l1_2 : List (I_Term)) (r : Bool) (w : World) (hr0 : Kd.C k99 w A0 l0.length l0) (hc0 : l0.length ≤ c0) (hr1_2 : Kd.C k33 w A1_2 l1_2.length l1_2) (hc1_2 : l1_2.length ≤ c1_2) (h : spec_TermOk.f k l0 a1_0 a1_1 l1_2 = some r) :
    Calls Try.prog 130 #[.slice A0 l0.length c0, .agg #[.int .i64 a1_0, .int .i64 a1_1, .slice A1_2 l1_2.length c1_2]] w fun e w' => e = .returned (.bool r) ∧ Below w.heap.size w w' := by
  have hu33 := Try.underlying33; have HR0 := Aside0.mk hr0; have HC0 := Aside0.mk hc0; clear hr0 hc0; have HR1_2 := Aside0.mk hr1_2; have HC1_2 := Aside0.mk hc1_2; clear hr1_2 hc1_2; have HB := Aside0.mk (Below.refl w.heap.size w); have H : ((spec_SigOk.f k l0).bind fun t234 => (if t234 = true then ((spec_Parts.f k a1_0 a1_1 l1_2).bind fun t235 => (if t235 ≤ 60 then ((spec_l4Right.f k l0 a1_0 a1_1 l1_2).bind fun t236 => (some t236)) else (some false))) else (some false))) = some r := h; clear h; replace H := Option.bind_eq_some_iff.mp H; obtain ⟨t234, A30, H⟩ := H; replace H : (if t234 = true then ((spec_Parts.f k a1_0 a1_1 l1_2).bind fun t235 => (if t235 ≤ 60 then ((spec_l4Right.f k l0 a1_0 a1_1 l1_2).bind fun t236 => (some t236)) else (some false))) else (some false)) = some r := H; have A3 := Aside0.mk A30; clear A30
  by_cases c4 : t234 = true
  · subst c4; rw [if_pos rfl] at H; replace H := Option.bind_eq_some_iff.mp H; obtain ⟨t235, A50, H⟩ := H; replace H : (if t235 ≤ 60 then ((spec_l4Right.f k l0 a1_0 a1_1 l1_2).bind fun t236 => (some t236)) else (some false)) = some r := H; have A5 := Aside0.mk A50; clear A50
    by_cases c6 : t235 ≤ 60
    · rw [if_pos c6] at H; have c6b0 := decide_eq_true c6; clear c6; replace H := Option.bind_eq_some_iff.mp H; obtain ⟨t236, A70, H⟩ := H; replace H : (some t236) = some r := H; have A7 := Aside0.mk A70; clear A70; obtain rfl := Option.some.inj H
      go_enter Try.func130, Try.ntmps130
      go_wp2_with (first | ((with_reducible refine gate_dst (N := 3) rfl ?_); refine bxe_ (N := 3) (cs := #[.int .i64 a1_0, .int .i64 a1_1, .slice A1_2 l1_2.length c1_2]) (t := 33) ?_; intro gb233 hg w8 hbox hb; have n0_ := Aside0.mk (below_step (bl_ HB.out) hb); have n1_ := Aside0.mk (hbox); have n2_ := Aside0.mk (lg_ hg (bl_ HB.out)); have n3_ := Aside0.mk (lg_ hg (bl_ HB.out)); clear HB; have HB := n0_; have BK233 := n1_; have GW233 := n2_; have GE233 := n3_; clear n0_ n1_ n2_ n3_; clear hb hbox hg) | ((with_reducible refine gate_callee (f := 78) rfl ?_); refine goesM_ (some 6) rfl rfl Try.func78 (by kernel_rfl) rfl #[.slice A0 l0.length c0] rfl ?_; (with_reducible refine (spec_SigOk.calls k _ _ l0 true _ ?side1 ?side2 A3.out).mono ?_); (case side1 => exact cb_ HR0.out HB.out); (case side2 => exact HC0.out); rintro e w' ⟨rfl, ⟨nd, rfl⟩⟩; refine ⟨_, rfl, ?_⟩; have hcz9_0 := bc_ BK233.out 0; have hcz9_1 := bc_ BK233.out 1; have hcz9_2 := bc_ BK233.out 2; have hfz9_0 := blk_frozen BK233.out 0; have hfz9_1 := blk_frozen BK233.out 1; have hfz9_2 := blk_frozen BK233.out 2) | (go_at_call 163; (with_reducible refine (spec_Parts.calls k a1_0 a1_1 _ _ l1_2 t235 _ ?side1 ?side2 A5.out).mono ?_); (case side1 => exact ca_ (Kd.C_below HR1_2.out (bs1_ HB.out GE233.out))); (case side2 => exact HC1_2.out); rintro e w10 ⟨rfl, hb⟩; have n0_ := Aside0.mk (blk_below (bk_ BK233.out) hb); have n1_ := Aside0.mk (below_step (bs1_ HB.out GE233.out) hb); clear BK233; clear HB; have BK233 := n0_; have HB := n1_; clear n0_ n1_; (try clear hb); (try clear hb2); (try clear hk); (try clear hi); have hcz11_0 := bc_ BK233.out 0; have hcz11_1 := bc_ BK233.out 1; have hcz11_2 := bc_ BK233.out 2; have hfz11_0 := blk_frozen BK233.out 0; have hfz11_1 := blk_frozen BK233.out 1; have hfz11_2 := blk_frozen BK233.out 2) | (go_at_call 164; (with_reducible refine (spec_l4Right.calls k _ _ l0 a1_0 a1_1 _ _ l1_2 t236 _ ?side1 ?side2 ?side3 ?side4 A7.out).mono ?_); (case side1 => exact cb_ HR0.out HB.out); (case side2 => exact HC0.out); (case side3 => exact cb_ HR1_2.out HB.out); (case side4 => exact HC1_2.out); rintro e w12 ⟨rfl, hb⟩; have n0_ := Aside0.mk (blk_below (bk_ BK233.out) hb); have n1_ := Aside0.mk (below_step (bs1_ HB.out GE233.out) hb); clear BK233; clear HB; have BK233 := n0_; have HB := n1_; clear n0_ n1_; (try clear hb); (try clear hb2); (try clear hk); (try clear hi)))
      go_ret
      exact fin_ (bs1_ HB.out GE233.out)
    · rw [if_neg c6] at H; have c6b0 := decide_eq_false c6; clear c6; obtain rfl := Option.some.inj H
      go_enter Try.func130, Try.ntmps130
      go_wp2_with (first | ((with_reducible refine gate_dst (N := 3) rfl ?_); refine bxe_ (N := 3) (cs := #[.int .i64 a1_0, .int .i64 a1_1, .slice A1_2 l1_2.length c1_2]) (t := 33) ?_; intro gb233 hg w13 hbox hb; have n0_ := Aside0.mk (below_step (bl_ HB.out) hb); have n1_ := Aside0.mk (hbox); have n2_ := Aside0.mk (lg_ hg (bl_ HB.out)); have n3_ := Aside0.mk (lg_ hg (bl_ HB.out)); clear HB; have HB := n0_; have BK233 := n1_; have GW233 := n2_; have GE233 := n3_; clear n0_ n1_ n2_ n3_; clear hb hbox hg) | ((with_reducible refine gate_callee (f := 78) rfl ?_); refine goesM_ (some 6) rfl rfl Try.func78 (by kernel_rfl) rfl #[.slice A0 l0.length c0] rfl ?_; (with_reducible refine (spec_SigOk.calls k _ _ l0 true _ ?side1 ?side2 A3.out).mono ?_); (case side1 => exact cb_ HR0.out HB.out); (case side2 => exact HC0.out); rintro e w' ⟨rfl, ⟨nd, rfl⟩⟩; refine ⟨_, rfl, ?_⟩; have hcz14_0 := bc_ BK233.out 0; have hcz14_1 := bc_ BK233.out 1; have hcz14_2 := bc_ BK233.out 2; have hfz14_0 := blk_frozen BK233.out 0; have hfz14_1 := blk_frozen BK233.out 1; have hfz14_2 := blk_frozen BK233.out 2) | (go_at_call 163; (with_reducible refine (spec_Parts.calls k a1_0 a1_1 _ _ l1_2 t235 _ ?side1 ?side2 A5.out).mono ?_); (case side1 => exact ca_ (Kd.C_below HR1_2.out (bs1_ HB.out GE233.out))); (case side2 => exact HC1_2.out); rintro e w15 ⟨rfl, hb⟩; have n0_ := Aside0.mk (blk_below (bk_ BK233.out) hb); have n1_ := Aside0.mk (below_step (bs1_ HB.out GE233.out) hb); clear BK233; clear HB; have BK233 := n0_; have HB := n1_; clear n0_ n1_; (try clear hb); (try clear hb2); (try clear hk); (try clear hi)))
      go_ret
      exact fin_ (bs1_ HB.out GE233.out)
  · replace c4 := Bool.eq_false_iff.mpr c4; subst c4; rw [if_neg (show ¬ (false = true) by decide)] at H; obtain rfl := Option.some.inj H
    go_enter Try.func130, Try.ntmps130
    go_wp2_with (first | ((with_reducible refine gate_dst (N := 3) rfl ?_); refine bxe_ (N := 3) (cs := #[.int .i64 a1_0, .int .i64 a1_1, .slice A1_2 l1_2.length c1_2]) (t := 33) ?_; intro gb233 hg w16 hbox hb; have n0_ := Aside0.mk (below_step (bl_ HB.out) hb); have n1_ := Aside0.mk (hbox); have n2_ := Aside0.mk (lg_ hg (bl_ HB.out)); have n3_ := Aside0.mk (lg_ hg (bl_ HB.out)); clear HB; have HB := n0_; have BK233 := n1_; have GW233 := n2_; have GE233 := n3_; clear n0_ n1_ n2_ n3_; clear hb hbox hg) | ((with_reducible refine gate_callee (f := 78) rfl ?_); refine goesM_ (some 6) rfl rfl Try.func78 (by kernel_rfl) rfl #[.slice A0 l0.length c0] rfl ?_; (with_reducible refine (spec_SigOk.calls k _ _ l0 false _ ?side1 ?side2 A3.out).mono ?_); (case side1 => exact cb_ HR0.out HB.out); (case side2 => exact HC0.out); rintro e w' ⟨rfl, ⟨nd, rfl⟩⟩; refine ⟨_, rfl, ?_⟩))
    go_ret
    exact fin_ (bs1_ HB.out GE233.out)

/-! ### spec_LitOk: function 100 -/
def spec_LitOk.f (k : Nat) (l0 : List (I_Sym)) (a1_0 : Bool) (a1_1 : Int) (a1_2 : Int) (l1_3 : List (I_Term)) (a1_4 : Int) (a1_5 : Int) (l1_6 : List (I_Term)) : Option (Bool) := (spec_TermOk.f k l0 a1_1 a1_2 l1_3).bind fun t238 => (if t238 = true then ((spec_TermOk.f k l0 a1_4 a1_5 l1_6).bind fun t239 => (if t239 = true then ((spec_Before.f k a1_1 a1_2 l1_3 a1_4 a1_5 l1_6).bind fun t240 => (some (!t240))) else (some false))) else (some false))
theorem spec_LitOk.mono : ∀ a0 a1 a2 a3 a4 a5 a6 a7 k, LeO (spec_LitOk.f k a0 a1 a2 a3 a4 a5 a6 a7) (spec_LitOk.f (k + 1) a0 a1 a2 a3 a4 a5 a6 a7) := by
  intro a0 a1 a2 a3 a4 a5 a6 a7 k
  unfold spec_LitOk.f
  repeat' first
      | (with_reducible exact spec_Before.mono _ _ _ _ _ _ _)
      | (with_reducible exact spec_TermOk.mono _ _ _ _ _)
      | (with_reducible exact LeO.refl _)
      | (with_reducible exact LeO.none _)
      | (with_reducible refine LeO.ite ?_ ?_)
      | (with_reducible refine LeO.bind ?_ (fun _ => ?_))
      | exact spec_Before.mono _ _ _ _ _ _ _
      | exact spec_TermOk.mono _ _ _ _ _
      | exact LeO.none _
      | refine LeO.ite ?_ ?_
      | refine LeO.bind ?_ (fun _ => ?_)
set_option maxHeartbeats 8000000 in
set_option maxRecDepth 100000 in
theorem spec_LitOk.calls (k : Nat) (A0 : Option Addr) (c0 : Nat) (l0 : List (I_Sym)) (a1_0 : Bool) (a1_1 : Int) (a1_2 : Int) (A1_3 : Option Addr) (c1_3 : Nat) (l1_3 : List (I_Term)) (a1_4 : Int) (a1_5 : Int) (A1_6 : Option Addr) (c1_6 : Nat) (l1_6 : List (I_Term)) (r : Bool) (w : World) (hr0 : Kd.C k99 w A0 l0.length l0) (hc0 : l0.length ≤ c0) (hr1_3 : Kd.C k33 w A1_3 l1_3.length l1_3) (hc1_3 : l1_3.length ≤ c1_3) (hr1_6 : Kd.C k33 w A1_6 l1_6.length l1_6) (hc1_6 : l1_6.length ≤ c1_6) (h : spec_LitOk.f k l0 a1_0 a1_1 a1_2 l1_3 a1_4 a1_5 l1_6 = some r) :
    Calls Try.prog 100 #[.slice A0 l0.length c0, .agg #[.bool a1_0, .int .i64 a1_1, .int .i64 a1_2, .slice A1_3 l1_3.length c1_3, .int .i64 a1_4, .int .i64 a1_5, .slice A1_6 l1_6.length c1_6]] w fun e w' => e = .returned (.bool r) ∧ Below w.heap.size w w' := by
  have hu119 := Try.underlying119; have hu33 := Try.underlying33; have HR0 := Aside0.mk hr0; have HC0 := Aside0.mk hc0; clear hr0 hc0; have HR1_3 := Aside0.mk hr1_3; have HC1_3 := Aside0.mk hc1_3; clear hr1_3 hc1_3; have HR1_6 := Aside0.mk hr1_6; have HC1_6 := Aside0.mk hc1_6; clear hr1_6 hc1_6; have HB := Aside0.mk (Below.refl w.heap.size w); have H : ((spec_TermOk.f k l0 a1_1 a1_2 l1_3).bind fun t238 => (if t238 = true then ((spec_TermOk.f k l0 a1_4 a1_5 l1_6).bind fun t239 => (if t239 = true then ((spec_Before.f k a1_1 a1_2 l1_3 a1_4 a1_5 l1_6).bind fun t240 => (some (!t240))) else (some false))) else (some false))) = some r := h; clear h; replace H := Option.bind_eq_some_iff.mp H; obtain ⟨t238, A30, H⟩ := H; replace H : (if t238 = true then ((spec_TermOk.f k l0 a1_4 a1_5 l1_6).bind fun t239 => (if t239 = true then ((spec_Before.f k a1_1 a1_2 l1_3 a1_4 a1_5 l1_6).bind fun t240 => (some (!t240))) else (some false))) else (some false)) = some r := H; have A3 := Aside0.mk A30; clear A30
  by_cases c4 : t238 = true
  · subst c4; rw [if_pos rfl] at H; replace H := Option.bind_eq_some_iff.mp H; obtain ⟨t239, A50, H⟩ := H; replace H : (if t239 = true then ((spec_Before.f k a1_1 a1_2 l1_3 a1_4 a1_5 l1_6).bind fun t240 => (some (!t240))) else (some false)) = some r := H; have A5 := Aside0.mk A50; clear A50
    by_cases c6 : t239 = true
    · subst c6; rw [if_pos rfl] at H; replace H := Option.bind_eq_some_iff.mp H; obtain ⟨t240, A70, H⟩ := H; replace H : (some (!t240)) = some r := H; have A7 := Aside0.mk A70; clear A70; obtain rfl := Option.some.inj H
      go_enter Try.func100, Try.ntmps100
      go_wp2_with (first | ((with_reducible refine gate_dst (N := 3) rfl ?_); refine bxe_ (N := 3) (cs := #[.bool a1_0, .int .i64 a1_1, .int .i64 a1_2, .slice A1_3 l1_3.length c1_3, .int .i64 a1_4, .int .i64 a1_5, .slice A1_6 l1_6.length c1_6]) (t := 119) ?_; intro gb237 hg w8 hbox hb; have n0_ := Aside0.mk (below_step (bl_ HB.out) hb); have n1_ := Aside0.mk (hbox); have n2_ := Aside0.mk (lg_ hg (bl_ HB.out)); have n3_ := Aside0.mk (lg_ hg (bl_ HB.out)); clear HB; have HB := n0_; have BK237 := n1_; have GW237 := n2_; have GE237 := n3_; clear n0_ n1_ n2_ n3_; clear hb hbox hg; have hcz9_0 := bc_ BK237.out 0; have hcz9_1 := bc_ BK237.out 1; have hcz9_2 := bc_ BK237.out 2; have hcz9_3 := bc_ BK237.out 3; have hcz9_4 := bc_ BK237.out 4; have hcz9_5 := bc_ BK237.out 5; have hcz9_6 := bc_ BK237.out 6; have hfz9_0 := blk_frozen BK237.out 0; have hfz9_1 := blk_frozen BK237.out 1; have hfz9_2 := blk_frozen BK237.out 2; have hfz9_3 := blk_frozen BK237.out 3; have hfz9_4 := blk_frozen BK237.out 4; have hfz9_5 := blk_frozen BK237.out 5; have hfz9_6 := blk_frozen BK237.out 6) | ((with_reducible refine gate_callee (f := 130) rfl ?_); refine goesM_ (some 8) rfl rfl Try.func130 (by kernel_rfl) rfl #[.slice A0 l0.length c0, .agg #[.int .i64 a1_1, .int .i64 a1_2, .slice A1_3 l1_3.length c1_3]] rfl ?_; (with_reducible refine (spec_TermOk.calls k _ _ l0 a1_1 a1_2 _ _ l1_3 true _ ?side1 ?side2 ?side3 ?side4 A3.out).mono ?_); (case side1 => exact cb_ HR0.out HB.out); (case side2 => exact HC0.out); (case side3 => exact cb_ HR1_3.out HB.out); (case side4 => exact HC1_3.out); rintro e w10 ⟨rfl, hb⟩; refine ⟨_, rfl, ?_⟩; have n0_ := Aside0.mk (blk_below (bk_ BK237.out) hb); have n1_ := Aside0.mk (below_step (bs1_ HB.out GE237.out) hb); clear BK237; clear HB; have BK237 := n0_; have HB := n1_; clear n0_ n1_; (try clear hb); (try clear hb2); (try clear hk); (try clear hi); have hcz11_0 := bc_ BK237.out 0; have hcz11_1 := bc_ BK237.out 1; have hcz11_2 := bc_ BK237.out 2; have hcz11_3 := bc_ BK237.out 3; have hcz11_4 := bc_ BK237.out 4; have hcz11_5 := bc_ BK237.out 5; have hcz11_6 := bc_ BK237.out 6; have hfz11_0 := blk_frozen BK237.out 0; have hfz11_1 := blk_frozen BK237.out 1; have hfz11_2 := blk_frozen BK237.out 2; have hfz11_3 := blk_frozen BK237.out 3; have hfz11_4 := blk_frozen BK237.out 4; have hfz11_5 := blk_frozen BK237.out 5; have hfz11_6 := blk_frozen BK237.out 6) | (go_at_call 130; (with_reducible refine (spec_TermOk.calls k _ _ l0 a1_4 a1_5 _ _ l1_6 true _ ?side1 ?side2 ?side3 ?side4 A5.out).mono ?_); (case side1 => exact cb_ HR0.out HB.out); (case side2 => exact HC0.out); (case side3 => exact cb_ HR1_6.out HB.out); (case side4 => exact HC1_6.out); rintro e w12 ⟨rfl, hb⟩; have n0_ := Aside0.mk (blk_below (bk_ BK237.out) hb); have n1_ := Aside0.mk (below_step (bs1_ HB.out GE237.out) hb); clear BK237; clear HB; have BK237 := n0_; have HB := n1_; clear n0_ n1_; (try clear hb); (try clear hb2); (try clear hk); (try clear hi); have hcz13_0 := bc_ BK237.out 0; have hcz13_1 := bc_ BK237.out 1; have hcz13_2 := bc_ BK237.out 2; have hcz13_3 := bc_ BK237.out 3; have hcz13_4 := bc_ BK237.out 4; have hcz13_5 := bc_ BK237.out 5; have hcz13_6 := bc_ BK237.out 6; have hfz13_0 := blk_frozen BK237.out 0; have hfz13_1 := blk_frozen BK237.out 1; have hfz13_2 := blk_frozen BK237.out 2; have hfz13_3 := blk_frozen BK237.out 3; have hfz13_4 := blk_frozen BK237.out 4; have hfz13_5 := blk_frozen BK237.out 5; have hfz13_6 := blk_frozen BK237.out 6) | (go_at_call 154; (with_reducible refine (spec_Before.calls k a1_1 a1_2 _ _ l1_3 a1_4 a1_5 _ _ l1_6 t240 _ ?side1 ?side2 ?side3 ?side4 A7.out).mono ?_); (case side1 => exact cb_ HR1_3.out HB.out); (case side2 => exact HC1_3.out); (case side3 => exact cb_ HR1_6.out HB.out); (case side4 => exact HC1_6.out); rintro e w14 ⟨rfl, hb⟩; have n0_ := Aside0.mk (blk_below (bk_ BK237.out) hb); have n1_ := Aside0.mk (below_step (bs1_ HB.out GE237.out) hb); clear BK237; clear HB; have BK237 := n0_; have HB := n1_; clear n0_ n1_; (try clear hb); (try clear hb2); (try clear hk); (try clear hi)))
      go_ret
      exact fin_ (bs1_ HB.out GE237.out)
    · replace c6 := Bool.eq_false_iff.mpr c6; subst c6; rw [if_neg (show ¬ (false = true) by decide)] at H; obtain rfl := Option.some.inj H
      go_enter Try.func100, Try.ntmps100
      go_wp2_with (first | ((with_reducible refine gate_dst (N := 3) rfl ?_); refine bxe_ (N := 3) (cs := #[.bool a1_0, .int .i64 a1_1, .int .i64 a1_2, .slice A1_3 l1_3.length c1_3, .int .i64 a1_4, .int .i64 a1_5, .slice A1_6 l1_6.length c1_6]) (t := 119) ?_; intro gb237 hg w15 hbox hb; have n0_ := Aside0.mk (below_step (bl_ HB.out) hb); have n1_ := Aside0.mk (hbox); have n2_ := Aside0.mk (lg_ hg (bl_ HB.out)); have n3_ := Aside0.mk (lg_ hg (bl_ HB.out)); clear HB; have HB := n0_; have BK237 := n1_; have GW237 := n2_; have GE237 := n3_; clear n0_ n1_ n2_ n3_; clear hb hbox hg; have hcz16_0 := bc_ BK237.out 0; have hcz16_1 := bc_ BK237.out 1; have hcz16_2 := bc_ BK237.out 2; have hcz16_3 := bc_ BK237.out 3; have hcz16_4 := bc_ BK237.out 4; have hcz16_5 := bc_ BK237.out 5; have hcz16_6 := bc_ BK237.out 6; have hfz16_0 := blk_frozen BK237.out 0; have hfz16_1 := blk_frozen BK237.out 1; have hfz16_2 := blk_frozen BK237.out 2; have hfz16_3 := blk_frozen BK237.out 3; have hfz16_4 := blk_frozen BK237.out 4; have hfz16_5 := blk_frozen BK237.out 5; have hfz16_6 := blk_frozen BK237.out 6) | ((with_reducible refine gate_callee (f := 130) rfl ?_); refine goesM_ (some 8) rfl rfl Try.func130 (by kernel_rfl) rfl #[.slice A0 l0.length c0, .agg #[.int .i64 a1_1, .int .i64 a1_2, .slice A1_3 l1_3.length c1_3]] rfl ?_; (with_reducible refine (spec_TermOk.calls k _ _ l0 a1_1 a1_2 _ _ l1_3 true _ ?side1 ?side2 ?side3 ?side4 A3.out).mono ?_); (case side1 => exact cb_ HR0.out HB.out); (case side2 => exact HC0.out); (case side3 => exact cb_ HR1_3.out HB.out); (case side4 => exact HC1_3.out); rintro e w17 ⟨rfl, hb⟩; refine ⟨_, rfl, ?_⟩; have n0_ := Aside0.mk (blk_below (bk_ BK237.out) hb); have n1_ := Aside0.mk (below_step (bs1_ HB.out GE237.out) hb); clear BK237; clear HB; have BK237 := n0_; have HB := n1_; clear n0_ n1_; (try clear hb); (try clear hb2); (try clear hk); (try clear hi); have hcz18_0 := bc_ BK237.out 0; have hcz18_1 := bc_ BK237.out 1; have hcz18_2 := bc_ BK237.out 2; have hcz18_3 := bc_ BK237.out 3; have hcz18_4 := bc_ BK237.out 4; have hcz18_5 := bc_ BK237.out 5; have hcz18_6 := bc_ BK237.out 6; have hfz18_0 := blk_frozen BK237.out 0; have hfz18_1 := blk_frozen BK237.out 1; have hfz18_2 := blk_frozen BK237.out 2; have hfz18_3 := blk_frozen BK237.out 3; have hfz18_4 := blk_frozen BK237.out 4; have hfz18_5 := blk_frozen BK237.out 5; have hfz18_6 := blk_frozen BK237.out 6) | (go_at_call 130; (with_reducible refine (spec_TermOk.calls k _ _ l0 a1_4 a1_5 _ _ l1_6 false _ ?side1 ?side2 ?side3 ?side4 A5.out).mono ?_); (case side1 => exact cb_ HR0.out HB.out); (case side2 => exact HC0.out); (case side3 => exact cb_ HR1_6.out HB.out); (case side4 => exact HC1_6.out); rintro e w19 ⟨rfl, hb⟩; have n0_ := Aside0.mk (blk_below (bk_ BK237.out) hb); have n1_ := Aside0.mk (below_step (bs1_ HB.out GE237.out) hb); clear BK237; clear HB; have BK237 := n0_; have HB := n1_; clear n0_ n1_; (try clear hb); (try clear hb2); (try clear hk); (try clear hi)))
      go_ret
      exact fin_ (bs1_ HB.out GE237.out)
  · replace c4 := Bool.eq_false_iff.mpr c4; subst c4; rw [if_neg (show ¬ (false = true) by decide)] at H; obtain rfl := Option.some.inj H
    go_enter Try.func100, Try.ntmps100
    go_wp2_with (first | ((with_reducible refine gate_dst (N := 3) rfl ?_); refine bxe_ (N := 3) (cs := #[.bool a1_0, .int .i64 a1_1, .int .i64 a1_2, .slice A1_3 l1_3.length c1_3, .int .i64 a1_4, .int .i64 a1_5, .slice A1_6 l1_6.length c1_6]) (t := 119) ?_; intro gb237 hg w20 hbox hb; have n0_ := Aside0.mk (below_step (bl_ HB.out) hb); have n1_ := Aside0.mk (hbox); have n2_ := Aside0.mk (lg_ hg (bl_ HB.out)); have n3_ := Aside0.mk (lg_ hg (bl_ HB.out)); clear HB; have HB := n0_; have BK237 := n1_; have GW237 := n2_; have GE237 := n3_; clear n0_ n1_ n2_ n3_; clear hb hbox hg; have hcz21_0 := bc_ BK237.out 0; have hcz21_1 := bc_ BK237.out 1; have hcz21_2 := bc_ BK237.out 2; have hcz21_3 := bc_ BK237.out 3; have hcz21_4 := bc_ BK237.out 4; have hcz21_5 := bc_ BK237.out 5; have hcz21_6 := bc_ BK237.out 6; have hfz21_0 := blk_frozen BK237.out 0; have hfz21_1 := blk_frozen BK237.out 1; have hfz21_2 := blk_frozen BK237.out 2; have hfz21_3 := blk_frozen BK237.out 3; have hfz21_4 := blk_frozen BK237.out 4; have hfz21_5 := blk_frozen BK237.out 5; have hfz21_6 := blk_frozen BK237.out 6) | ((with_reducible refine gate_callee (f := 130) rfl ?_); refine goesM_ (some 8) rfl rfl Try.func130 (by kernel_rfl) rfl #[.slice A0 l0.length c0, .agg #[.int .i64 a1_1, .int .i64 a1_2, .slice A1_3 l1_3.length c1_3]] rfl ?_; (with_reducible refine (spec_TermOk.calls k _ _ l0 a1_1 a1_2 _ _ l1_3 false _ ?side1 ?side2 ?side3 ?side4 A3.out).mono ?_); (case side1 => exact cb_ HR0.out HB.out); (case side2 => exact HC0.out); (case side3 => exact cb_ HR1_3.out HB.out); (case side4 => exact HC1_3.out); rintro e w22 ⟨rfl, hb⟩; refine ⟨_, rfl, ?_⟩; have n0_ := Aside0.mk (blk_below (bk_ BK237.out) hb); have n1_ := Aside0.mk (below_step (bs1_ HB.out GE237.out) hb); clear BK237; clear HB; have BK237 := n0_; have HB := n1_; clear n0_ n1_; (try clear hb); (try clear hb2); (try clear hk); (try clear hi)))
    go_ret
    exact fin_ (bs1_ HB.out GE237.out)

/-! ### spec_Blind: function 136 -/
def spec_Blind.f (l0 : List (I_Sym)) (a1 : Int) : Option (Bool) := (spec_l1In.f a1 0 (wrap64 ((l0.length : Int) - 1))).bind fun t241 => (if t241 = true then (if 0 ≤ a1 then (if a1 < (l0.length : Int) then (some ((rd_I_Sym l0 a1).f2)) else (none)) else (none)) else (some false))
set_option maxHeartbeats 8000000 in
set_option maxRecDepth 100000 in
theorem spec_Blind.calls (A0 : Option Addr) (c0 : Nat) (l0 : List (I_Sym)) (a1 : Int) (r : Bool) (w : World) (hr0 : Kd.C k99 w A0 l0.length l0) (hc0 : l0.length ≤ c0) (h : spec_Blind.f l0 a1 = some r) :
    Calls Try.prog 136 #[.slice A0 l0.length c0, .int .i64 a1] w fun e w' => e = .returned (.bool r) ∧ Drawn0 w w' := by
  have HR0 := Aside0.mk hr0; have HC0 := Aside0.mk hc0; clear hr0 hc0; have H : ((spec_l1In.f a1 0 (wrap64 ((l0.length : Int) - 1))).bind fun t241 => (if t241 = true then (if 0 ≤ a1 then (if a1 < (l0.length : Int) then (some ((rd_I_Sym l0 a1).f2)) else (none)) else (none)) else (some false))) = some r := h; clear h; replace H := Option.bind_eq_some_iff.mp H; obtain ⟨t241, A30, H⟩ := H; replace H : (if t241 = true then (if 0 ≤ a1 then (if a1 < (l0.length : Int) then (some ((rd_I_Sym l0 a1).f2)) else (none)) else (none)) else (some false)) = some r := H; have A3 := Aside0.mk A30; clear A30
  by_cases c4 : t241 = true
  · subst c4; rw [if_pos rfl] at H
    by_cases c5 : 0 ≤ a1
    · rw [if_pos c5] at H; have c5b0 := decide_eq_true c5; clear c5
      by_cases c6 : a1 < (l0.length : Int)
      · rw [if_pos c6] at H; have c6b0 := decide_eq_true c6; clear c6; obtain rfl := Option.some.inj H
        go_enter Try.func136, Try.ntmps136
        go_wp2_with (first | ((with_reducible refine gate_callee (f := 79) rfl ?_); refine goesM_ (some 9) rfl rfl Try.func79 (by kernel_rfl) rfl #[.int .i64 a1, .int .i64 0, .int .i64 (wrap64 ((l0.length : Int) - 1))] rfl ?_; (with_reducible refine (spec_l1In.calls a1 0 (wrap64 ((l0.length : Int) - 1)) true _ A3.out).mono ?_); rintro e w' ⟨rfl, ⟨nd, rfl⟩⟩; refine ⟨_, rfl, ?_⟩; have p242 : 0 ≤ (a1 : Int) := as_; have q242 : a1 < (l0.length : Int) := as_; obtain ⟨ad242, e242, hx242_0, hx242_1, hx242_2⟩ := at_T99 HR0.out a1 p242 q242; cases e242; replace p242 := eq_true p242; replace q242 := eq_true q242))
        go_ret
        exact ⟨by first | rfl | (simp; done) | (simp [*]; done), by repeat (first | exact Drawn0.refl _ | apply Drawn0.step)⟩
      · rw [if_neg c6] at H; exact absurd H (by simp)
    · rw [if_neg c5] at H; exact absurd H (by simp)
  · replace c4 := Bool.eq_false_iff.mpr c4; subst c4; rw [if_neg (show ¬ (false = true) by decide)] at H; obtain rfl := Option.some.inj H
    go_enter Try.func136, Try.ntmps136
    go_wp2_with (first | ((with_reducible refine gate_callee (f := 79) rfl ?_); refine goesM_ (some 9) rfl rfl Try.func79 (by kernel_rfl) rfl #[.int .i64 a1, .int .i64 0, .int .i64 (wrap64 ((l0.length : Int) - 1))] rfl ?_; (with_reducible refine (spec_l1In.calls a1 0 (wrap64 ((l0.length : Int) - 1)) false _ A3.out).mono ?_); rintro e w' ⟨rfl, ⟨nd, rfl⟩⟩; refine ⟨_, rfl, ?_⟩))
    go_ret
    exact ⟨by first | rfl | (simp; done) | (simp [*]; done), by repeat (first | exact Drawn0.refl _ | apply Drawn0.step)⟩

/-! ### spec_l30Plain: function 101 -/
mutual
def spec_l30Plain.j0 : Nat → List (I_Sym) → Bool → Int → Int → List (I_Term) → Option (Bool)
  | 0, _, _, _, _, _ => none
  | k + 1, x0, x14, x244000, x244001, x244002 => if x14 = true then (some false) else (spec_l30Plain.l0 k x0 0 x244000 x244001 x244002)
def spec_l30Plain.l0 : Nat → List (I_Sym) → Int → Int → Int → List (I_Term) → Option (Bool)
  | 0, _, _, _, _, _ => none
  | k + 1, x0, x5, x244000, x244001, x244002 => if x5 < (x244002.length : Int) then (if 0 ≤ x5 then ((spec_l30Plain.f k x0 ((rd_I_Term x244002 x5).f0) ((rd_I_Term x244002 x5).f1) ((rd_I_Term x244002 x5).f2)).bind fun t246 => (if t246 = true then (spec_l30Plain.l0 k x0 (wrap64 (x5 + 1)) x244000 x244001 x244002) else (some false))) else (none)) else (some true)
def spec_l30Plain.f : Nat → List (I_Sym) → Int → Int → List (I_Term) → Option (Bool)
  | 0, _, _, _, _ => none
  | k + 1, l0, a1_0, a1_1, l1_2 => if a1_0 < 0 then (spec_l30Plain.j0 k l0 true a1_0 a1_1 l1_2) else ((spec_Blind.f l0 a1_0).bind fun t244 => (spec_l30Plain.j0 k l0 t244 a1_0 a1_1 l1_2))
end
theorem spec_l30Plain.mono_l : ∀ k, (∀ y0 y1 y2 y3, LeO (spec_l30Plain.f k y0 y1 y2 y3) (spec_l30Plain.f (k + 1) y0 y1 y2 y3)) ∧ (∀ y0 y1 y2 y3 y4, LeO (spec_l30Plain.j0 k y0 y1 y2 y3 y4) (spec_l30Plain.j0 (k + 1) y0 y1 y2 y3 y4)) ∧ (∀ y0 y1 y2 y3 y4, LeO (spec_l30Plain.l0 k y0 y1 y2 y3 y4) (spec_l30Plain.l0 (k + 1) y0 y1 y2 y3 y4))
  | 0 => ⟨fun _ _ _ _ r h => by simp [spec_l30Plain.f] at h, fun _ _ _ _ _ r h => by simp [spec_l30Plain.j0] at h, fun _ _ _ _ _ r h => by simp [spec_l30Plain.l0] at h⟩
  | k + 1 => by
    obtain ⟨ih0, ih1, ih2⟩ := spec_l30Plain.mono_l k; refine ⟨?_, ?_, ?_⟩
    · intro y0 y1 y2 y3
      unfold spec_l30Plain.f
      repeat' first
      | (with_reducible exact ih0 _ _ _ _)
      | (with_reducible exact ih1 _ _ _ _ _)
      | (with_reducible exact ih2 _ _ _ _ _)
      | (with_reducible exact LeO.refl _)
      | (with_reducible exact LeO.none _)
      | (with_reducible refine LeO.ite ?_ ?_)
      | (with_reducible refine LeO.bind ?_ (fun _ => ?_))
      | exact ih0 _ _ _ _
      | exact ih1 _ _ _ _ _
      | exact ih2 _ _ _ _ _
      | exact LeO.none _
      | refine LeO.ite ?_ ?_
      | refine LeO.bind ?_ (fun _ => ?_)
    · intro y0 y1 y2 y3 y4
      unfold spec_l30Plain.j0
      repeat' first
      | (with_reducible exact ih0 _ _ _ _)
      | (with_reducible exact ih1 _ _ _ _ _)
      | (with_reducible exact ih2 _ _ _ _ _)
      | (with_reducible exact LeO.refl _)
      | (with_reducible exact LeO.none _)
      | (with_reducible refine LeO.ite ?_ ?_)
      | (with_reducible refine LeO.bind ?_ (fun _ => ?_))
      | exact ih0 _ _ _ _
      | exact ih1 _ _ _ _ _
      | exact ih2 _ _ _ _ _
      | exact LeO.none _
      | refine LeO.ite ?_ ?_
      | refine LeO.bind ?_ (fun _ => ?_)
    · intro y0 y1 y2 y3 y4
      unfold spec_l30Plain.l0
      repeat' first
      | (with_reducible exact ih0 _ _ _ _)
      | (with_reducible exact ih1 _ _ _ _ _)
      | (with_reducible exact ih2 _ _ _ _ _)
      | (with_reducible exact LeO.refl _)
      | (with_reducible exact LeO.none _)
      | (with_reducible refine LeO.ite ?_ ?_)
      | (with_reducible refine LeO.bind ?_ (fun _ => ?_))
      | exact ih0 _ _ _ _
      | exact ih1 _ _ _ _ _
      | exact ih2 _ _ _ _ _
      | exact LeO.none _
      | refine LeO.ite ?_ ?_
      | refine LeO.bind ?_ (fun _ => ?_)
theorem spec_l30Plain.mono : ∀ a0 a1 a2 a3 k, LeO (spec_l30Plain.f k a0 a1 a2 a3) (spec_l30Plain.f (k + 1) a0 a1 a2 a3) := by
  intro a0 a1 a2 a3 k; obtain ⟨ih0, ih1, ih2⟩ := spec_l30Plain.mono_l k; exact ih0 a0 a1 a2 a3
set_option maxHeartbeats 8000000 in
set_option maxRecDepth 100000 in
theorem spec_l30Plain.calls (k : Nat) : ∀ (A0 : Option Addr) (c0 : Nat) (l0 : List (I_Sym)) (a1_0 : Int) (a1_1 : Int) (A1_2 : Option Addr) (c1_2 : Nat) (l1_2 : List (I_Term)) (r : Bool) (w : World) (hr0 : Kd.C k99 w A0 l0.length l0) (hc0 : l0.length ≤ c0) (hr1_2 : Kd.C k33 w A1_2 l1_2.length l1_2) (hc1_2 : l1_2.length ≤ c1_2) (h : spec_l30Plain.f k l0 a1_0 a1_1 l1_2 = some r),
    Calls Try.prog 101 #[.slice A0 l0.length c0, .agg #[.int .i64 a1_0, .int .i64 a1_1, .slice A1_2 l1_2.length c1_2]] w fun e w' => e = .returned (.bool r) ∧ Below w.heap.size w w' := by
  induction k using Nat.strongRecOn with
  | _ k ih =>
  intro A0 c0 l0 a1_0 a1_1 A1_2 c1_2 l1_2 r w hr0 hc0 hr1_2 hc1_2 h
  cases k with
  | zero => exact absurd h (by simp [spec_l30Plain.f])
  | succ k =>
  simp only [spec_l30Plain.f] at h
  have hu33 := Try.underlying33; have HR0 := Aside0.mk hr0; have HC0 := Aside0.mk hc0; clear hr0 hc0; have HR1_2 := Aside0.mk hr1_2; have HC1_2 := Aside0.mk hc1_2; clear hr1_2 hc1_2; have HB := Aside0.mk (Below.refl w.heap.size w); have H : (if a1_0 < 0 then (spec_l30Plain.j0 k l0 true a1_0 a1_1 l1_2) else ((spec_Blind.f l0 a1_0).bind fun t244 => (spec_l30Plain.j0 k l0 t244 a1_0 a1_1 l1_2))) = some r := h; clear h; have HC3 := Aside0.mk H; clear H
  go_enter Try.func101, Try.ntmps101
  go_upto_region 1 with (first | ((with_reducible refine gate_dst (N := 3) rfl ?_); refine bxe_ (N := 3) (cs := #[.int .i64 a1_0, .int .i64 a1_1, .slice A1_2 l1_2.length c1_2]) (t := 33) ?_; intro gb243 hg w4 hbox hb; have n0_ := Aside0.mk (below_step (bl_ HB.out) hb); have n1_ := Aside0.mk (hbox); have n2_ := Aside0.mk (lg_ hg (bl_ HB.out)); have n3_ := Aside0.mk (lg_ hg (bl_ HB.out)); clear HB; have HB := n0_; have BK243 := n1_; have GW243 := n2_; have GE243 := n3_; clear n0_ n1_ n2_ n3_; clear hb hbox hg))
  (try simp only [Act.put, List.setIfInBounds_toArray, List.set_cons_zero, List.set_cons_succ])
  go_cut [14] (fun v14 wc => ∃ (kq : Nat) (x14_2 : Bool), v14 = .bool x14_2 ∧ Aside0 (spec_l30Plain.j0 kq l0 x14_2 a1_0 a1_1 l1_2 = some r) ∧ Aside0 (kq ≤ k) ∧ Aside0 (wc.heap[gb243]? = some (.cells #[.int .i64 a1_0, .int .i64 a1_1, (.slice A1_2 l1_2.length c1_2)] 33 (0, 0))) ∧ Aside0 (Below w.heap.size w wc))
  case first =>
    have H := HC3.out; clear HC3
    by_cases c5 : a1_0 < 0
    · rw [if_pos c5] at H; have c5b0 := decide_eq_true c5; clear c5; (first | rw [c5b0] | (simp only [i64_w, i32_w]; rw [c5b0]) | (rw [show ∀ x_ y_ : Bool, (!(x_ == y_)) = (x_ != y_) from fun _ _ => rfl, c5b0]) | skip); have H' := Aside0.mk H; clear H; have hcz6_0 := bc_ BK243.out 0; have hcz6_1 := bc_ BK243.out 1; have hcz6_2 := bc_ BK243.out 2; have hfz6_0 := blk_frozen BK243.out 0; have hfz6_1 := blk_frozen BK243.out 1; have hfz6_2 := blk_frozen BK243.out 2
      go_wp2
      go_meet
      case rel => exact ⟨_, (true), (by first | rfl | (simp; done) | (simp [*]; done)), H', ⟨by first | omega | exact Nat.le_refl _⟩, ⟨bk_ BK243.out⟩, ⟨bs1_ HB.out GE243.out⟩⟩
    · rw [if_neg c5] at H; have c5b0 := decide_eq_false c5; clear c5; (first | rw [c5b0] | (simp only [i64_w, i32_w]; rw [c5b0]) | (rw [show ∀ x_ y_ : Bool, (!(x_ == y_)) = (x_ != y_) from fun _ _ => rfl, c5b0]) | skip); replace H := Option.bind_eq_some_iff.mp H; obtain ⟨t244, A70, H⟩ := H; replace H : (spec_l30Plain.j0 k l0 t244 a1_0 a1_1 l1_2) = some r := H; have A7 := Aside0.mk A70; clear A70; have H' := Aside0.mk H; clear H; have hcz8_0 := bc_ BK243.out 0; have hcz8_1 := bc_ BK243.out 1; have hcz8_2 := bc_ BK243.out 2; have hfz8_0 := blk_frozen BK243.out 0; have hfz8_1 := blk_frozen BK243.out 1; have hfz8_2 := blk_frozen BK243.out 2
      go_wp2_with (first | (go_at_call 136; (with_reducible refine (spec_Blind.calls _ _ l0 a1_0 t244 _ ?side1 ?side2 A7.out).mono ?_); (case side1 => exact cb_ HR0.out HB.out); (case side2 => exact HC0.out); rintro e w' ⟨rfl, ⟨nd, rfl⟩⟩))
      go_meet
      case rel => exact ⟨_, (t244), (by first | rfl | (simp; done) | (simp [*]; done)), H', ⟨by first | omega | exact Nat.le_refl _⟩, ⟨bk_ BK243.out⟩, ⟨bs1_ HB.out GE243.out⟩⟩
  case rest =>
    clear HC3; (try clear c1); (try clear p2); (try clear c5); (try clear c5b0); (try clear hcz6_0); (try clear hcz6_1); (try clear hcz6_2); (try clear hcz8_0); (try clear hcz8_1); (try clear hcz8_2); (try clear hfz6_0); (try clear hfz6_1); (try clear hfz6_2); (try clear hfz8_0); (try clear hfz8_1); (try clear hfz8_2); obtain ⟨kq, x14_2, rfl, HA, HJ2, BK243, HB⟩ := hcut
    cases kq with
    | zero => exact absurd HA.out (by simp [spec_l30Plain.j0])
    | succ kj2 =>
      have H := HA.out; clear HA
      simp only [spec_l30Plain.j0] at H
      by_cases c9 : x14_2 = true
      · subst c9; rw [if_pos rfl] at H; obtain rfl := Option.some.inj H
        go_wp2
        go_ret
        exact fin_ (bs1_ HB.out GE243.out)
      · replace c9 := Bool.eq_false_iff.mpr c9; subst c9; rw [if_neg (show ¬ (false = true) by decide)] at H; have H' := Aside0.mk H; clear H
        go_wp2
        go_loopg [5] kj2 (fun kq v5 w' => ∃ (x5_2 : Int), v5 = .int .i64 x5_2 ∧ Aside0 (spec_l30Plain.l0 kq l0 x5_2 a1_0 a1_1 l1_2 = some r) ∧ Aside0 (kq ≤ kj2) ∧ Aside0 (w'.heap[gb243]? = some (.cells #[.int .i64 a1_0, .int .i64 a1_1, (.slice A1_2 l1_2.length c1_2)] 33 (0, 0))) ∧ Aside0 (Below w.heap.size w w'))
        case atStart => exact ⟨(0), (by first | rfl | (simp; done) | (simp [*]; done)), H', ⟨Nat.le_refl _⟩, ⟨bk_ BK243.out⟩, ⟨bs1_ HB.out GE243.out⟩⟩
        case round =>
          clear H'; (try clear c1); (try clear p2); (try clear c5); (try clear c5b0); (try clear c9); (try clear hcz6_0); (try clear hcz6_1); (try clear hcz6_2); (try clear hcz8_0); (try clear hcz8_1); (try clear hcz8_2); (try clear hfz6_0); (try clear hfz6_1); (try clear hfz6_2); (try clear hfz8_0); (try clear hfz8_1); (try clear hfz8_2); (try clear p2); obtain ⟨x5_2, rfl, HA, HK2, BK243, HB⟩ := hrel
          cases gk with
          | zero => exact absurd HA.out (by simp [spec_l30Plain.l0])
          | succ k2 =>
            have H := HA.out; clear HA
            simp only [spec_l30Plain.l0] at H
            by_cases c10 : x5_2 < (l1_2.length : Int)
            · rw [if_pos c10] at H; have c10b0 := decide_eq_true c10; clear c10
              by_cases c11 : 0 ≤ x5_2
              · rw [if_pos c11] at H; have c11b0 := decide_eq_true c11; clear c11; replace H := Option.bind_eq_some_iff.mp H; obtain ⟨t246, A120, H⟩ := H; replace H : (if t246 = true then (spec_l30Plain.l0 k2 l0 (wrap64 (x5_2 + 1)) a1_0 a1_1 l1_2) else (some false)) = some r := H; have A12 := Aside0.mk A120; clear A120
                by_cases c13 : t246 = true
                · subst c13; rw [if_pos rfl] at H; have H' := Aside0.mk H; clear H; have hcz14_0 := bc_ BK243.out 0; have hcz14_1 := bc_ BK243.out 1; have hcz14_2 := bc_ BK243.out 2; have hfz14_0 := blk_frozen BK243.out 0; have hfz14_1 := blk_frozen BK243.out 1; have hfz14_2 := blk_frozen BK243.out 2; have p245 : 0 ≤ (x5_2 : Int) := as_; have q245 : x5_2 < (l1_2.length : Int) := as_; obtain ⟨ad245, A245_2, c245_2, e245, hx245_0, hx245_1, hx245_2, hl245_2, hi245_2⟩ := at_T33 HR1_2.out x5_2 p245 q245
                  cases e245
                  replace hx245_0 := hbc_ HB.out hx245_0; replace hx245_1 := hbc_ HB.out hx245_1; replace hx245_2 := hbc_ HB.out hx245_2; have HR245_2 := Aside0.mk hi245_2; have HC245_2 := Aside0.mk hl245_2; clear hi245_2 hl245_2; replace p245 := eq_true p245; replace q245 := eq_true q245
                  go_wp2_with (first | ((with_reducible refine gate_callee (f := 101) rfl ?_); refine goesM_ (some 28) rfl rfl Try.func101 (by kernel_rfl) rfl #[.slice A0 l0.length c0, .agg #[.int .i64 ((rd_I_Term l1_2 x5_2).f0), .int .i64 ((rd_I_Term l1_2 x5_2).f1), .slice A245_2 ((rd_I_Term l1_2 x5_2).f2).length c245_2]] rfl ?_; (with_reducible refine (ih k2 (by have := HJ2.out; have := HK2.out; omega) _ _ l0 ((rd_I_Term l1_2 x5_2).f0) ((rd_I_Term l1_2 x5_2).f1) _ _ ((rd_I_Term l1_2 x5_2).f2) true _ ?side1 ?side2 ?side3 ?side4 A12.out).mono ?_); (case side1 => exact cb_ HR0.out HB.out); (case side2 => exact HC0.out); (case side3 => exact cb_ HR245_2.out HB.out); (case side4 => exact HC245_2.out); rintro e w15 ⟨rfl, hb⟩; refine ⟨_, rfl, ?_⟩; have n0_ := Aside0.mk (blk_below (bk_ BK243.out) hb); have n1_ := Aside0.mk (below_step (bs1_ HB.out GE243.out) hb); clear BK243; clear HB; have BK243 := n0_; have HB := n1_; clear n0_ n1_; (try clear hb); (try clear hb2); (try clear hk); (try clear hi)))
                  go_roundg k2
                  case measure => have := HJ2.out; have := HK2.out; omega
                  case rel => exact ⟨(wrap64 (x5_2 + 1)), (by first | rfl | (simp; done) | (simp [*]; done)), H', ⟨by have := HJ2.out; have := HK2.out; omega⟩, ⟨bk_ BK243.out⟩, ⟨bs1_ HB.out GE243.out⟩⟩
                · replace c13 := Bool.eq_false_iff.mpr c13; subst c13; rw [if_neg (show ¬ (false = true) by decide)] at H; obtain rfl := Option.some.inj H; have hcz16_0 := bc_ BK243.out 0; have hcz16_1 := bc_ BK243.out 1; have hcz16_2 := bc_ BK243.out 2; have hfz16_0 := blk_frozen BK243.out 0; have hfz16_1 := blk_frozen BK243.out 1; have hfz16_2 := blk_frozen BK243.out 2; have p245 : 0 ≤ (x5_2 : Int) := as_; have q245 : x5_2 < (l1_2.length : Int) := as_; obtain ⟨ad245, A245_2, c245_2, e245, hx245_0, hx245_1, hx245_2, hl245_2, hi245_2⟩ := at_T33 HR1_2.out x5_2 p245 q245
                  cases e245
                  replace hx245_0 := hbc_ HB.out hx245_0; replace hx245_1 := hbc_ HB.out hx245_1; replace hx245_2 := hbc_ HB.out hx245_2; have HR245_2 := Aside0.mk hi245_2; have HC245_2 := Aside0.mk hl245_2; clear hi245_2 hl245_2; replace p245 := eq_true p245; replace q245 := eq_true q245
                  go_wp2_with (first | ((with_reducible refine gate_callee (f := 101) rfl ?_); refine goesM_ (some 28) rfl rfl Try.func101 (by kernel_rfl) rfl #[.slice A0 l0.length c0, .agg #[.int .i64 ((rd_I_Term l1_2 x5_2).f0), .int .i64 ((rd_I_Term l1_2 x5_2).f1), .slice A245_2 ((rd_I_Term l1_2 x5_2).f2).length c245_2]] rfl ?_; (with_reducible refine (ih k2 (by have := HJ2.out; have := HK2.out; omega) _ _ l0 ((rd_I_Term l1_2 x5_2).f0) ((rd_I_Term l1_2 x5_2).f1) _ _ ((rd_I_Term l1_2 x5_2).f2) false _ ?side1 ?side2 ?side3 ?side4 A12.out).mono ?_); (case side1 => exact cb_ HR0.out HB.out); (case side2 => exact HC0.out); (case side3 => exact cb_ HR245_2.out HB.out); (case side4 => exact HC245_2.out); rintro e w17 ⟨rfl, hb⟩; refine ⟨_, rfl, ?_⟩; have n0_ := Aside0.mk (blk_below (bk_ BK243.out) hb); have n1_ := Aside0.mk (below_step (bs1_ HB.out GE243.out) hb); clear BK243; clear HB; have BK243 := n0_; have HB := n1_; clear n0_ n1_; (try clear hb); (try clear hb2); (try clear hk); (try clear hi)))
                  go_ret
                  exact fin_ (bs1_ HB.out GE243.out)
              · rw [if_neg c11] at H; exact absurd H (by simp)
            · rw [if_neg c10] at H; have c10b0 := decide_eq_false c10; clear c10; obtain rfl := Option.some.inj H; have hcz18_0 := bc_ BK243.out 0; have hcz18_1 := bc_ BK243.out 1; have hcz18_2 := bc_ BK243.out 2; have hfz18_0 := blk_frozen BK243.out 0; have hfz18_1 := blk_frozen BK243.out 1; have hfz18_2 := blk_frozen BK243.out 2
              go_wp2
              go_ret
              exact fin_ (bs1_ HB.out GE243.out)

/-! ### spec_CloseOk: function 45 -/
def spec_CloseOk.l0 : Nat → List (I_Sym) → List (I_Lit) → Int → Option (Bool)
  | 0, _, _, _ => none
  | k + 1, x0, x1, x5 => if x5 < (x1.length : Int) then (if 0 ≤ x5 then ((spec_LitOk.f k x0 ((rd_I_Lit x1 x5).f0) ((rd_I_Lit x1 x5).f1.f0) ((rd_I_Lit x1 x5).f1.f1) ((rd_I_Lit x1 x5).f1.f2) ((rd_I_Lit x1 x5).f2.f0) ((rd_I_Lit x1 x5).f2.f1) ((rd_I_Lit x1 x5).f2.f2)).bind fun t249 => (if t249 = true then (if ((rd_I_Lit x1 x5).f0 = true) then ((spec_l30Plain.f k x0 ((rd_I_Lit x1 x5).f1.f0) ((rd_I_Lit x1 x5).f1.f1) ((rd_I_Lit x1 x5).f1.f2)).bind fun t252 => (if t252 = true then ((spec_l30Plain.f k x0 ((rd_I_Lit x1 x5).f2.f0) ((rd_I_Lit x1 x5).f2.f1) ((rd_I_Lit x1 x5).f2.f2)).bind fun t254 => (if t254 = true then (spec_CloseOk.l0 k x0 x1 (wrap64 (x5 + 1))) else (some false))) else (some false))) else (some false)) else (some false))) else (none)) else ((spec_SigOk.f k x0).bind fun t247 => (if t247 = true then (some (decide ((x1.length : Int) ≤ 8))) else (some false)))
def spec_CloseOk.f (k : Nat) (l0 : List (I_Sym)) (l1 : List (I_Lit)) : Option (Bool) := spec_CloseOk.l0 k l0 l1 0
theorem spec_CloseOk.mono_l : ∀ k, (∀ y0 y1 y2, LeO (spec_CloseOk.l0 k y0 y1 y2) (spec_CloseOk.l0 (k + 1) y0 y1 y2))
  | 0 => fun _ _ _ r h => by simp [spec_CloseOk.l0] at h
  | k + 1 => by
    have ih0 := spec_CloseOk.mono_l k
    · intro y0 y1 y2
      unfold spec_CloseOk.l0
      repeat' first
      | (with_reducible exact ih0 _ _ _)
      | (with_reducible exact spec_LitOk.mono _ _ _ _ _ _ _ _ _)
      | (with_reducible exact spec_SigOk.mono _ _)
      | (with_reducible exact spec_l30Plain.mono _ _ _ _ _)
      | (with_reducible exact LeO.refl _)
      | (with_reducible exact LeO.none _)
      | (with_reducible refine LeO.ite ?_ ?_)
      | (with_reducible refine LeO.bind ?_ (fun _ => ?_))
      | exact ih0 _ _ _
      | exact spec_LitOk.mono _ _ _ _ _ _ _ _ _
      | exact spec_SigOk.mono _ _
      | exact spec_l30Plain.mono _ _ _ _ _
      | exact LeO.none _
      | refine LeO.ite ?_ ?_
      | refine LeO.bind ?_ (fun _ => ?_)
theorem spec_CloseOk.mono : ∀ a0 a1 k, LeO (spec_CloseOk.f k a0 a1) (spec_CloseOk.f (k + 1) a0 a1) := by
  intro a0 a1 k; have ih0 := spec_CloseOk.mono_l k
  unfold spec_CloseOk.f
  repeat' first
      | (with_reducible exact ih0 _ _ _)
      | (with_reducible exact spec_LitOk.mono _ _ _ _ _ _ _ _ _)
      | (with_reducible exact spec_SigOk.mono _ _)
      | (with_reducible exact spec_l30Plain.mono _ _ _ _ _)
      | (with_reducible exact LeO.refl _)
      | (with_reducible exact LeO.none _)
      | (with_reducible refine LeO.ite ?_ ?_)
      | (with_reducible refine LeO.bind ?_ (fun _ => ?_))
      | exact ih0 _ _ _
      | exact spec_LitOk.mono _ _ _ _ _ _ _ _ _
      | exact spec_SigOk.mono _ _
      | exact spec_l30Plain.mono _ _ _ _ _
      | exact LeO.none _
      | refine LeO.ite ?_ ?_
      | refine LeO.bind ?_ (fun _ => ?_)
set_option maxHeartbeats 8000000 in
set_option maxRecDepth 100000 in
theorem spec_CloseOk.calls (k : Nat) (A0 : Option Addr) (c0 : Nat) (l0 : List (I_Sym)) (A1 : Option Addr) (c1 : Nat) (l1 : List (I_Lit)) (r : Bool) (w : World) (hr0 : Kd.C k99 w A0 l0.length l0) (hc0 : l0.length ≤ c0) (hr1 : Kd.C k119 w A1 l1.length l1) (hc1 : l1.length ≤ c1) (h : spec_CloseOk.f k l0 l1 = some r) :
    Calls Try.prog 45 #[.slice A0 l0.length c0, .slice A1 l1.length c1] w fun e w' => e = .returned (.bool r) ∧ Below w.heap.size w w' := by
  have hu119 := Try.underlying119; have hu33 := Try.underlying33; have HR0 := Aside0.mk hr0; have HC0 := Aside0.mk hc0; clear hr0 hc0; have HR1 := Aside0.mk hr1; have HC1 := Aside0.mk hc1; clear hr1 hc1; have HB := Aside0.mk (Below.refl w.heap.size w); have H : (spec_CloseOk.l0 k l0 l1 0) = some r := h; clear h; have H' := Aside0.mk H; clear H
  go_enter Try.func45, Try.ntmps45
  go_wp2
  go_loopg [5] k (fun kq v5 w' => ∃ (x5_1 : Int), v5 = .int .i64 x5_1 ∧ Aside0 (spec_CloseOk.l0 kq l0 l1 x5_1 = some r) ∧ Aside0 (kq ≤ k) ∧ Aside0 (Below w.heap.size w w'))
  case atStart => exact ⟨(0), (by first | rfl | (simp; done) | (simp [*]; done)), H', ⟨Nat.le_refl _⟩, ⟨by repeat (first | (with_reducible first | exact HB.out | apply below_alloc | apply pw_below_drewN | apply below_drew1) | exact HB.out)⟩⟩
  case round =>
    clear H'; (try clear c1); (try clear p2); obtain ⟨x5_1, rfl, HA, HK1, HB⟩ := hrel
    cases gk with
    | zero => exact absurd HA.out (by simp [spec_CloseOk.l0])
    | succ k1 =>
      have H := HA.out; clear HA
      simp only [spec_CloseOk.l0] at H
      by_cases c3 : x5_1 < (l1.length : Int)
      · rw [if_pos c3] at H; have c3b0 := decide_eq_true c3; clear c3
        by_cases c4 : 0 ≤ x5_1
        · rw [if_pos c4] at H; have c4b0 := decide_eq_true c4; clear c4; replace H := Option.bind_eq_some_iff.mp H; obtain ⟨t249, A50, H⟩ := H; replace H : (if t249 = true then (if ((rd_I_Lit l1 x5_1).f0 = true) then ((spec_l30Plain.f k1 l0 ((rd_I_Lit l1 x5_1).f1.f0) ((rd_I_Lit l1 x5_1).f1.f1) ((rd_I_Lit l1 x5_1).f1.f2)).bind fun t252 => (if t252 = true then ((spec_l30Plain.f k1 l0 ((rd_I_Lit l1 x5_1).f2.f0) ((rd_I_Lit l1 x5_1).f2.f1) ((rd_I_Lit l1 x5_1).f2.f2)).bind fun t254 => (if t254 = true then (spec_CloseOk.l0 k1 l0 l1 (wrap64 (x5_1 + 1))) else (some false))) else (some false))) else (some false)) else (some false)) = some r := H; have A5 := Aside0.mk A50; clear A50
          by_cases c6 : t249 = true
          · subst c6; rw [if_pos rfl] at H; obtain ⟨bq7, hbq7⟩ : ∃ b_ : Bool, b_ = ((rd_I_Lit l1 x5_1).f0) := ⟨_, rfl⟩; replace H : (if (bq7 = true) then ((spec_l30Plain.f k1 l0 ((rd_I_Lit l1 x5_1).f1.f0) ((rd_I_Lit l1 x5_1).f1.f1) ((rd_I_Lit l1 x5_1).f1.f2)).bind fun t252 => (if t252 = true then ((spec_l30Plain.f k1 l0 ((rd_I_Lit l1 x5_1).f2.f0) ((rd_I_Lit l1 x5_1).f2.f1) ((rd_I_Lit l1 x5_1).f2.f2)).bind fun t254 => (if t254 = true then (spec_CloseOk.l0 k1 l0 l1 (wrap64 (x5_1 + 1))) else (some false))) else (some false))) else (some false)) = some r := by rw [← hbq7] at H; exact H
            have Nbq7 := Aside0.mk hbq7; clear hbq7; (try rw [← Nbq7.out] at A5)
            by_cases c8 : (bq7 = true)
            · subst c8; rw [if_pos rfl] at H; replace H := Option.bind_eq_some_iff.mp H; obtain ⟨t252, A90, H⟩ := H; replace H : (if t252 = true then ((spec_l30Plain.f k1 l0 ((rd_I_Lit l1 x5_1).f2.f0) ((rd_I_Lit l1 x5_1).f2.f1) ((rd_I_Lit l1 x5_1).f2.f2)).bind fun t254 => (if t254 = true then (spec_CloseOk.l0 k1 l0 l1 (wrap64 (x5_1 + 1))) else (some false))) else (some false)) = some r := H; have A9 := Aside0.mk A90; clear A90
              by_cases c10 : t252 = true
              · subst c10; rw [if_pos rfl] at H; replace H := Option.bind_eq_some_iff.mp H; obtain ⟨t254, A110, H⟩ := H; replace H : (if t254 = true then (spec_CloseOk.l0 k1 l0 l1 (wrap64 (x5_1 + 1))) else (some false)) = some r := H; have A11 := Aside0.mk A110; clear A110
                by_cases c12 : t254 = true
                · subst c12; rw [if_pos rfl] at H; have H' := Aside0.mk H; clear H; have p248 : 0 ≤ (x5_1 : Int) := as_; have q248 : x5_1 < (l1.length : Int) := as_; obtain ⟨ad248, A248_3, c248_3, A248_6, c248_6, e248, hx248_0, hx248_1, hx248_2, hx248_3, hx248_4, hx248_5, hx248_6, hl248_3, hi248_3, hl248_6, hi248_6⟩ := at_T119 HR1.out x5_1 p248 q248; (try rw [← Nbq7.out] at hx248_0); (try rw [← Nbq7.out] at hw248_0)
                  cases e248
                  replace hx248_0 := hbc_ HB.out hx248_0; replace hx248_1 := hbc_ HB.out hx248_1; replace hx248_2 := hbc_ HB.out hx248_2; replace hx248_3 := hbc_ HB.out hx248_3; replace hx248_4 := hbc_ HB.out hx248_4; replace hx248_5 := hbc_ HB.out hx248_5; replace hx248_6 := hbc_ HB.out hx248_6; have HR248_3 := Aside0.mk hi248_3; have HC248_3 := Aside0.mk hl248_3; clear hi248_3 hl248_3; have HR248_6 := Aside0.mk hi248_6; have HC248_6 := Aside0.mk hl248_6; clear hi248_6 hl248_6; replace p248 := eq_true p248; replace q248 := eq_true q248
                  go_wp2_with (first | ((with_reducible refine gate_callee (f := 100) rfl ?_); refine goesM_ (some 17) rfl rfl Try.func100 (by kernel_rfl) rfl #[.slice A0 l0.length c0, .agg #[.bool true, .int .i64 ((rd_I_Lit l1 x5_1).f1.f0), .int .i64 ((rd_I_Lit l1 x5_1).f1.f1), .slice A248_3 ((rd_I_Lit l1 x5_1).f1.f2).length c248_3, .int .i64 ((rd_I_Lit l1 x5_1).f2.f0), .int .i64 ((rd_I_Lit l1 x5_1).f2.f1), .slice A248_6 ((rd_I_Lit l1 x5_1).f2.f2).length c248_6]] rfl ?_; (with_reducible refine (spec_LitOk.calls k1 _ _ l0 true ((rd_I_Lit l1 x5_1).f1.f0) ((rd_I_Lit l1 x5_1).f1.f1) _ _ ((rd_I_Lit l1 x5_1).f1.f2) ((rd_I_Lit l1 x5_1).f2.f0) ((rd_I_Lit l1 x5_1).f2.f1) _ _ ((rd_I_Lit l1 x5_1).f2.f2) true _ ?side1 ?side2 ?side3 ?side4 ?side5 ?side6 A5.out).mono ?_); (case side1 => exact cb_ HR0.out HB.out); (case side2 => exact HC0.out); (case side3 => exact cb_ HR248_3.out HB.out); (case side4 => exact HC248_3.out); (case side5 => exact cb_ HR248_6.out HB.out); (case side6 => exact HC248_6.out); rintro e w13 ⟨rfl, hb⟩; refine ⟨_, rfl, ?_⟩; have n0_ := Aside0.mk (below_step (bl_ HB.out) hb); clear HB; have HB := n0_; clear n0_; (try clear hb); (try clear hb2); (try clear hk); (try clear hi); have p250 : 0 ≤ (x5_1 : Int) := as_; have q250 : x5_1 < (l1.length : Int) := as_; obtain ⟨ad250, A250_3, c250_3, A250_6, c250_6, e250, hx250_0, hx250_1, hx250_2, hx250_3, hx250_4, hx250_5, hx250_6, hl250_3, hi250_3, hl250_6, hi250_6⟩ := at_T119 HR1.out x5_1 p250 q250; (try rw [← Nbq7.out] at hx250_0); obtain rfl : ad248 = ad250 := (by injection e250); replace hx250_0 := hbc_ HB.out hx250_0; replace hx250_1 := hbc_ HB.out hx250_1; replace hx250_2 := hbc_ HB.out hx250_2; replace hx250_3 := hbc_ HB.out hx250_3; replace hx250_4 := hbc_ HB.out hx250_4; replace hx250_5 := hbc_ HB.out hx250_5; replace hx250_6 := hbc_ HB.out hx250_6; have HR250_3 := Aside0.mk hi250_3; have HC250_3 := Aside0.mk hl250_3; clear hi250_3 hl250_3; have HR250_6 := Aside0.mk hi250_6; have HC250_6 := Aside0.mk hl250_6; clear hi250_6 hl250_6; replace p250 := eq_true p250; replace q250 := eq_true q250; have p251 : 0 ≤ (x5_1 : Int) := as_; have q251 : x5_1 < (l1.length : Int) := as_; obtain ⟨ad251, A251_3, c251_3, A251_6, c251_6, e251, hx251_0, hx251_1, hx251_2, hx251_3, hx251_4, hx251_5, hx251_6, hl251_3, hi251_3, hl251_6, hi251_6⟩ := at_T119 HR1.out x5_1 p251 q251; (try rw [← Nbq7.out] at hx251_0); obtain rfl : ad248 = ad251 := (by injection e251); replace hx251_0 := hbc_ HB.out hx251_0; replace hx251_1 := hbc_ HB.out hx251_1; replace hx251_2 := hbc_ HB.out hx251_2; replace hx251_3 := hbc_ HB.out hx251_3; replace hx251_4 := hbc_ HB.out hx251_4; replace hx251_5 := hbc_ HB.out hx251_5; replace hx251_6 := hbc_ HB.out hx251_6; have HR251_3 := Aside0.mk hi251_3; have HC251_3 := Aside0.mk hl251_3; clear hi251_3 hl251_3; have HR251_6 := Aside0.mk hi251_6; have HC251_6 := Aside0.mk hl251_6; clear hi251_6 hl251_6; replace p251 := eq_true p251; replace q251 := eq_true q251; have ea_ := Option.some.inj (hx250_3.symm.trans hx251_3); injection ea_ with ea_ en_ ec_; subst ea_; subst ec_; clear en_; have ea_ := Option.some.inj (hx250_6.symm.trans hx251_6); injection ea_ with ea_ en_ ec_; subst ea_; subst ec_; clear en_) | (go_at_call 101; (with_reducible refine (spec_l30Plain.calls k1 _ _ l0 ((rd_I_Lit l1 x5_1).f1.f0) ((rd_I_Lit l1 x5_1).f1.f1) _ _ ((rd_I_Lit l1 x5_1).f1.f2) true _ ?side1 ?side2 ?side3 ?side4 A9.out).mono ?_); (case side1 => exact cb_ HR0.out HB.out); (case side2 => exact HC0.out); (case side3 => exact cb_ HR251_3.out HB.out); (case side4 => exact HC251_3.out); rintro e w14 ⟨rfl, hb⟩; have n0_ := Aside0.mk (below_step (bl_ HB.out) hb); clear HB; have HB := n0_; clear n0_; (try clear hb); (try clear hb2); (try clear hk); (try clear hi); have p253 : 0 ≤ (x5_1 : Int) := as_; have q253 : x5_1 < (l1.length : Int) := as_; obtain ⟨ad253, A253_3, c253_3, A253_6, c253_6, e253, hx253_0, hx253_1, hx253_2, hx253_3, hx253_4, hx253_5, hx253_6, hl253_3, hi253_3, hl253_6, hi253_6⟩ := at_T119 HR1.out x5_1 p253 q253; (try rw [← Nbq7.out] at hx253_0); obtain rfl : ad248 = ad253 := (by injection e253); replace hx253_0 := hbc_ HB.out hx253_0; replace hx253_1 := hbc_ HB.out hx253_1; replace hx253_2 := hbc_ HB.out hx253_2; replace hx253_3 := hbc_ HB.out hx253_3; replace hx253_4 := hbc_ HB.out hx253_4; replace hx253_5 := hbc_ HB.out hx253_5; replace hx253_6 := hbc_ HB.out hx253_6; have HR253_3 := Aside0.mk hi253_3; have HC253_3 := Aside0.mk hl253_3; clear hi253_3 hl253_3; have HR253_6 := Aside0.mk hi253_6; have HC253_6 := Aside0.mk hl253_6; clear hi253_6 hl253_6; replace p253 := eq_true p253; replace q253 := eq_true q253) | (go_at_call 101; (with_reducible refine (spec_l30Plain.calls k1 _ _ l0 ((rd_I_Lit l1 x5_1).f2.f0) ((rd_I_Lit l1 x5_1).f2.f1) _ _ ((rd_I_Lit l1 x5_1).f2.f2) true _ ?side1 ?side2 ?side3 ?side4 A11.out).mono ?_); (case side1 => exact cb_ HR0.out HB.out); (case side2 => exact HC0.out); (case side3 => exact cb_ HR253_6.out HB.out); (case side4 => exact HC253_6.out); rintro e w15 ⟨rfl, hb⟩; have n0_ := Aside0.mk (below_step (bl_ HB.out) hb); clear HB; have HB := n0_; clear n0_; (try clear hb); (try clear hb2); (try clear hk); (try clear hi)))
                  go_roundg k1
                  case measure => have := HK1.out; omega
                  case rel => exact ⟨(wrap64 (x5_1 + 1)), (by first | rfl | (simp; done) | (simp [*]; done)), H', ⟨by have := HK1.out; omega⟩, ⟨by repeat (first | (with_reducible first | exact HB.out | apply below_alloc | apply pw_below_drewN | apply below_drew1) | exact HB.out)⟩⟩
                · replace c12 := Bool.eq_false_iff.mpr c12; subst c12; rw [if_neg (show ¬ (false = true) by decide)] at H; obtain rfl := Option.some.inj H; have p248 : 0 ≤ (x5_1 : Int) := as_; have q248 : x5_1 < (l1.length : Int) := as_; obtain ⟨ad248, A248_3, c248_3, A248_6, c248_6, e248, hx248_0, hx248_1, hx248_2, hx248_3, hx248_4, hx248_5, hx248_6, hl248_3, hi248_3, hl248_6, hi248_6⟩ := at_T119 HR1.out x5_1 p248 q248; (try rw [← Nbq7.out] at hx248_0); (try rw [← Nbq7.out] at hw248_0)
                  cases e248
                  replace hx248_0 := hbc_ HB.out hx248_0; replace hx248_1 := hbc_ HB.out hx248_1; replace hx248_2 := hbc_ HB.out hx248_2; replace hx248_3 := hbc_ HB.out hx248_3; replace hx248_4 := hbc_ HB.out hx248_4; replace hx248_5 := hbc_ HB.out hx248_5; replace hx248_6 := hbc_ HB.out hx248_6; have HR248_3 := Aside0.mk hi248_3; have HC248_3 := Aside0.mk hl248_3; clear hi248_3 hl248_3; have HR248_6 := Aside0.mk hi248_6; have HC248_6 := Aside0.mk hl248_6; clear hi248_6 hl248_6; replace p248 := eq_true p248; replace q248 := eq_true q248
                  go_wp2_with (first | ((with_reducible refine gate_callee (f := 100) rfl ?_); refine goesM_ (some 17) rfl rfl Try.func100 (by kernel_rfl) rfl #[.slice A0 l0.length c0, .agg #[.bool true, .int .i64 ((rd_I_Lit l1 x5_1).f1.f0), .int .i64 ((rd_I_Lit l1 x5_1).f1.f1), .slice A248_3 ((rd_I_Lit l1 x5_1).f1.f2).length c248_3, .int .i64 ((rd_I_Lit l1 x5_1).f2.f0), .int .i64 ((rd_I_Lit l1 x5_1).f2.f1), .slice A248_6 ((rd_I_Lit l1 x5_1).f2.f2).length c248_6]] rfl ?_; (with_reducible refine (spec_LitOk.calls k1 _ _ l0 true ((rd_I_Lit l1 x5_1).f1.f0) ((rd_I_Lit l1 x5_1).f1.f1) _ _ ((rd_I_Lit l1 x5_1).f1.f2) ((rd_I_Lit l1 x5_1).f2.f0) ((rd_I_Lit l1 x5_1).f2.f1) _ _ ((rd_I_Lit l1 x5_1).f2.f2) true _ ?side1 ?side2 ?side3 ?side4 ?side5 ?side6 A5.out).mono ?_); (case side1 => exact cb_ HR0.out HB.out); (case side2 => exact HC0.out); (case side3 => exact cb_ HR248_3.out HB.out); (case side4 => exact HC248_3.out); (case side5 => exact cb_ HR248_6.out HB.out); (case side6 => exact HC248_6.out); rintro e w16 ⟨rfl, hb⟩; refine ⟨_, rfl, ?_⟩; have n0_ := Aside0.mk (below_step (bl_ HB.out) hb); clear HB; have HB := n0_; clear n0_; (try clear hb); (try clear hb2); (try clear hk); (try clear hi); have p250 : 0 ≤ (x5_1 : Int) := as_; have q250 : x5_1 < (l1.length : Int) := as_; obtain ⟨ad250, A250_3, c250_3, A250_6, c250_6, e250, hx250_0, hx250_1, hx250_2, hx250_3, hx250_4, hx250_5, hx250_6, hl250_3, hi250_3, hl250_6, hi250_6⟩ := at_T119 HR1.out x5_1 p250 q250; (try rw [← Nbq7.out] at hx250_0); obtain rfl : ad248 = ad250 := (by injection e250); replace hx250_0 := hbc_ HB.out hx250_0; replace hx250_1 := hbc_ HB.out hx250_1; replace hx250_2 := hbc_ HB.out hx250_2; replace hx250_3 := hbc_ HB.out hx250_3; replace hx250_4 := hbc_ HB.out hx250_4; replace hx250_5 := hbc_ HB.out hx250_5; replace hx250_6 := hbc_ HB.out hx250_6; have HR250_3 := Aside0.mk hi250_3; have HC250_3 := Aside0.mk hl250_3; clear hi250_3 hl250_3; have HR250_6 := Aside0.mk hi250_6; have HC250_6 := Aside0.mk hl250_6; clear hi250_6 hl250_6; replace p250 := eq_true p250; replace q250 := eq_true q250; have p251 : 0 ≤ (x5_1 : Int) := as_; have q251 : x5_1 < (l1.length : Int) := as_; obtain ⟨ad251, A251_3, c251_3, A251_6, c251_6, e251, hx251_0, hx251_1, hx251_2, hx251_3, hx251_4, hx251_5, hx251_6, hl251_3, hi251_3, hl251_6, hi251_6⟩ := at_T119 HR1.out x5_1 p251 q251; (try rw [← Nbq7.out] at hx251_0); obtain rfl : ad248 = ad251 := (by injection e251); replace hx251_0 := hbc_ HB.out hx251_0; replace hx251_1 := hbc_ HB.out hx251_1; replace hx251_2 := hbc_ HB.out hx251_2; replace hx251_3 := hbc_ HB.out hx251_3; replace hx251_4 := hbc_ HB.out hx251_4; replace hx251_5 := hbc_ HB.out hx251_5; replace hx251_6 := hbc_ HB.out hx251_6; have HR251_3 := Aside0.mk hi251_3; have HC251_3 := Aside0.mk hl251_3; clear hi251_3 hl251_3; have HR251_6 := Aside0.mk hi251_6; have HC251_6 := Aside0.mk hl251_6; clear hi251_6 hl251_6; replace p251 := eq_true p251; replace q251 := eq_true q251; have ea_ := Option.some.inj (hx250_3.symm.trans hx251_3); injection ea_ with ea_ en_ ec_; subst ea_; subst ec_; clear en_; have ea_ := Option.some.inj (hx250_6.symm.trans hx251_6); injection ea_ with ea_ en_ ec_; subst ea_; subst ec_; clear en_) | (go_at_call 101; (with_reducible refine (spec_l30Plain.calls k1 _ _ l0 ((rd_I_Lit l1 x5_1).f1.f0) ((rd_I_Lit l1 x5_1).f1.f1) _ _ ((rd_I_Lit l1 x5_1).f1.f2) true _ ?side1 ?side2 ?side3 ?side4 A9.out).mono ?_); (case side1 => exact cb_ HR0.out HB.out); (case side2 => exact HC0.out); (case side3 => exact cb_ HR251_3.out HB.out); (case side4 => exact HC251_3.out); rintro e w17 ⟨rfl, hb⟩; have n0_ := Aside0.mk (below_step (bl_ HB.out) hb); clear HB; have HB := n0_; clear n0_; (try clear hb); (try clear hb2); (try clear hk); (try clear hi); have p253 : 0 ≤ (x5_1 : Int) := as_; have q253 : x5_1 < (l1.length : Int) := as_; obtain ⟨ad253, A253_3, c253_3, A253_6, c253_6, e253, hx253_0, hx253_1, hx253_2, hx253_3, hx253_4, hx253_5, hx253_6, hl253_3, hi253_3, hl253_6, hi253_6⟩ := at_T119 HR1.out x5_1 p253 q253; (try rw [← Nbq7.out] at hx253_0); obtain rfl : ad248 = ad253 := (by injection e253); replace hx253_0 := hbc_ HB.out hx253_0; replace hx253_1 := hbc_ HB.out hx253_1; replace hx253_2 := hbc_ HB.out hx253_2; replace hx253_3 := hbc_ HB.out hx253_3; replace hx253_4 := hbc_ HB.out hx253_4; replace hx253_5 := hbc_ HB.out hx253_5; replace hx253_6 := hbc_ HB.out hx253_6; have HR253_3 := Aside0.mk hi253_3; have HC253_3 := Aside0.mk hl253_3; clear hi253_3 hl253_3; have HR253_6 := Aside0.mk hi253_6; have HC253_6 := Aside0.mk hl253_6; clear hi253_6 hl253_6; replace p253 := eq_true p253; replace q253 := eq_true q253) | (go_at_call 101; (with_reducible refine (spec_l30Plain.calls k1 _ _ l0 ((rd_I_Lit l1 x5_1).f2.f0) ((rd_I_Lit l1 x5_1).f2.f1) _ _ ((rd_I_Lit l1 x5_1).f2.f2) false _ ?side1 ?side2 ?side3 ?side4 A11.out).mono ?_); (case side1 => exact cb_ HR0.out HB.out); (case side2 => exact HC0.out); (case side3 => exact cb_ HR253_6.out HB.out); (case side4 => exact HC253_6.out); rintro e w18 ⟨rfl, hb⟩; have n0_ := Aside0.mk (below_step (bl_ HB.out) hb); clear HB; have HB := n0_; clear n0_; (try clear hb); (try clear hb2); (try clear hk); (try clear hi)))
                  go_ret
                  exact fin_ (bl_ HB.out)
              · replace c10 := Bool.eq_false_iff.mpr c10; subst c10; rw [if_neg (show ¬ (false = true) by decide)] at H; obtain rfl := Option.some.inj H; have p248 : 0 ≤ (x5_1 : Int) := as_; have q248 : x5_1 < (l1.length : Int) := as_; obtain ⟨ad248, A248_3, c248_3, A248_6, c248_6, e248, hx248_0, hx248_1, hx248_2, hx248_3, hx248_4, hx248_5, hx248_6, hl248_3, hi248_3, hl248_6, hi248_6⟩ := at_T119 HR1.out x5_1 p248 q248; (try rw [← Nbq7.out] at hx248_0); (try rw [← Nbq7.out] at hw248_0)
                cases e248
                replace hx248_0 := hbc_ HB.out hx248_0; replace hx248_1 := hbc_ HB.out hx248_1; replace hx248_2 := hbc_ HB.out hx248_2; replace hx248_3 := hbc_ HB.out hx248_3; replace hx248_4 := hbc_ HB.out hx248_4; replace hx248_5 := hbc_ HB.out hx248_5; replace hx248_6 := hbc_ HB.out hx248_6; have HR248_3 := Aside0.mk hi248_3; have HC248_3 := Aside0.mk hl248_3; clear hi248_3 hl248_3; have HR248_6 := Aside0.mk hi248_6; have HC248_6 := Aside0.mk hl248_6; clear hi248_6 hl248_6; replace p248 := eq_true p248; replace q248 := eq_true q248
                go_wp2_with (first | ((with_reducible refine gate_callee (f := 100) rfl ?_); refine goesM_ (some 17) rfl rfl Try.func100 (by kernel_rfl) rfl #[.slice A0 l0.length c0, .agg #[.bool true, .int .i64 ((rd_I_Lit l1 x5_1).f1.f0), .int .i64 ((rd_I_Lit l1 x5_1).f1.f1), .slice A248_3 ((rd_I_Lit l1 x5_1).f1.f2).length c248_3, .int .i64 ((rd_I_Lit l1 x5_1).f2.f0), .int .i64 ((rd_I_Lit l1 x5_1).f2.f1), .slice A248_6 ((rd_I_Lit l1 x5_1).f2.f2).length c248_6]] rfl ?_; (with_reducible refine (spec_LitOk.calls k1 _ _ l0 true ((rd_I_Lit l1 x5_1).f1.f0) ((rd_I_Lit l1 x5_1).f1.f1) _ _ ((rd_I_Lit l1 x5_1).f1.f2) ((rd_I_Lit l1 x5_1).f2.f0) ((rd_I_Lit l1 x5_1).f2.f1) _ _ ((rd_I_Lit l1 x5_1).f2.f2) true _ ?side1 ?side2 ?side3 ?side4 ?side5 ?side6 A5.out).mono ?_); (case side1 => exact cb_ HR0.out HB.out); (case side2 => exact HC0.out); (case side3 => exact cb_ HR248_3.out HB.out); (case side4 => exact HC248_3.out); (case side5 => exact cb_ HR248_6.out HB.out); (case side6 => exact HC248_6.out); rintro e w19 ⟨rfl, hb⟩; refine ⟨_, rfl, ?_⟩; have n0_ := Aside0.mk (below_step (bl_ HB.out) hb); clear HB; have HB := n0_; clear n0_; (try clear hb); (try clear hb2); (try clear hk); (try clear hi); have p250 : 0 ≤ (x5_1 : Int) := as_; have q250 : x5_1 < (l1.length : Int) := as_; obtain ⟨ad250, A250_3, c250_3, A250_6, c250_6, e250, hx250_0, hx250_1, hx250_2, hx250_3, hx250_4, hx250_5, hx250_6, hl250_3, hi250_3, hl250_6, hi250_6⟩ := at_T119 HR1.out x5_1 p250 q250; (try rw [← Nbq7.out] at hx250_0); obtain rfl : ad248 = ad250 := (by injection e250); replace hx250_0 := hbc_ HB.out hx250_0; replace hx250_1 := hbc_ HB.out hx250_1; replace hx250_2 := hbc_ HB.out hx250_2; replace hx250_3 := hbc_ HB.out hx250_3; replace hx250_4 := hbc_ HB.out hx250_4; replace hx250_5 := hbc_ HB.out hx250_5; replace hx250_6 := hbc_ HB.out hx250_6; have HR250_3 := Aside0.mk hi250_3; have HC250_3 := Aside0.mk hl250_3; clear hi250_3 hl250_3; have HR250_6 := Aside0.mk hi250_6; have HC250_6 := Aside0.mk hl250_6; clear hi250_6 hl250_6; replace p250 := eq_true p250; replace q250 := eq_true q250; have p251 : 0 ≤ (x5_1 : Int) := as_; have q251 : x5_1 < (l1.length : Int) := as_; obtain ⟨ad251, A251_3, c251_3, A251_6, c251_6, e251, hx251_0, hx251_1, hx251_2, hx251_3, hx251_4, hx251_5, hx251_6, hl251_3, hi251_3, hl251_6, hi251_6⟩ := at_T119 HR1.out x5_1 p251 q251; (try rw [← Nbq7.out] at hx251_0); obtain rfl : ad248 = ad251 := (by injection e251); replace hx251_0 := hbc_ HB.out hx251_0; replace hx251_1 := hbc_ HB.out hx251_1; replace hx251_2 := hbc_ HB.out hx251_2; replace hx251_3 := hbc_ HB.out hx251_3; replace hx251_4 := hbc_ HB.out hx251_4; replace hx251_5 := hbc_ HB.out hx251_5; replace hx251_6 := hbc_ HB.out hx251_6; have HR251_3 := Aside0.mk hi251_3; have HC251_3 := Aside0.mk hl251_3; clear hi251_3 hl251_3; have HR251_6 := Aside0.mk hi251_6; have HC251_6 := Aside0.mk hl251_6; clear hi251_6 hl251_6; replace p251 := eq_true p251; replace q251 := eq_true q251; have ea_ := Option.some.inj (hx250_3.symm.trans hx251_3); injection ea_ with ea_ en_ ec_; subst ea_; subst ec_; clear en_; have ea_ := Option.some.inj (hx250_6.symm.trans hx251_6); injection ea_ with ea_ en_ ec_; subst ea_; subst ec_; clear en_) | (go_at_call 101; (with_reducible refine (spec_l30Plain.calls k1 _ _ l0 ((rd_I_Lit l1 x5_1).f1.f0) ((rd_I_Lit l1 x5_1).f1.f1) _ _ ((rd_I_Lit l1 x5_1).f1.f2) false _ ?side1 ?side2 ?side3 ?side4 A9.out).mono ?_); (case side1 => exact cb_ HR0.out HB.out); (case side2 => exact HC0.out); (case side3 => exact cb_ HR251_3.out HB.out); (case side4 => exact HC251_3.out); rintro e w20 ⟨rfl, hb⟩; have n0_ := Aside0.mk (below_step (bl_ HB.out) hb); clear HB; have HB := n0_; clear n0_; (try clear hb); (try clear hb2); (try clear hk); (try clear hi)))
                go_ret
                exact fin_ (bl_ HB.out)
            · replace c8 := Bool.eq_false_iff.mpr c8; subst c8; rw [if_neg (show ¬ (false = true) by decide)] at H; obtain rfl := Option.some.inj H; have p248 : 0 ≤ (x5_1 : Int) := as_; have q248 : x5_1 < (l1.length : Int) := as_; obtain ⟨ad248, A248_3, c248_3, A248_6, c248_6, e248, hx248_0, hx248_1, hx248_2, hx248_3, hx248_4, hx248_5, hx248_6, hl248_3, hi248_3, hl248_6, hi248_6⟩ := at_T119 HR1.out x5_1 p248 q248; (try rw [← Nbq7.out] at hx248_0); (try rw [← Nbq7.out] at hw248_0)
              cases e248
              replace hx248_0 := hbc_ HB.out hx248_0; replace hx248_1 := hbc_ HB.out hx248_1; replace hx248_2 := hbc_ HB.out hx248_2; replace hx248_3 := hbc_ HB.out hx248_3; replace hx248_4 := hbc_ HB.out hx248_4; replace hx248_5 := hbc_ HB.out hx248_5; replace hx248_6 := hbc_ HB.out hx248_6; have HR248_3 := Aside0.mk hi248_3; have HC248_3 := Aside0.mk hl248_3; clear hi248_3 hl248_3; have HR248_6 := Aside0.mk hi248_6; have HC248_6 := Aside0.mk hl248_6; clear hi248_6 hl248_6; replace p248 := eq_true p248; replace q248 := eq_true q248
              go_wp2_with (first | ((with_reducible refine gate_callee (f := 100) rfl ?_); refine goesM_ (some 17) rfl rfl Try.func100 (by kernel_rfl) rfl #[.slice A0 l0.length c0, .agg #[.bool false, .int .i64 ((rd_I_Lit l1 x5_1).f1.f0), .int .i64 ((rd_I_Lit l1 x5_1).f1.f1), .slice A248_3 ((rd_I_Lit l1 x5_1).f1.f2).length c248_3, .int .i64 ((rd_I_Lit l1 x5_1).f2.f0), .int .i64 ((rd_I_Lit l1 x5_1).f2.f1), .slice A248_6 ((rd_I_Lit l1 x5_1).f2.f2).length c248_6]] rfl ?_; (with_reducible refine (spec_LitOk.calls k1 _ _ l0 false ((rd_I_Lit l1 x5_1).f1.f0) ((rd_I_Lit l1 x5_1).f1.f1) _ _ ((rd_I_Lit l1 x5_1).f1.f2) ((rd_I_Lit l1 x5_1).f2.f0) ((rd_I_Lit l1 x5_1).f2.f1) _ _ ((rd_I_Lit l1 x5_1).f2.f2) true _ ?side1 ?side2 ?side3 ?side4 ?side5 ?side6 A5.out).mono ?_); (case side1 => exact cb_ HR0.out HB.out); (case side2 => exact HC0.out); (case side3 => exact cb_ HR248_3.out HB.out); (case side4 => exact HC248_3.out); (case side5 => exact cb_ HR248_6.out HB.out); (case side6 => exact HC248_6.out); rintro e w21 ⟨rfl, hb⟩; refine ⟨_, rfl, ?_⟩; have n0_ := Aside0.mk (below_step (bl_ HB.out) hb); clear HB; have HB := n0_; clear n0_; (try clear hb); (try clear hb2); (try clear hk); (try clear hi); have p250 : 0 ≤ (x5_1 : Int) := as_; have q250 : x5_1 < (l1.length : Int) := as_; obtain ⟨ad250, A250_3, c250_3, A250_6, c250_6, e250, hx250_0, hx250_1, hx250_2, hx250_3, hx250_4, hx250_5, hx250_6, hl250_3, hi250_3, hl250_6, hi250_6⟩ := at_T119 HR1.out x5_1 p250 q250; (try rw [← Nbq7.out] at hx250_0); obtain rfl : ad248 = ad250 := (by injection e250); replace hx250_0 := hbc_ HB.out hx250_0; replace hx250_1 := hbc_ HB.out hx250_1; replace hx250_2 := hbc_ HB.out hx250_2; replace hx250_3 := hbc_ HB.out hx250_3; replace hx250_4 := hbc_ HB.out hx250_4; replace hx250_5 := hbc_ HB.out hx250_5; replace hx250_6 := hbc_ HB.out hx250_6; have HR250_3 := Aside0.mk hi250_3; have HC250_3 := Aside0.mk hl250_3; clear hi250_3 hl250_3; have HR250_6 := Aside0.mk hi250_6; have HC250_6 := Aside0.mk hl250_6; clear hi250_6 hl250_6; replace p250 := eq_true p250; replace q250 := eq_true q250))
              go_ret
              exact fin_ (bl_ HB.out)
          · replace c6 := Bool.eq_false_iff.mpr c6; subst c6; rw [if_neg (show ¬ (false = true) by decide)] at H; obtain rfl := Option.some.inj H; have p248 : 0 ≤ (x5_1 : Int) := as_; have q248 : x5_1 < (l1.length : Int) := as_; obtain ⟨ad248, A248_3, c248_3, A248_6, c248_6, e248, hx248_0, hx248_1, hx248_2, hx248_3, hx248_4, hx248_5, hx248_6, hl248_3, hi248_3, hl248_6, hi248_6⟩ := at_T119 HR1.out x5_1 p248 q248
            cases e248
            replace hx248_0 := hbc_ HB.out hx248_0; replace hx248_1 := hbc_ HB.out hx248_1; replace hx248_2 := hbc_ HB.out hx248_2; replace hx248_3 := hbc_ HB.out hx248_3; replace hx248_4 := hbc_ HB.out hx248_4; replace hx248_5 := hbc_ HB.out hx248_5; replace hx248_6 := hbc_ HB.out hx248_6; have HR248_3 := Aside0.mk hi248_3; have HC248_3 := Aside0.mk hl248_3; clear hi248_3 hl248_3; have HR248_6 := Aside0.mk hi248_6; have HC248_6 := Aside0.mk hl248_6; clear hi248_6 hl248_6; replace p248 := eq_true p248; replace q248 := eq_true q248
            go_wp2_with (first | ((with_reducible refine gate_callee (f := 100) rfl ?_); refine goesM_ (some 17) rfl rfl Try.func100 (by kernel_rfl) rfl #[.slice A0 l0.length c0, .agg #[.bool ((rd_I_Lit l1 x5_1).f0), .int .i64 ((rd_I_Lit l1 x5_1).f1.f0), .int .i64 ((rd_I_Lit l1 x5_1).f1.f1), .slice A248_3 ((rd_I_Lit l1 x5_1).f1.f2).length c248_3, .int .i64 ((rd_I_Lit l1 x5_1).f2.f0), .int .i64 ((rd_I_Lit l1 x5_1).f2.f1), .slice A248_6 ((rd_I_Lit l1 x5_1).f2.f2).length c248_6]] rfl ?_; (with_reducible refine (spec_LitOk.calls k1 _ _ l0 ((rd_I_Lit l1 x5_1).f0) ((rd_I_Lit l1 x5_1).f1.f0) ((rd_I_Lit l1 x5_1).f1.f1) _ _ ((rd_I_Lit l1 x5_1).f1.f2) ((rd_I_Lit l1 x5_1).f2.f0) ((rd_I_Lit l1 x5_1).f2.f1) _ _ ((rd_I_Lit l1 x5_1).f2.f2) false _ ?side1 ?side2 ?side3 ?side4 ?side5 ?side6 A5.out).mono ?_); (case side1 => exact cb_ HR0.out HB.out); (case side2 => exact HC0.out); (case side3 => exact cb_ HR248_3.out HB.out); (case side4 => exact HC248_3.out); (case side5 => exact cb_ HR248_6.out HB.out); (case side6 => exact HC248_6.out); rintro e w22 ⟨rfl, hb⟩; refine ⟨_, rfl, ?_⟩; have n0_ := Aside0.mk (below_step (bl_ HB.out) hb); clear HB; have HB := n0_; clear n0_; (try clear hb); (try clear hb2); (try clear hk); (try clear hi)))
            go_ret
            exact fin_ (bl_ HB.out)
        · rw [if_neg c4] at H; exact absurd H (by simp)
      · rw [if_neg c3] at H; have c3b0 := decide_eq_false c3; clear c3; replace H := Option.bind_eq_some_iff.mp H; obtain ⟨t247, A230, H⟩ := H; replace H : (if t247 = true then (some (decide ((l1.length : Int) ≤ 8))) else (some false)) = some r := H; have A23 := Aside0.mk A230; clear A230
        by_cases c24 : t247 = true
        · subst c24; rw [if_pos rfl] at H; obtain rfl := Option.some.inj H
          go_wp2_with (first | ((with_reducible refine gate_callee (f := 78) rfl ?_); refine goesM_ (some 48) rfl rfl Try.func78 (by kernel_rfl) rfl #[.slice A0 l0.length c0] rfl ?_; (with_reducible refine (spec_SigOk.calls k1 _ _ l0 true _ ?side1 ?side2 A23.out).mono ?_); (case side1 => exact cb_ HR0.out HB.out); (case side2 => exact HC0.out); rintro e w' ⟨rfl, ⟨nd, rfl⟩⟩; refine ⟨_, rfl, ?_⟩))
          go_ret
          exact fin_ (bl_ HB.out)
        · replace c24 := Bool.eq_false_iff.mpr c24; subst c24; rw [if_neg (show ¬ (false = true) by decide)] at H; obtain rfl := Option.some.inj H
          go_wp2_with (first | ((with_reducible refine gate_callee (f := 78) rfl ?_); refine goesM_ (some 48) rfl rfl Try.func78 (by kernel_rfl) rfl #[.slice A0 l0.length c0] rfl ?_; (with_reducible refine (spec_SigOk.calls k1 _ _ l0 false _ ?side1 ?side2 A23.out).mono ?_); (case side1 => exact cb_ HR0.out HB.out); (case side2 => exact HC0.out); rintro e w' ⟨rfl, ⟨nd, rfl⟩⟩; refine ⟨_, rfl, ?_⟩))
          go_ret
          exact fin_ (bl_ HB.out)

/-! ### impl_from: function 87 -/
def impl_from.f (a0 : Int) (a1 : Int) (a2 : Int) : Option (Bool) := if a0 ≥ a1 then (some (decide (a0 ≤ a2))) else (some false)
set_option maxHeartbeats 8000000 in
set_option maxRecDepth 100000 in
theorem impl_from.calls (a0 : Int) (a1 : Int) (a2 : Int) (r : Bool) (w : World) (h : impl_from.f a0 a1 a2 = some r) :
    Calls Try.prog 87 #[.int .i64 a0, .int .i64 a1, .int .i64 a2] w fun e w' => e = .returned (.bool r) ∧ Drawn0 w w' := by
  have H : (if a0 ≥ a1 then (some (decide (a0 ≤ a2))) else (some false)) = some r := h; clear h
  by_cases c4 : a0 ≥ a1
  · rw [if_pos c4] at H; have c4b0 := decide_eq_true c4; clear c4; obtain rfl := Option.some.inj H
    go_enter Try.func87, Try.ntmps87
    go_wp2
    go_ret
    exact ⟨by first | rfl | (simp; done) | (simp [*]; done), by repeat (first | exact Drawn0.refl _ | apply Drawn0.step)⟩
  · rw [if_neg c4] at H; have c4b0 := decide_eq_false c4; clear c4; obtain rfl := Option.some.inj H
    go_enter Try.func87, Try.ntmps87
    go_wp2
    go_ret
    exact ⟨by first | rfl | (simp; done) | (simp [*]; done), by repeat (first | exact Drawn0.refl _ | apply Drawn0.step)⟩

/-! ### impl_isSmall: function 169 -/
def impl_isSmall.f (a0 : Int) : Option (Bool) := if a0 ≥ 97 then (some (decide (a0 ≤ 122))) else (some false)
set_option maxHeartbeats 8000000 in
set_option maxRecDepth 100000 in
theorem impl_isSmall.calls (a0 : Int) (r : Bool) (w : World) (h : impl_isSmall.f a0 = some r) :
    Calls Try.prog 169 #[.int .u8 a0] w fun e w' => e = .returned (.bool r) ∧ Drawn0 w w' := by
  have H : (if a0 ≥ 97 then (some (decide (a0 ≤ 122))) else (some false)) = some r := h; clear h
  by_cases c2 : a0 ≥ 97
  · rw [if_pos c2] at H; have c2b0 := decide_eq_true c2; clear c2; obtain rfl := Option.some.inj H
    go_enter Try.func169, Try.ntmps169
    go_wp2
    go_ret
    exact ⟨by first | rfl | (simp; done) | (simp [*]; done), by repeat (first | exact Drawn0.refl _ | apply Drawn0.step)⟩
  · rw [if_neg c2] at H; have c2b0 := decide_eq_false c2; clear c2; obtain rfl := Option.some.inj H
    go_enter Try.func169, Try.ntmps169
    go_wp2
    go_ret
    exact ⟨by first | rfl | (simp; done) | (simp [*]; done), by repeat (first | exact Drawn0.refl _ | apply Drawn0.step)⟩

/-! ### impl_isDigit: function 170 -/
def impl_isDigit.f (a0 : Int) : Option (Bool) := if a0 ≥ 48 then (some (decide (a0 ≤ 57))) else (some false)
set_option maxHeartbeats 8000000 in
set_option maxRecDepth 100000 in
theorem impl_isDigit.calls (a0 : Int) (r : Bool) (w : World) (h : impl_isDigit.f a0 = some r) :
    Calls Try.prog 170 #[.int .u8 a0] w fun e w' => e = .returned (.bool r) ∧ Drawn0 w w' := by
  have H : (if a0 ≥ 48 then (some (decide (a0 ≤ 57))) else (some false)) = some r := h; clear h
  by_cases c2 : a0 ≥ 48
  · rw [if_pos c2] at H; have c2b0 := decide_eq_true c2; clear c2; obtain rfl := Option.some.inj H
    go_enter Try.func170, Try.ntmps170
    go_wp2
    go_ret
    exact ⟨by first | rfl | (simp; done) | (simp [*]; done), by repeat (first | exact Drawn0.refl _ | apply Drawn0.step)⟩
  · rw [if_neg c2] at H; have c2b0 := decide_eq_false c2; clear c2; obtain rfl := Option.some.inj H
    go_enter Try.func170, Try.ntmps170
    go_wp2
    go_ret
    exact ⟨by first | rfl | (simp; done) | (simp [*]; done), by repeat (first | exact Drawn0.refl _ | apply Drawn0.step)⟩

/-! ### impl_NameOk: function 144 -/
def impl_NameOk.l0 : Nat → ByteArray → Int → Int → Option (Bool)
  | 0, _, _, _ => none
  | k + 1, x0, x5, x6 => if x6 < x5 then (if 0 ≤ x6 then (if x6 < (x0.size : Int) then ((impl_isSmall.f (bt x0 x6)).bind fun t257 => (if t257 = true then (impl_NameOk.l0 k x0 x5 (wrap64 (x6 + 1))) else ((impl_isDigit.f (bt x0 x6)).bind fun t258 => (if t258 = true then (impl_NameOk.l0 k x0 x5 (wrap64 (x6 + 1))) else (some false))))) else (none)) else (none)) else ((impl_from.f (x0.size : Int) 1 8).bind fun t255 => (if t255 = true then (if 0 < (x0.size : Int) then ((impl_isSmall.f (bt x0 0)).bind fun t256 => (some t256)) else (none)) else (some false)))
def impl_NameOk.f (k : Nat) (a0 : ByteArray) : Option (Bool) := impl_NameOk.l0 k a0 (a0.size : Int) 0
theorem impl_NameOk.mono_l : ∀ k, (∀ y0 y1 y2, LeO (impl_NameOk.l0 k y0 y1 y2) (impl_NameOk.l0 (k + 1) y0 y1 y2))
  | 0 => fun _ _ _ r h => by simp [impl_NameOk.l0] at h
  | k + 1 => by
    have ih0 := impl_NameOk.mono_l k
    · intro y0 y1 y2
      unfold impl_NameOk.l0
      repeat' first
      | (with_reducible exact ih0 _ _ _)
      | (with_reducible exact LeO.refl _)
      | (with_reducible exact LeO.none _)
      | (with_reducible refine LeO.ite ?_ ?_)
      | (with_reducible refine LeO.bind ?_ (fun _ => ?_))
      | exact ih0 _ _ _
      | exact LeO.none _
      | refine LeO.ite ?_ ?_
      | refine LeO.bind ?_ (fun _ => ?_)
theorem impl_NameOk.mono : ∀ a0 k, LeO (impl_NameOk.f k a0) (impl_NameOk.f (k + 1) a0) := by
  intro a0 k; have ih0 := impl_NameOk.mono_l k
  unfold impl_NameOk.f
  repeat' first
      | (with_reducible exact ih0 _ _ _)
      | (with_reducible exact LeO.refl _)
      | (with_reducible exact LeO.none _)
      | (with_reducible refine LeO.ite ?_ ?_)
      | (with_reducible refine LeO.bind ?_ (fun _ => ?_))
      | exact ih0 _ _ _
      | exact LeO.none _
      | refine LeO.ite ?_ ?_
      | refine LeO.bind ?_ (fun _ => ?_)
set_option maxHeartbeats 8000000 in
set_option maxRecDepth 100000 in
theorem impl_NameOk.calls (k : Nat) (a0 : ByteArray) (r : Bool) (w : World) (h : impl_NameOk.f k a0 = some r) :
    Calls Try.prog 144 #[.string a0] w fun e w' => e = .returned (.bool r) ∧ Drawn0 w w' := by
  have H : (impl_NameOk.l0 k a0 (a0.size : Int) 0) = some r := h; clear h; have H' := Aside0.mk H; clear H
  go_enter Try.func144, Try.ntmps144
  go_wp2
  go_loopg [6] k (fun kq v6 w' => ∃ (x6_1 : Int), v6 = .int .i64 x6_1 ∧ Aside0 (impl_NameOk.l0 kq a0 (a0.size : Int) x6_1 = some r) ∧ Aside0 (kq ≤ k) ∧ Drawn0 w w')
  case atStart => exact ⟨(0), (by first | rfl | (simp; done) | (simp [*]; done)), H', ⟨Nat.le_refl _⟩, by repeat (first | exact Drawn0.refl _ | apply Drawn0.step)⟩
  case round =>
    clear H'; (try clear c1); obtain ⟨x6_1, rfl, HA, HK1, ⟨m1, rfl⟩⟩ := hrel
    cases gk with
    | zero => exact absurd HA.out (by simp [impl_NameOk.l0])
    | succ k1 =>
      have H := HA.out; clear HA
      simp only [impl_NameOk.l0] at H
      by_cases c2 : x6_1 < (a0.size : Int)
      · rw [if_pos c2] at H; have c2b0 := decide_eq_true c2; clear c2
        by_cases c3 : 0 ≤ x6_1
        · rw [if_pos c3] at H; have c3b0 := decide_eq_true c3; clear c3
          by_cases c4 : x6_1 < (a0.size : Int)
          · rw [if_pos c4] at H; have c4b0 := decide_eq_true c4; clear c4; replace H := Option.bind_eq_some_iff.mp H; obtain ⟨t257, A60, H⟩ := H; replace H : (if t257 = true then (impl_NameOk.l0 k1 a0 (a0.size : Int) (wrap64 (x6_1 + 1))) else ((impl_isDigit.f (bt a0 x6_1)).bind fun t258 => (if t258 = true then (impl_NameOk.l0 k1 a0 (a0.size : Int) (wrap64 (x6_1 + 1))) else (some false)))) = some r := H; have A6 := Aside0.mk A60; clear A60
            by_cases c7 : t257 = true
            · subst c7; rw [if_pos rfl] at H; have H' := Aside0.mk H; clear H; have p5 : 0 ≤ (x6_1 : Int) := as_; have q5 : x6_1 < (a0.size : Int) := as_; have hx5 := bt_at a0 x6_1; replace p5 := eq_true p5; replace q5 := eq_true q5
              go_wp2_with (first | ((with_reducible refine gate_callee (f := 169) rfl ?_); refine goesM_ (some 12) rfl rfl Try.func169 (by kernel_rfl) rfl #[.int .u8 (bt a0 x6_1)] rfl ?_; (with_reducible refine (impl_isSmall.calls (bt a0 x6_1) true _ A6.out).mono ?_); rintro e w' ⟨rfl, ⟨nd, rfl⟩⟩; refine ⟨_, rfl, ?_⟩))
              go_roundg k1
              case measure => have := HK1.out; omega
              case rel => exact ⟨(wrap64 (x6_1 + 1)), (by first | rfl | (simp; done) | (simp [*]; done)), H', ⟨by have := HK1.out; omega⟩, by repeat (first | exact Drawn0.refl _ | apply Drawn0.step)⟩
            · replace c7 := Bool.eq_false_iff.mpr c7; subst c7; rw [if_neg (show ¬ (false = true) by decide)] at H; replace H := Option.bind_eq_some_iff.mp H; obtain ⟨t258, A90, H⟩ := H; replace H : (if t258 = true then (impl_NameOk.l0 k1 a0 (a0.size : Int) (wrap64 (x6_1 + 1))) else (some false)) = some r := H; have A9 := Aside0.mk A90; clear A90
              by_cases c10 : t258 = true
              · subst c10; rw [if_pos rfl] at H; have H' := Aside0.mk H; clear H; have p5 : 0 ≤ (x6_1 : Int) := as_; have q5 : x6_1 < (a0.size : Int) := as_; have hx5 := bt_at a0 x6_1; replace p5 := eq_true p5; replace q5 := eq_true q5
                go_wp2_with (first | ((with_reducible refine gate_callee (f := 169) rfl ?_); refine goesM_ (some 12) rfl rfl Try.func169 (by kernel_rfl) rfl #[.int .u8 (bt a0 x6_1)] rfl ?_; (with_reducible refine (impl_isSmall.calls (bt a0 x6_1) false _ A6.out).mono ?_); rintro e w' ⟨rfl, ⟨nd, rfl⟩⟩; refine ⟨_, rfl, ?_⟩; have p8 : 0 ≤ (x6_1 : Int) := as_; have q8 : x6_1 < (a0.size : Int) := as_; have hx8 := bt_at a0 x6_1; replace p8 := eq_true p8; replace q8 := eq_true q8) | (go_at_call 170; (with_reducible refine (impl_isDigit.calls (bt a0 x6_1) true _ A9.out).mono ?_); rintro e w' ⟨rfl, ⟨nd, rfl⟩⟩))
                go_roundg k1
                case measure => have := HK1.out; omega
                case rel => exact ⟨(wrap64 (x6_1 + 1)), (by first | rfl | (simp; done) | (simp [*]; done)), H', ⟨by have := HK1.out; omega⟩, by repeat (first | exact Drawn0.refl _ | apply Drawn0.step)⟩
              · replace c10 := Bool.eq_false_iff.mpr c10; subst c10; rw [if_neg (show ¬ (false = true) by decide)] at H; obtain rfl := Option.some.inj H; have p5 : 0 ≤ (x6_1 : Int) := as_; have q5 : x6_1 < (a0.size : Int) := as_; have hx5 := bt_at a0 x6_1; replace p5 := eq_true p5; replace q5 := eq_true q5
                go_wp2_with (first | ((with_reducible refine gate_callee (f := 169) rfl ?_); refine goesM_ (some 12) rfl rfl Try.func169 (by kernel_rfl) rfl #[.int .u8 (bt a0 x6_1)] rfl ?_; (with_reducible refine (impl_isSmall.calls (bt a0 x6_1) false _ A6.out).mono ?_); rintro e w' ⟨rfl, ⟨nd, rfl⟩⟩; refine ⟨_, rfl, ?_⟩; have p8 : 0 ≤ (x6_1 : Int) := as_; have q8 : x6_1 < (a0.size : Int) := as_; have hx8 := bt_at a0 x6_1; replace p8 := eq_true p8; replace q8 := eq_true q8) | (go_at_call 170; (with_reducible refine (impl_isDigit.calls (bt a0 x6_1) false _ A9.out).mono ?_); rintro e w' ⟨rfl, ⟨nd, rfl⟩⟩))
                go_ret
                exact ⟨by first | rfl | (simp; done) | (simp [*]; done), by repeat (first | exact Drawn0.refl _ | apply Drawn0.step)⟩
          · rw [if_neg c4] at H; exact absurd H (by simp)
        · rw [if_neg c3] at H; exact absurd H (by simp)
      · rw [if_neg c2] at H; have c2b0 := decide_eq_false c2; clear c2; replace H := Option.bind_eq_some_iff.mp H; obtain ⟨t255, A110, H⟩ := H; replace H : (if t255 = true then (if 0 < (a0.size : Int) then ((impl_isSmall.f (bt a0 0)).bind fun t256 => (some t256)) else (none)) else (some false)) = some r := H; have A11 := Aside0.mk A110; clear A110
        by_cases c12 : t255 = true
        · subst c12; rw [if_pos rfl] at H
          by_cases c13 : 0 < (a0.size : Int)
          · rw [if_pos c13] at H; have c13b0 := decide_eq_true c13; have c13b1 : decide (0 < a0.size) = true := decide_eq_true (by omega); clear c13; replace H := Option.bind_eq_some_iff.mp H; obtain ⟨t256, A150, H⟩ := H; replace H : (some t256) = some r := H; have A15 := Aside0.mk A150; clear A150; obtain rfl := Option.some.inj H
            go_wp2_with (first | ((with_reducible refine gate_callee (f := 87) rfl ?_); refine goesM_ (some 24) rfl rfl Try.func87 (by kernel_rfl) rfl #[.int .i64 (a0.size : Int), .int .i64 1, .int .i64 8] rfl ?_; (with_reducible refine (impl_from.calls (a0.size : Int) 1 8 true _ A11.out).mono ?_); rintro e w' ⟨rfl, ⟨nd, rfl⟩⟩; refine ⟨_, rfl, ?_⟩; have p14 : 0 ≤ (0 : Int) := (by omega); have q14 : 0 < a0.size := (by have : (0 : Int) < (a0.size : Int) := as_; omega); have hx14 : ∀ h : 0 < a0.size, ((a0[0]'h).toNat : Int) = bt a0 0 := bt_at a0 0; clear p14; have qi14 : (0 < (a0.size : Int)) = True := eq_true (as_); replace q14 := eq_true q14) | (go_at_call 169; (with_reducible refine (impl_isSmall.calls (bt a0 0) t256 _ A15.out).mono ?_); rintro e w' ⟨rfl, ⟨nd, rfl⟩⟩))
            go_ret
            exact ⟨by first | rfl | (simp; done) | (simp [*]; done), by repeat (first | exact Drawn0.refl _ | apply Drawn0.step)⟩
          · rw [if_neg c13] at H; exact absurd H (by simp)
        · replace c12 := Bool.eq_false_iff.mpr c12; subst c12; rw [if_neg (show ¬ (false = true) by decide)] at H; obtain rfl := Option.some.inj H
          go_wp2_with (first | ((with_reducible refine gate_callee (f := 87) rfl ?_); refine goesM_ (some 24) rfl rfl Try.func87 (by kernel_rfl) rfl #[.int .i64 (a0.size : Int), .int .i64 1, .int .i64 8] rfl ?_; (with_reducible refine (impl_from.calls (a0.size : Int) 1 8 false _ A11.out).mono ?_); rintro e w' ⟨rfl, ⟨nd, rfl⟩⟩; refine ⟨_, rfl, ?_⟩))
          go_ret
          exact ⟨by first | rfl | (simp; done) | (simp [*]; done), by repeat (first | exact Drawn0.refl _ | apply Drawn0.step)⟩

/-! ### impl_SymOf_1: function 172 -/
def impl_SymOf_1.f (a0_0 : ByteArray) (a0_1 : Int) (a0_2 : Bool) (a1_0 : ByteArray) : Option (Bool) := some (a0_0.toList == a1_0.toList)
set_option maxHeartbeats 8000000 in
set_option maxRecDepth 100000 in
theorem impl_SymOf_1.calls (a0_0 : ByteArray) (a0_1 : Int) (a0_2 : Bool) (G1 : Nat) (a1_0 : ByteArray) (r : Bool) (w : World) (hG1 : w.heap[G1]? = some (.cells #[.string a1_0] 9 (0, 0))) (h : impl_SymOf_1.f a0_0 a0_1 a0_2 a1_0 = some r) :
    Calls Try.prog 172 #[.agg #[.string a0_0, .int .i64 a0_1, .bool a0_2], .pointer (some ⟨G1, 0, none⟩)] w fun e w' => e = .returned (.bool r) ∧ Below w.heap.size w w' := by
  have hu99 := Try.underlying99; have BK1 := Aside0.mk hG1; clear hG1; have HB := Aside0.mk (Below.refl w.heap.size w); have H : (some (a0_0.toList == a1_0.toList)) = some r := h; clear h; obtain rfl := Option.some.inj H
  go_enter Try.func172, Try.ntmps172
  go_wp2_with (first | ((with_reducible refine gate_dst (N := 2) rfl ?_); refine bxe_ (N := 2) (cs := #[.string a0_0, .int .i64 a0_1, .bool a0_2]) (t := 99) ?_; intro gb259 hg w3 hbox hb; have n0_ := Aside0.mk (blk_below (bk_ BK1.out) hb); have n1_ := Aside0.mk (below_step (bl_ HB.out) hb); have n2_ := Aside0.mk (hbox); have n3_ := Aside0.mk (lg_ hg (bl_ HB.out)); have n4_ := Aside0.mk (lg_ hg (bl_ HB.out)); have n5_ := Aside0.mk (nl_ hg (bk_ BK1.out)); have n6_ := Aside0.mk (ng_ hg (bk_ BK1.out)); clear BK1; clear HB; have BK1 := n0_; have HB := n1_; have BK259 := n2_; have GW259 := n3_; have GE259 := n4_; have NB1_259 := n5_; have NB259_1 := n6_; clear n0_ n1_ n2_ n3_ n4_ n5_ n6_; clear hb hbox hg; have hnb4 := NB259_1.out; have hnc4 := NB1_259.out; have hcz5_0 := bc_ BK259.out 0; have hcz5_1 := bc_ BK259.out 1; have hcz5_2 := bc_ BK259.out 2; have hfz5_0 := blk_frozen BK259.out 0; have hfz5_1 := blk_frozen BK259.out 1; have hfz5_2 := blk_frozen BK259.out 2; have hcz6_0 := bc_ BK1.out 0; have hfz6_0 := blk_frozen BK1.out 0))
  go_ret
  exact fin_ (bs1_ HB.out GE259.out)

end Go.Proofs.Ytcboagkbcoihjaa.XCloseOk
