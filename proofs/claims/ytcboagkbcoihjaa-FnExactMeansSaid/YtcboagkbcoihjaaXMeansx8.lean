-- printed by a program of this session (xprint, turned from the kit's print) for this claim
import Derived.Test.YtcboagkbcoihjaaXMeansx0
import Derived.Test.YtcboagkbcoihjaaXMeansx4
import Derived.Test.YtcboagkbcoihjaaXMeansx5
import Derived.Test.YtcboagkbcoihjaaXMeansx7
namespace Go.Proofs.Ytcboagkbcoihjaa.XMeans
open Go.RowKit Go.Proofs.Ytcboagkbcoihjaa.XOpens Go.Proofs.YtcboagkbcoihjaaW.PrintWords Go.Proofs.YtcboagkbcoihjaaW.PrintLast Go.Proofs.YtcboagkbcoihjaaW.PrintMore
attribute [local go_sem] max2_int min2_int max_two min_two max_three min_three max_four min_four   -- for this text's walks alone
set_option linter.unusedVariables false
set_option linter.unusedSimpArgs false

/-! ### spec_TermOk: function 130 -/
def spec_TermOk.f (k : Nat) (l0 : List (I_Sym)) (a1_0 : Int) (a1_1 : Int) (l1_2 : List (I_Term)) : Option (Bool) := (spec_SigOk.f k l0).bind fun t246 => (if t246 = true then ((spec_Parts.f k a1_0 a1_1 l1_2).bind fun t247 => (if t247 ≤ 60 then ((spec_l4Right.f k l0 a1_0 a1_1 l1_2).bind fun t248 => (some t248)) else (some false))) else (some false))
theorem spec_TermOk.mono : ∀ a0 a1 a2 a3 k, LeO (spec_TermOk.f k a0 a1 a2 a3) (spec_TermOk.f (k + 1) a0 a1 a2 a3) := by
  intro a0 a1 a2 a3 k
  unfold spec_TermOk.f
  repeat' first
      | (with_reducible exact spec_Parts.mono _ _ _ _)
      | (with_reducible exact spec_SigOk.mono _ _)
      | (with_reducible exact spec_l4Right.mono _ _ _ _ _)
      | (with_reducible exact LeO.refl _)
      | (with_reducible exact LeO.none _)
      | (with_reducible refine LeO.ite ?_ ?_)
      | (with_reducible refine LeO.bind ?_ (fun _ => ?_))
      | exact spec_Parts.mono _ _ _ _
      | exact spec_SigOk.mono _ _
      | exact spec_l4Right.mono _ _ _ _ _
      | exact LeO.none _
      | refine LeO.ite ?_ ?_
      | refine LeO.bind ?_ (fun _ => ?_)
set_option maxHeartbeats 8000000 in
set_option maxRecDepth 100000 in
theorem spec_TermOk.calls (k : Nat) (A0 : Option Addr) (c0 : Nat) (l0 : List (I_Sym)) (a1_0 : Int) (a1_1 : Int) (A1_2 : Option Addr) (c1_2 : Nat) (l1_2 : List (I_Term)) (r : Bool) (w : World) (hr0 : Kd.C k99 w A0 l0.length l0) (hc0 : l0.length ≤ c0) (hr1_2 : Kd.C k33 w A1_2 l1_2.length l1_2) (hc1_2 : l1_2.length ≤ c1_2) (h : spec_TermOk.f k l0 a1_0 a1_1 l1_2 = some r) :
    Calls Try.prog 130 #[.slice A0 l0.length c0, .agg #[.int .i64 a1_0, .int .i64 a1_1, .slice A1_2 l1_2.length c1_2]] w fun e w' => e = .returned (.bool r) ∧ Below w.heap.size w w' := by
  have hu33 := Try.underlying33; have HR0 := ak hr0; have HC0 := ak hc0; clear hr0 hc0; have HR1_2 := ak hr1_2; have HC1_2 := ak hc1_2; clear hr1_2 hc1_2; have HB := ak (Below.refl w.heap.size w); have H : ((spec_SigOk.f k l0).bind fun t246 => (if t246 = true then ((spec_Parts.f k a1_0 a1_1 l1_2).bind fun t247 => (if t247 ≤ 60 then ((spec_l4Right.f k l0 a1_0 a1_1 l1_2).bind fun t248 => (some t248)) else (some false))) else (some false))) = some r := h; clear h; replace H := Option.bind_eq_some_iff.mp H; obtain ⟨t246, A30, H⟩ := H; have A3 := ak A30; clear A30
  by_cases c4 : t246 = true
  · subst c4; rw [if_pos rfl] at H; replace H := Option.bind_eq_some_iff.mp H; obtain ⟨t247, A50, H⟩ := H; have A5 := ak A50; clear A50
    by_cases c6 : t247 ≤ 60
    · rw [if_pos c6] at H; have c6b0 := decide_eq_true c6; clear c6; replace H := Option.bind_eq_some_iff.mp H; obtain ⟨t248, A70, H⟩ := H; have A7 := ak A70; clear A70; obtain rfl := Option.some.inj H
      go_enter Try.func130, Try.ntmps130
      go_wp2_with (first | ((with_reducible refine gate_dst (N := 3) rfl ?_); refine bxe_ (N := 3) (cs := #[.int .i64 a1_0, .int .i64 a1_1, .slice A1_2 l1_2.length c1_2]) (t := 33) ?_; intro gb245 hg w8 hbox hb; have BK245 := ak (hbox); have GW245 := ak (lg_ hg (bl_ HB.out)); have GE245 := ak (lg_ hg (bl_ HB.out)); replace HB := ak (below_step (bl_ HB.out) hb); clear hb hbox hg) | ((with_reducible refine gate_callee (f := 78) rfl ?_); refine goesM_ (some 6) rfl rfl Try.func78 (by kernel_rfl) rfl #[.slice A0 l0.length c0] rfl ?_; (with_reducible refine (spec_SigOk.calls k _ _ l0 true _ ?side1 ?side2 A3.out).mono ?_); (case side1 => exact cb_ HR0.out HB.out); (case side2 => exact HC0.out); rintro e w' ⟨rfl, ⟨nd, rfl⟩⟩; refine ⟨_, rfl, ?_⟩; have hcz9_0 := bc_ BK245.out 0; have hcz9_1 := bc_ BK245.out 1; have hcz9_2 := bc_ BK245.out 2; have hfz9_0 := blk_frozen BK245.out 0; have hfz9_1 := blk_frozen BK245.out 1; have hfz9_2 := blk_frozen BK245.out 2) | (go_at_call 163; (with_reducible refine (spec_Parts.calls k a1_0 a1_1 _ _ l1_2 t247 _ ?side1 ?side2 A5.out).mono ?_); (case side1 => exact ca_ (Kd.C_below HR1_2.out (bs1_ HB.out GE245.out))); (case side2 => exact HC1_2.out); rintro e w10 ⟨rfl, hb⟩; replace BK245 := ak (blk_below (bk_ BK245.out) hb); replace HB := ak (below_step (bs1_ HB.out GE245.out) hb); (try clear hb); (try clear hb2); (try clear hk); (try clear hi); have hcz11_0 := bc_ BK245.out 0; have hcz11_1 := bc_ BK245.out 1; have hcz11_2 := bc_ BK245.out 2; have hfz11_0 := blk_frozen BK245.out 0; have hfz11_1 := blk_frozen BK245.out 1; have hfz11_2 := blk_frozen BK245.out 2) | (go_at_call 164; (with_reducible refine (spec_l4Right.calls k _ _ l0 a1_0 a1_1 _ _ l1_2 t248 _ ?side1 ?side2 ?side3 ?side4 A7.out).mono ?_); (case side1 => exact cb_ HR0.out HB.out); (case side2 => exact HC0.out); (case side3 => exact cb_ HR1_2.out HB.out); (case side4 => exact HC1_2.out); rintro e w12 ⟨rfl, hb⟩; replace BK245 := ak (blk_below (bk_ BK245.out) hb); replace HB := ak (below_step (bs1_ HB.out GE245.out) hb); (try clear hb); (try clear hb2); (try clear hk); (try clear hi)))
      go_ret
      exact fin_ (bs1_ HB.out GE245.out)
    rw [if_neg c6] at H; have c6b0 := decide_eq_false c6; clear c6; obtain rfl := Option.some.inj H
    go_enter Try.func130, Try.ntmps130
    go_wp2_with (first | ((with_reducible refine gate_dst (N := 3) rfl ?_); refine bxe_ (N := 3) (cs := #[.int .i64 a1_0, .int .i64 a1_1, .slice A1_2 l1_2.length c1_2]) (t := 33) ?_; intro gb245 hg w13 hbox hb; have BK245 := ak (hbox); have GW245 := ak (lg_ hg (bl_ HB.out)); have GE245 := ak (lg_ hg (bl_ HB.out)); replace HB := ak (below_step (bl_ HB.out) hb); clear hb hbox hg) | ((with_reducible refine gate_callee (f := 78) rfl ?_); refine goesM_ (some 6) rfl rfl Try.func78 (by kernel_rfl) rfl #[.slice A0 l0.length c0] rfl ?_; (with_reducible refine (spec_SigOk.calls k _ _ l0 true _ ?side1 ?side2 A3.out).mono ?_); (case side1 => exact cb_ HR0.out HB.out); (case side2 => exact HC0.out); rintro e w' ⟨rfl, ⟨nd, rfl⟩⟩; refine ⟨_, rfl, ?_⟩; have hcz14_0 := bc_ BK245.out 0; have hcz14_1 := bc_ BK245.out 1; have hcz14_2 := bc_ BK245.out 2; have hfz14_0 := blk_frozen BK245.out 0; have hfz14_1 := blk_frozen BK245.out 1; have hfz14_2 := blk_frozen BK245.out 2) | (go_at_call 163; (with_reducible refine (spec_Parts.calls k a1_0 a1_1 _ _ l1_2 t247 _ ?side1 ?side2 A5.out).mono ?_); (case side1 => exact ca_ (Kd.C_below HR1_2.out (bs1_ HB.out GE245.out))); (case side2 => exact HC1_2.out); rintro e w15 ⟨rfl, hb⟩; replace BK245 := ak (blk_below (bk_ BK245.out) hb); replace HB := ak (below_step (bs1_ HB.out GE245.out) hb); (try clear hb); (try clear hb2); (try clear hk); (try clear hi)))
    go_ret
    exact fin_ (bs1_ HB.out GE245.out)
  replace c4 := Bool.eq_false_iff.mpr c4; subst c4; rw [if_neg (show ¬ (false = true) by decide)] at H; obtain rfl := Option.some.inj H
  go_enter Try.func130, Try.ntmps130
  go_wp2_with (first | ((with_reducible refine gate_dst (N := 3) rfl ?_); refine bxe_ (N := 3) (cs := #[.int .i64 a1_0, .int .i64 a1_1, .slice A1_2 l1_2.length c1_2]) (t := 33) ?_; intro gb245 hg w16 hbox hb; have BK245 := ak (hbox); have GW245 := ak (lg_ hg (bl_ HB.out)); have GE245 := ak (lg_ hg (bl_ HB.out)); replace HB := ak (below_step (bl_ HB.out) hb); clear hb hbox hg) | ((with_reducible refine gate_callee (f := 78) rfl ?_); refine goesM_ (some 6) rfl rfl Try.func78 (by kernel_rfl) rfl #[.slice A0 l0.length c0] rfl ?_; (with_reducible refine (spec_SigOk.calls k _ _ l0 false _ ?side1 ?side2 A3.out).mono ?_); (case side1 => exact cb_ HR0.out HB.out); (case side2 => exact HC0.out); rintro e w' ⟨rfl, ⟨nd, rfl⟩⟩; refine ⟨_, rfl, ?_⟩))
  go_ret
  exact fin_ (bs1_ HB.out GE245.out)

/-! ### spec_Blind: function 136 -/
def spec_Blind.f (l0 : List (I_Sym)) (a1 : Int) : Option (Bool) := (spec_l1In.f a1 0 (wrap64 ((l0.length : Int) - 1))).bind fun t249 => (if t249 = true then (if 0 ≤ a1 then (if a1 < (l0.length : Int) then (some ((rd_I_Sym l0 a1).f2)) else (none)) else (none)) else (some false))
set_option maxHeartbeats 8000000 in
set_option maxRecDepth 100000 in
theorem spec_Blind.calls (A0 : Option Addr) (c0 : Nat) (l0 : List (I_Sym)) (a1 : Int) (r : Bool) (w : World) (hr0 : Kd.C k99 w A0 l0.length l0) (hc0 : l0.length ≤ c0) (h : spec_Blind.f l0 a1 = some r) :
    Calls Try.prog 136 #[.slice A0 l0.length c0, .int .i64 a1] w fun e w' => e = .returned (.bool r) ∧ Drawn0 w w' := by
  have HR0 := ak hr0; have HC0 := ak hc0; clear hr0 hc0; have H : ((spec_l1In.f a1 0 (wrap64 ((l0.length : Int) - 1))).bind fun t249 => (if t249 = true then (if 0 ≤ a1 then (if a1 < (l0.length : Int) then (some ((rd_I_Sym l0 a1).f2)) else (none)) else (none)) else (some false))) = some r := h; clear h; replace H := Option.bind_eq_some_iff.mp H; obtain ⟨t249, A30, H⟩ := H; have A3 := ak A30; clear A30
  by_cases c4 : t249 = true
  · subst c4; rw [if_pos rfl] at H
    by_cases c5 : 0 ≤ a1
    · rw [if_pos c5] at H; have c5b0 := decide_eq_true c5; clear c5
      by_cases c6 : a1 < (l0.length : Int)
      · rw [if_pos c6] at H; have c6b0 := decide_eq_true c6; clear c6; obtain rfl := Option.some.inj H
        go_enter Try.func136, Try.ntmps136
        go_wp2_with (first | ((with_reducible refine gate_callee (f := 79) rfl ?_); refine goesM_ (some 9) rfl rfl Try.func79 (by kernel_rfl) rfl #[.int .i64 a1, .int .i64 0, .int .i64 (wrap64 ((l0.length : Int) - 1))] rfl ?_; (with_reducible refine (spec_l1In.calls a1 0 (wrap64 ((l0.length : Int) - 1)) true _ A3.out).mono ?_); rintro e w' ⟨rfl, ⟨nd, rfl⟩⟩; refine ⟨_, rfl, ?_⟩; have p250 : 0 ≤ (a1 : Int) := as_; have q250 : a1 < (l0.length : Int) := as_; obtain ⟨ad250, e250, hx250_0, hx250_1, hx250_2⟩ := at_T99 HR0.out a1 p250 q250; cases e250; replace p250 := eq_true p250; replace q250 := eq_true q250))
        go_ret
        exact ⟨by first | rfl | (simp; done) | (simp [*]; done), by repeat (first | exact Drawn0.refl _ | apply Drawn0.step)⟩
      rw [if_neg c6] at H; exact absurd H (by simp)
    rw [if_neg c5] at H; exact absurd H (by simp)
  replace c4 := Bool.eq_false_iff.mpr c4; subst c4; rw [if_neg (show ¬ (false = true) by decide)] at H; obtain rfl := Option.some.inj H
  go_enter Try.func136, Try.ntmps136
  go_wp2_with (first | ((with_reducible refine gate_callee (f := 79) rfl ?_); refine goesM_ (some 9) rfl rfl Try.func79 (by kernel_rfl) rfl #[.int .i64 a1, .int .i64 0, .int .i64 (wrap64 ((l0.length : Int) - 1))] rfl ?_; (with_reducible refine (spec_l1In.calls a1 0 (wrap64 ((l0.length : Int) - 1)) false _ A3.out).mono ?_); rintro e w' ⟨rfl, ⟨nd, rfl⟩⟩; refine ⟨_, rfl, ?_⟩))
  go_ret
  exact ⟨by first | rfl | (simp; done) | (simp [*]; done), by repeat (first | exact Drawn0.refl _ | apply Drawn0.step)⟩

/-! ### spec_l24Means: function 134 -/
mutual
def spec_l24Means.l0 : Nat → List (I_Sym) → List Int → List Int → Int → Int → List (List Int) → Int → Int → List (I_Term) → Option (Int)
  | 0, _, _, _, _, _, _, _, _, _ => none
  | k + 1, x0, x3, x10, x11, x252000, x252001, x253000, x253001, x253002 => if x11 < (x253002.length : Int) then (if 0 ≤ x11 then ((spec_l24Means.f k x0 x252000 x252001 ((rd_I_Term x253002 x11).f0) ((rd_I_Term x253002 x11).f1) ((rd_I_Term x253002 x11).f2) x3).bind fun t258 => (if x10.length < 17592186044416 then (spec_l24Means.l0 k x0 x3 (x10 ++ [t258]) (wrap64 (x11 + 1)) x252000 x252001 x253000 x253001 x253002) else (none))) else (none)) else ((spec_Blind.f x0 x253000).bind fun t262 => (if t262 = true then (if 0 < (x10.length : Int) then (spec_l24Means.l1 k x10 (rd x10 0) 1 x252000 x252001 x253000 x253001 x253002) else (none)) else (spec_l24Means.l2 k x10 0 (wrap64 ((x10.length : Int) - 1)) x252000 x252001 x253000 x253001 x253002)))
def spec_l24Means.l1 : Nat → List Int → Int → Int → Int → List (List Int) → Int → Int → List (I_Term) → Option (Int)
  | 0, _, _, _, _, _, _, _, _ => none
  | k + 1, x10, x12, x13, x252000, x252001, x253000, x253001, x253002 => if x13 < (x10.length : Int) then (if 0 ≤ x13 then ((spec_l24Two.f x252000 x252001 x253000 x12 (rd x10 x13)).bind fun t265 => (spec_l24Means.l1 k x10 t265 (wrap64 (x13 + 1)) x252000 x252001 x253000 x253001 x253002)) else (none)) else (some x12)
def spec_l24Means.l2 : Nat → List Int → Int → Int → Int → List (List Int) → Int → Int → List (I_Term) → Option (Int)
  | 0, _, _, _, _, _, _, _, _ => none
  | k + 1, x10, x14, x15, x252000, x252001, x253000, x253001, x253002 => if x15 ≥ 0 then (if 0 ≤ x15 then (if x15 < (x10.length : Int) then (spec_l24Means.l2 k x10 (wrap64 ((wrap64 (x14 * x252000)) + (rd x10 x15))) (wrap64 (x15 - 1)) x252000 x252001 x253000 x253001 x253002) else (none)) else (none)) else (if 0 ≤ x253000 then (if x253000 < (x252001.length : Int) then (if 0 ≤ x14 then (if x14 < ((rd_Ls_i64 x252001 x253000).length : Int) then (some (rd (rd_Ls_i64 x252001 x253000) x14)) else (none)) else (none)) else (none)) else (none))
def spec_l24Means.f : Nat → List (I_Sym) → Int → List (List Int) → Int → Int → List (I_Term) → List Int → Option (Int)
  | 0, _, _, _, _, _, _, _ => none
  | k + 1, l0, a1_0, l1_1, a2_0, a2_1, l2_2, l3 => if a2_0 < 0 then (if a2_1 ≥ (l3.length : Int) then (some 0) else (if 0 ≤ a2_1 then (if a2_1 < (l3.length : Int) then (if a1_0 = 0 then (none) else (if (Int.tmod (rd l3 a2_1) a1_0) < 0 then (some (wrap64 ((Int.tmod (rd l3 a2_1) a1_0) + a1_0))) else (some (Int.tmod (rd l3 a2_1) a1_0)))) else (none)) else (none))) else (spec_l24Means.l0 k l0 l3 (([] : List Int)) 0 a1_0 l1_1 a2_0 a2_1 l2_2)
end
theorem spec_l24Means.mono_l : ∀ k, (∀ y0 y1 y2 y3 y4 y5 y6, LeO (spec_l24Means.f k y0 y1 y2 y3 y4 y5 y6) (spec_l24Means.f (k + 1) y0 y1 y2 y3 y4 y5 y6)) ∧ (∀ y0 y1 y2 y3 y4 y5 y6 y7 y8, LeO (spec_l24Means.l0 k y0 y1 y2 y3 y4 y5 y6 y7 y8) (spec_l24Means.l0 (k + 1) y0 y1 y2 y3 y4 y5 y6 y7 y8)) ∧ (∀ y0 y1 y2 y3 y4 y5 y6 y7, LeO (spec_l24Means.l1 k y0 y1 y2 y3 y4 y5 y6 y7) (spec_l24Means.l1 (k + 1) y0 y1 y2 y3 y4 y5 y6 y7)) ∧ (∀ y0 y1 y2 y3 y4 y5 y6 y7, LeO (spec_l24Means.l2 k y0 y1 y2 y3 y4 y5 y6 y7) (spec_l24Means.l2 (k + 1) y0 y1 y2 y3 y4 y5 y6 y7))
  | 0 => ⟨fun _ _ _ _ _ _ _ r h => by simp [spec_l24Means.f] at h, fun _ _ _ _ _ _ _ _ _ r h => by simp [spec_l24Means.l0] at h, fun _ _ _ _ _ _ _ _ r h => by simp [spec_l24Means.l1] at h, fun _ _ _ _ _ _ _ _ r h => by simp [spec_l24Means.l2] at h⟩
  | k + 1 => by
    obtain ⟨ih0, ih1, ih2, ih3⟩ := spec_l24Means.mono_l k; refine ⟨?_, ?_, ?_, ?_⟩
    · intro y0 y1 y2 y3 y4 y5 y6
      unfold spec_l24Means.f
      repeat' first | (with_reducible first | exact ih0 _ _ _ _ _ _ _ | exact ih1 _ _ _ _ _ _ _ _ _ | exact ih2 _ _ _ _ _ _ _ _ | exact ih3 _ _ _ _ _ _ _ _ | exact LeO.refl _ | exact LeO.none _ | refine LeO.ite ?_ ?_ | refine LeO.bind ?_ (fun _ => ?_)) | exact ih0 _ _ _ _ _ _ _ | exact ih1 _ _ _ _ _ _ _ _ _ | exact ih2 _ _ _ _ _ _ _ _ | exact ih3 _ _ _ _ _ _ _ _ | exact LeO.none _ | refine LeO.ite ?_ ?_ | refine LeO.bind ?_ (fun _ => ?_)
    · intro y0 y1 y2 y3 y4 y5 y6 y7 y8
      unfold spec_l24Means.l0
      repeat' first | (with_reducible first | exact ih0 _ _ _ _ _ _ _ | exact ih1 _ _ _ _ _ _ _ _ _ | exact ih2 _ _ _ _ _ _ _ _ | exact ih3 _ _ _ _ _ _ _ _ | exact LeO.refl _ | exact LeO.none _ | refine LeO.ite ?_ ?_ | refine LeO.bind ?_ (fun _ => ?_)) | exact ih0 _ _ _ _ _ _ _ | exact ih1 _ _ _ _ _ _ _ _ _ | exact ih2 _ _ _ _ _ _ _ _ | exact ih3 _ _ _ _ _ _ _ _ | exact LeO.none _ | refine LeO.ite ?_ ?_ | refine LeO.bind ?_ (fun _ => ?_)
    · intro y0 y1 y2 y3 y4 y5 y6 y7
      unfold spec_l24Means.l1
      repeat' first | (with_reducible first | exact ih0 _ _ _ _ _ _ _ | exact ih1 _ _ _ _ _ _ _ _ _ | exact ih2 _ _ _ _ _ _ _ _ | exact ih3 _ _ _ _ _ _ _ _ | exact LeO.refl _ | exact LeO.none _ | refine LeO.ite ?_ ?_ | refine LeO.bind ?_ (fun _ => ?_)) | exact ih0 _ _ _ _ _ _ _ | exact ih1 _ _ _ _ _ _ _ _ _ | exact ih2 _ _ _ _ _ _ _ _ | exact ih3 _ _ _ _ _ _ _ _ | exact LeO.none _ | refine LeO.ite ?_ ?_ | refine LeO.bind ?_ (fun _ => ?_)
    · intro y0 y1 y2 y3 y4 y5 y6 y7
      unfold spec_l24Means.l2
      repeat' first | (with_reducible first | exact ih0 _ _ _ _ _ _ _ | exact ih1 _ _ _ _ _ _ _ _ _ | exact ih2 _ _ _ _ _ _ _ _ | exact ih3 _ _ _ _ _ _ _ _ | exact LeO.refl _ | exact LeO.none _ | refine LeO.ite ?_ ?_ | refine LeO.bind ?_ (fun _ => ?_)) | exact ih0 _ _ _ _ _ _ _ | exact ih1 _ _ _ _ _ _ _ _ _ | exact ih2 _ _ _ _ _ _ _ _ | exact ih3 _ _ _ _ _ _ _ _ | exact LeO.none _ | refine LeO.ite ?_ ?_ | refine LeO.bind ?_ (fun _ => ?_)
theorem spec_l24Means.mono : ∀ a0 a1 a2 a3 a4 a5 a6 k, LeO (spec_l24Means.f k a0 a1 a2 a3 a4 a5 a6) (spec_l24Means.f (k + 1) a0 a1 a2 a3 a4 a5 a6) := by
  intro a0 a1 a2 a3 a4 a5 a6 k; obtain ⟨ih0, ih1, ih2, ih3⟩ := spec_l24Means.mono_l k; exact ih0 a0 a1 a2 a3 a4 a5 a6
def spec_l24Means.T4 : Bool × List (List Nat × List Nat) := (true, [([], []), ([], []), ([1], [1]), ([0, 2], [0, 2]), ([3], [3]), ([], []), ([5], [5]), ([4, 6], [4, 6]), ([7, 0, 1, 2, 3, 4, 5, 6, 7], [7])])
def spec_l24Means.B4 : List Nat := [0, 0, 2, 7, 15, 0, 32, 127, 255]
theorem spec_l24Means.tab4 : rtab .any (opsOf Try.f134 4) = spec_l24Means.T4 := by kernel_rfl
theorem spec_l24Means.bits4 : waitsOk spec_l24Means.T4.2 spec_l24Means.B4 = true := by kernel_rfl
def spec_l24Means.T12 : Bool × List (List Nat × List Nat) := (true, [([], []), ([], []), ([], []), ([], []), ([3], [3]), ([], []), ([4, 5], [4, 5]), ([6], [6]), ([], []), ([1, 2, 7, 8], [1, 2, 7, 8]), ([9], [9]), ([0, 10, 9], [0, 10]), ([11, 11, 0, 1, 2, 3, 4, 5, 6, 7, 8, 9, 10, 11], [0, 11])])
def spec_l24Means.B12 : List Nat := [0, 0, 0, 0, 8, 0, 56, 120, 0, 510, 1022, 2047, 4095]
theorem spec_l24Means.tab12 : rtab .any (opsOf Try.f134 12) = spec_l24Means.T12 := by kernel_rfl
theorem spec_l24Means.bits12 : waitsOk spec_l24Means.T12.2 spec_l24Means.B12 = true := by kernel_rfl
def spec_l24Means.T18 : Bool × List (List Nat × List Nat) := (true, [([], []), ([], []), ([1], [1]), ([], []), ([], []), ([], []), ([4, 5], [4, 5]), ([6], [6]), ([0, 2, 3, 7], [0, 2, 3, 7]), ([8, 8, 0, 1, 2, 3, 4, 5, 6, 7, 8], [3, 8])])
def spec_l24Means.B18 : List Nat := [0, 0, 2, 0, 0, 0, 48, 112, 255, 511]
theorem spec_l24Means.tab18 : rtab .any (opsOf Try.f134 18) = spec_l24Means.T18 := by kernel_rfl
theorem spec_l24Means.bits18 : waitsOk spec_l24Means.T18.2 spec_l24Means.B18 = true := by kernel_rfl
def spec_l24Means.T24 : Bool × List (List Nat × List Nat) := (true, [([], []), ([], []), ([1], [1]), ([0, 2], [0, 2]), ([], []), ([], []), ([4, 5], [4, 5]), ([6], [6]), ([3, 7], [3, 7]), ([8, 0, 1, 2, 3, 4, 5, 6, 7, 8], [0, 8])])
def spec_l24Means.B24 : List Nat := [0, 0, 2, 7, 0, 0, 48, 112, 255, 511]
theorem spec_l24Means.tab24 : rtab .any (opsOf Try.f134 24) = spec_l24Means.T24 := by kernel_rfl
theorem spec_l24Means.bits24 : waitsOk spec_l24Means.T24.2 spec_l24Means.B24 = true := by kernel_rfl
set_option maxHeartbeats 8000000 in
set_option maxRecDepth 100000 in
theorem spec_l24Means.calls (k : Nat) : ∀ (A0 : Option Addr) (c0 : Nat) (l0 : List (I_Sym)) (a1_0 : Int) (A1_1 : Option Addr) (c1_1 : Nat) (l1_1 : List (List Int)) (a2_0 : Int) (a2_1 : Int) (A2_2 : Option Addr) (c2_2 : Nat) (l2_2 : List (I_Term)) (A3 : Option Addr) (c3 : Nat) (l3 : List Int) (r : Int) (w : World) (hr0 : Kd.C k99 w A0 l0.length l0) (hc0 : l0.length ≤ c0) (hr1_1 : Kd.C (Kd.slice 3 (Kd.int .i64)) w A1_1 l1_1.length l1_1) (hc1_1 : l1_1.length ≤ c1_1) (hr2_2 : Kd.C k33 w A2_2 l2_2.length l2_2) (hc2_2 : l2_2.length ≤ c2_2) (hr3 : Kd.C (Kd.int .i64) w A3 l3.length l3) (hc3 : l3.length ≤ c3) (h : spec_l24Means.f k l0 a1_0 l1_1 a2_0 a2_1 l2_2 l3 = some r),
    Calls Try.prog 134 #[.slice A0 l0.length c0, .agg #[.int .i64 a1_0, .slice A1_1 l1_1.length c1_1], .agg #[.int .i64 a2_0, .int .i64 a2_1, .slice A2_2 l2_2.length c2_2], .slice A3 l3.length c3] w fun e w' => e = .returned (.int .i64 r) ∧ Below w.heap.size w w' := by
  induction k using Nat.strongRecOn with
  | _ k ih =>
  intro A0 c0 l0 a1_0 A1_1 c1_1 l1_1 a2_0 a2_1 A2_2 c2_2 l2_2 A3 c3 l3 r w hr0 hc0 hr1_1 hc1_1 hr2_2 hc2_2 hr3 hc3 h
  cases k with
  | zero => exact absurd h (by simp [spec_l24Means.f])
  | succ k =>
  simp only [spec_l24Means.f] at h
  have hu51 := Try.underlying51; have hu33 := Try.underlying33; have HR0 := ak hr0; have HC0 := ak hc0; clear hr0 hc0; have HR1_1 := ak hr1_1; have HC1_1 := ak hc1_1; clear hr1_1 hc1_1; have HR2_2 := ak hr2_2; have HC2_2 := ak hc2_2; clear hr2_2 hc2_2; have HR3 := ak hr3; have HC3 := ak hc3; clear hr3 hc3; have HB := ak (Below.refl w.heap.size w); have H : (if a2_0 < 0 then (if a2_1 ≥ (l3.length : Int) then (some 0) else (if 0 ≤ a2_1 then (if a2_1 < (l3.length : Int) then (if a1_0 = 0 then (none) else (if (Int.tmod (rd l3 a2_1) a1_0) < 0 then (some (wrap64 ((Int.tmod (rd l3 a2_1) a1_0) + a1_0))) else (some (Int.tmod (rd l3 a2_1) a1_0)))) else (none)) else (none))) else (spec_l24Means.l0 k l0 l3 (([] : List Int)) 0 a1_0 l1_1 a2_0 a2_1 l2_2)) = some r := h; clear h
  by_cases c5 : a2_0 < 0
  · rw [if_pos c5] at H; have c5b0 := decide_eq_true c5; clear c5
    by_cases c6 : a2_1 ≥ (l3.length : Int)
    · rw [if_pos c6] at H; have c6b0 := decide_eq_true c6; clear c6; obtain rfl := Option.some.inj H
      go_enter Try.func134, Try.ntmps134
      go_wp2_with (first | ((with_reducible refine gate_dst (N := 5) rfl ?_); refine bxe_ (N := 5) (cs := #[.int .i64 a1_0, .slice A1_1 l1_1.length c1_1]) (t := 51) ?_; intro gb251 hg w7 hbox hb; have BK251 := ak (hbox); have GW251 := ak (lg_ hg (bl_ HB.out)); have GE251 := ak (lg_ hg (bl_ HB.out)); replace HB := ak (below_step (bl_ HB.out) hb); clear hb hbox hg) | ((with_reducible refine gate_dst (N := 6) rfl ?_); refine bxe_ (N := 6) (cs := #[.int .i64 a2_0, .int .i64 a2_1, .slice A2_2 l2_2.length c2_2]) (t := 33) ?_; intro gb252 hg w8 hbox hb; have BK252 := ak (hbox); have GW252 := ak (lg_ hg (bs1_ HB.out GE251.out)); have GE252 := ak (lg_ hg (bs1_ HB.out GE251.out)); replace HB := ak (below_step (bs1_ HB.out GE251.out) hb); have NB251_252 := ak (nl_ hg (bk_ BK251.out)); have NB252_251 := ak (ng_ hg (bk_ BK251.out)); replace BK251 := ak (blk_below (bk_ BK251.out) hb); clear hb hbox hg; have hnb9 := NB252_251.out; have hnc9 := NB251_252.out; have hcz10_0 := bc_ BK252.out 0; have hcz10_1 := bc_ BK252.out 1; have hcz10_2 := bc_ BK252.out 2; have hfz10_0 := blk_frozen BK252.out 0; have hfz10_1 := blk_frozen BK252.out 1; have hfz10_2 := blk_frozen BK252.out 2))
      go_ret
      exact fin_ (bs2_ HB.out GE251.out GE252.out)
    rw [if_neg c6] at H; have c6b0 := decide_eq_false c6; clear c6
    by_cases c11 : 0 ≤ a2_1
    · rw [if_pos c11] at H; have c11b0 := decide_eq_true c11; clear c11
      by_cases c12 : a2_1 < (l3.length : Int)
      · rw [if_pos c12] at H; have c12b0 := decide_eq_true c12; clear c12
        by_cases c13 : a1_0 = 0
        · rw [if_pos c13] at H; exact absurd H (by simp)
        rw [if_neg c13] at H; have c13b0 : (a1_0 == 0) = false := beq_eq_false_iff_ne.mpr c13; have c13b1 : (a1_0 != 0) = true := bne_iff_ne.mpr c13
        by_cases c14 : (Int.tmod (rd l3 a2_1) a1_0) < 0
        · rw [if_pos c14] at H; have c14b0 := decide_eq_true c14; clear c14; obtain rfl := Option.some.inj H
          go_enter Try.func134, Try.ntmps134
          try go_wp2_with (first | ((with_reducible refine gate_dst (N := 5) rfl ?_); refine bxe_ (N := 5) (cs := #[.int .i64 a1_0, .slice A1_1 l1_1.length c1_1]) (t := 51) ?_; intro gb251 hg w15 hbox hb; have BK251 := ak (hbox); have GW251 := ak (lg_ hg (bl_ HB.out)); have GE251 := ak (lg_ hg (bl_ HB.out)); replace HB := ak (below_step (bl_ HB.out) hb); clear hb hbox hg) | ((with_reducible refine gate_dst (N := 6) rfl ?_); refine bxe_ (N := 6) (cs := #[.int .i64 a2_0, .int .i64 a2_1, .slice A2_2 l2_2.length c2_2]) (t := 33) ?_; intro gb252 hg w16 hbox hb; have BK252 := ak (hbox); have GW252 := ak (lg_ hg (bs1_ HB.out GE251.out)); have GE252 := ak (lg_ hg (bs1_ HB.out GE251.out)); replace HB := ak (below_step (bs1_ HB.out GE251.out) hb); have NB251_252 := ak (nl_ hg (bk_ BK251.out)); have NB252_251 := ak (ng_ hg (bk_ BK251.out)); replace BK251 := ak (blk_below (bk_ BK251.out) hb); clear hb hbox hg; have hnb17 := NB252_251.out; have hnc17 := NB251_252.out; have hcz18_0 := bc_ BK252.out 0; have hcz18_1 := bc_ BK252.out 1; have hcz18_2 := bc_ BK252.out 2; have hfz18_0 := blk_frozen BK252.out 0; have hfz18_1 := blk_frozen BK252.out 1; have hfz18_2 := blk_frozen BK252.out 2))
          replace BK251 := ak (blk_drew BK251.out); replace BK252 := ak (blk_drew BK252.out); replace HB := ak (below_drew1 HB.out); have p253 : 0 ≤ (a2_1 : Int) := as_; have q253 : a2_1 < (l3.length : Int) := as_; obtain ⟨ad253, e253, hx253_0⟩ := Kd.at_int HR3.out a2_1 p253 q253; have hw253_0 := hx253_0
          cases e253
          replace hx253_0 := hbc_ HB.out hx253_0; replace p253 := eq_true p253; replace q253 := eq_true q253; refine start_ (n := 9) (S := fun w' => w'.cell? ⟨gb252, 0, none⟩ = some (.int .i64 a2_0) ∧ w'.cell? ⟨gb252, 1, none⟩ = some (.int .i64 a2_1) ∧ w'.cell? ⟨gb252, 2, none⟩ = some (.slice A2_2 l2_2.length c2_2) ∧ w'.cell? ⟨gb251, 0, none⟩ = some (.int .i64 a1_0) ∧ w'.cell? ⟨gb251, 1, none⟩ = some (.slice A1_1 l1_1.length c1_1) ∧ w'.cell? (ad253.add (a2_1).toNat) = some (.int .i64 (rd l3 a2_1))) (ds := []) (bm 9 0) (by kernel_rfl) rfl (by kernel_rfl) ⟨(blk_cell BK252.out 0).trans rfl, (blk_cell BK252.out 1).trans rfl, (blk_cell BK252.out 2).trans rfl, (blk_cell BK251.out 0).trans rfl, (blk_cell BK251.out 1).trans rfl, (hbc_ HB.out hw253_0 :)⟩ (fun hHeld => ?_); refine with_tabW spec_l24Means.tab4 spec_l24Means.bits4 (fun HT_ HW_ => ?_)
          generalize w16.drew = w19 at BK251 BK252 HB hx253_0 hHeld ⊢
          refine pv_ 0 ?_; refine pv_ 1 ?_; refine pv_ 5 ?_; refine tv_ 2 hHeld ?_; refine pv_ 3 ?_; refine tv_ 4 hHeld ?_; refine tv_ 6 hHeld ?_; refine pv_ 7 ?_; refine pv_ 8 ?_; refine done_ (done_of HT_.out (by kernel_rfl)) ?_; have hcz20_0 := bc_ BK251.out 0; have hcz20_1 := bc_ BK251.out 1; have hfz20_0 := blk_frozen BK251.out 0; have hfz20_1 := blk_frozen BK251.out 1
          try go_wp2
          go_ret
          exact fin_ (bs2_ HB.out GE251.out GE252.out)
        rw [if_neg c14] at H; have c14b0 := decide_eq_false c14; clear c14; obtain rfl := Option.some.inj H
        go_enter Try.func134, Try.ntmps134
        try go_wp2_with (first | ((with_reducible refine gate_dst (N := 5) rfl ?_); refine bxe_ (N := 5) (cs := #[.int .i64 a1_0, .slice A1_1 l1_1.length c1_1]) (t := 51) ?_; intro gb251 hg w21 hbox hb; have BK251 := ak (hbox); have GW251 := ak (lg_ hg (bl_ HB.out)); have GE251 := ak (lg_ hg (bl_ HB.out)); replace HB := ak (below_step (bl_ HB.out) hb); clear hb hbox hg) | ((with_reducible refine gate_dst (N := 6) rfl ?_); refine bxe_ (N := 6) (cs := #[.int .i64 a2_0, .int .i64 a2_1, .slice A2_2 l2_2.length c2_2]) (t := 33) ?_; intro gb252 hg w22 hbox hb; have BK252 := ak (hbox); have GW252 := ak (lg_ hg (bs1_ HB.out GE251.out)); have GE252 := ak (lg_ hg (bs1_ HB.out GE251.out)); replace HB := ak (below_step (bs1_ HB.out GE251.out) hb); have NB251_252 := ak (nl_ hg (bk_ BK251.out)); have NB252_251 := ak (ng_ hg (bk_ BK251.out)); replace BK251 := ak (blk_below (bk_ BK251.out) hb); clear hb hbox hg; have hnb23 := NB252_251.out; have hnc23 := NB251_252.out; have hcz24_0 := bc_ BK252.out 0; have hcz24_1 := bc_ BK252.out 1; have hcz24_2 := bc_ BK252.out 2; have hfz24_0 := blk_frozen BK252.out 0; have hfz24_1 := blk_frozen BK252.out 1; have hfz24_2 := blk_frozen BK252.out 2))
        replace BK251 := ak (blk_drew BK251.out); replace BK252 := ak (blk_drew BK252.out); replace HB := ak (below_drew1 HB.out); have p253 : 0 ≤ (a2_1 : Int) := as_; have q253 : a2_1 < (l3.length : Int) := as_; obtain ⟨ad253, e253, hx253_0⟩ := Kd.at_int HR3.out a2_1 p253 q253; have hw253_0 := hx253_0
        cases e253
        replace hx253_0 := hbc_ HB.out hx253_0; replace p253 := eq_true p253; replace q253 := eq_true q253; refine start_ (n := 9) (S := fun w' => w'.cell? ⟨gb252, 0, none⟩ = some (.int .i64 a2_0) ∧ w'.cell? ⟨gb252, 1, none⟩ = some (.int .i64 a2_1) ∧ w'.cell? ⟨gb252, 2, none⟩ = some (.slice A2_2 l2_2.length c2_2) ∧ w'.cell? ⟨gb251, 0, none⟩ = some (.int .i64 a1_0) ∧ w'.cell? ⟨gb251, 1, none⟩ = some (.slice A1_1 l1_1.length c1_1) ∧ w'.cell? (ad253.add (a2_1).toNat) = some (.int .i64 (rd l3 a2_1))) (ds := []) (bm 9 0) (by kernel_rfl) rfl (by kernel_rfl) ⟨(blk_cell BK252.out 0).trans rfl, (blk_cell BK252.out 1).trans rfl, (blk_cell BK252.out 2).trans rfl, (blk_cell BK251.out 0).trans rfl, (blk_cell BK251.out 1).trans rfl, (hbc_ HB.out hw253_0 :)⟩ (fun hHeld => ?_); refine with_tabW spec_l24Means.tab4 spec_l24Means.bits4 (fun HT_ HW_ => ?_)
        generalize w22.drew = w25 at BK251 BK252 HB hx253_0 hHeld ⊢
        refine pv_ 0 ?_; refine pv_ 1 ?_; refine pv_ 5 ?_; refine tv_ 2 hHeld ?_; refine pv_ 3 ?_; refine tv_ 4 hHeld ?_; refine tv_ 6 hHeld ?_; refine pv_ 7 ?_; refine pv_ 8 ?_; refine done_ (done_of HT_.out (by kernel_rfl)) ?_
        try go_wp2
        go_ret
        exact fin_ (bs2_ HB.out GE251.out GE252.out)
      rw [if_neg c12] at H; exact absurd H (by simp)
    rw [if_neg c11] at H; exact absurd H (by simp)
  rw [if_neg c5] at H; have c5b0 := decide_eq_false c5; clear c5; obtain ⟨y254, hy254⟩ : ∃ y_ : List Int, y_ = (([] : List Int)) := ⟨_, rfl⟩; replace H : (spec_l24Means.l0 k l0 l3 y254 0 a1_0 l1_1 a2_0 a2_1 l2_2) = some r := by first | (rw [hy254]; with_reducible exact H) | (have H2_ := (Option.bind_some _ _).symm.trans H; rw [hy254]; with_reducible exact H2_) | (have H2_ := (Option.bind_some _ _).symm.trans H; with_reducible exact H2_) | with_reducible exact H | (rw [hy254]; exact H) | exact H
  have Ny254 := ak hy254; clear hy254; have H' := ak H; clear H
  go_enter Try.func134, Try.ntmps134
  go_wp2_with (first | ((with_reducible refine gate_dst (N := 5) rfl ?_); refine bxe_ (N := 5) (cs := #[.int .i64 a1_0, .slice A1_1 l1_1.length c1_1]) (t := 51) ?_; intro gb251 hg w26 hbox hb; have BK251 := ak (hbox); have GW251 := ak (lg_ hg (bl_ HB.out)); have GE251 := ak (lg_ hg (bl_ HB.out)); replace HB := ak (below_step (bl_ HB.out) hb); clear hb hbox hg) | ((with_reducible refine gate_dst (N := 6) rfl ?_); refine bxe_ (N := 6) (cs := #[.int .i64 a2_0, .int .i64 a2_1, .slice A2_2 l2_2.length c2_2]) (t := 33) ?_; intro gb252 hg w27 hbox hb; have BK252 := ak (hbox); have GW252 := ak (lg_ hg (bs1_ HB.out GE251.out)); have GE252 := ak (lg_ hg (bs1_ HB.out GE251.out)); replace HB := ak (below_step (bs1_ HB.out GE251.out) hb); have NB251_252 := ak (nl_ hg (bk_ BK251.out)); have NB252_251 := ak (ng_ hg (bk_ BK251.out)); replace BK251 := ak (blk_below (bk_ BK251.out) hb); clear hb hbox hg; have hnb28 := NB252_251.out; have hnc28 := NB251_252.out; have hcz29_0 := bc_ BK252.out 0; have hcz29_1 := bc_ BK252.out 1; have hcz29_2 := bc_ BK252.out 2; have hfz29_0 := blk_frozen BK252.out 0; have hfz29_1 := blk_frozen BK252.out 1; have hfz29_2 := blk_frozen BK252.out 2) | ((with_reducible refine gate_dst (N := 39) rfl ?_); refine Kd.R_lit (Kd.int .i64) _ 3 ?hg (N := 39) ?hd (xs := ([] : List Int)) (inner := []) (ok := fun _ => True) (okp := fun _ => True) ?hr ?hp (fun _ hk => hk) trivial (Below.refl _ _) (Nat.le_refl _) (by simp) ?_; (case hd => rfl); (case hg => rfl); (case hr => first | (go_simp; done) | (go_simp; rfl)); (case hp => exact (Reps.none _ _)); intro v255 w30 ho31 hb hg_ hnew_; clear hg_ hnew_; (first | rw [← Ny254.out] at ho31 | (simp only [Int.reduceToNat] at ho31; rw [← Ny254.out] at ho31)); have HO256 := ak (Kd.R_lower ho31 (below_size (bs2_ HB.out GE251.out GE252.out))); replace BK251 := ak (blk_below (bk_ BK251.out) hb); replace BK252 := ak (blk_below (bk_ BK252.out) hb); replace HB := ak (below_step (bs2_ HB.out GE251.out GE252.out) hb); clear hb ho31))
  go_loopg [10, 11] k (fun kq v10 v11 w' => ∃ (x10_1 : List Int) (x11_1 : Int), v11 = .int .i64 x11_1 ∧ Aside0 (spec_l24Means.l0 kq l0 l3 x10_1 x11_1 a1_0 l1_1 a2_0 a2_1 l2_2 = some r) ∧ Aside0 (kq ≤ k) ∧ Aside0 (Kd.R (Kd.int .i64) 3 w' w.heap.size (fun _ => True) v10 x10_1) ∧ Aside0 (w'.heap[gb251]? = some (.cells #[.int .i64 a1_0, (.slice A1_1 l1_1.length c1_1)] 51 (0, 0))) ∧ Aside0 (w'.heap[gb252]? = some (.cells #[.int .i64 a2_0, .int .i64 a2_1, (.slice A2_2 l2_2.length c2_2)] 33 (0, 0))) ∧ Aside0 (Below w.heap.size w w'))
  case atStart => exact ⟨(y254), (0), (by first | rfl | (simp; done) | (simp [*]; done)), H', ⟨Nat.le_refl _⟩, ⟨by (with_reducible repeat (first | apply Kd.R_alloc | apply Kd.R_drewN | apply Kd.R_drew)); exact HO256.out⟩, ⟨bk_ BK251.out⟩, ⟨bk_ BK252.out⟩, ⟨bs2_ HB.out GE251.out GE252.out⟩⟩
  case round =>
    clear H'; (try clear c1); (try clear c2); (try clear p2); (try clear q2); (try clear hx2); (try clear c3); (try clear c5); (try clear c5b0); (try clear c6); (try clear c6b0); (try clear p6); (try clear c9); (try clear c11); (try clear c11b0); (try clear c12); (try clear c12b0); (try clear c13); (try clear c13b0); (try clear c13b1); (try clear c14); (try clear c14b0); (try clear c17); (try clear c23); (try clear p25); (try clear q25); (try clear hx25); (try clear c28); (try clear hcz10_0); (try clear hcz10_1); (try clear hcz10_2); (try clear hcz18_0); (try clear hcz18_1); (try clear hcz18_2); (try clear hcz20_0); (try clear hcz20_1); (try clear hcz24_0); (try clear hcz24_1); (try clear hcz24_2); (try clear hcz29_0); (try clear hcz29_1); (try clear hcz29_2); (try clear hfz10_0); (try clear hfz10_1); (try clear hfz10_2); (try clear hfz18_0); (try clear hfz18_1); (try clear hfz18_2); (try clear hfz20_0); (try clear hfz20_1); (try clear hfz24_0); (try clear hfz24_1); (try clear hfz24_2); (try clear hfz29_0); (try clear hfz29_1); (try clear hfz29_2); (try clear hx253_0); (try clear p253); (try clear q253); obtain ⟨x10_1, x11_1, rfl, HA, HK1, HO_10, BK251, BK252, HB⟩ := hrel
    cases gk with
    | zero => exact absurd HA.out (by simp [spec_l24Means.l0])
    | succ k1 =>
      have H := HA.out; clear HA
      simp only [spec_l24Means.l0] at H
      by_cases c32 : x11_1 < (l2_2.length : Int)
      · rw [if_pos c32] at H; have c32b0 := decide_eq_true c32; clear c32
        by_cases c33 : 0 ≤ x11_1
        · rw [if_pos c33] at H; have c33b0 := decide_eq_true c33; clear c33; replace H := Option.bind_eq_some_iff.mp H; obtain ⟨t258, A340, H⟩ := H; have A34 := ak A340; clear A340
          by_cases c35 : x10_1.length < 17592186044416
          · rw [if_pos c35] at H; have LMc35 := ak c35; clear c35; obtain ⟨y259, hy259⟩ : ∃ y_ : List Int, y_ = (x10_1 ++ [t258]) := ⟨_, rfl⟩; replace H : (spec_l24Means.l0 k1 l0 l3 y259 (wrap64 (x11_1 + 1)) a1_0 l1_1 a2_0 a2_1 l2_2) = some r := by first | (rw [hy259]; with_reducible exact H) | (have H2_ := (Option.bind_some _ _).symm.trans H; rw [hy259]; with_reducible exact H2_) | (have H2_ := (Option.bind_some _ _).symm.trans H; with_reducible exact H2_) | with_reducible exact H | (rw [hy259]; exact H) | exact H
            have Ny259 := ak hy259; clear hy259; have H' := ak H; clear H; have hnb36 := NB252_251.out; have hnc36 := NB251_252.out; have hcz37_0 := bc_ BK252.out 0; have hcz37_1 := bc_ BK252.out 1; have hcz37_2 := bc_ BK252.out 2; have hfz37_0 := blk_frozen BK252.out 0; have hfz37_1 := blk_frozen BK252.out 1; have hfz37_2 := blk_frozen BK252.out 2
            try go_wp2
            replace HO_10 := ak (Kd.R_drew HO_10.out); replace BK251 := ak (blk_drew BK251.out); replace BK252 := ak (blk_drew BK252.out); replace HB := ak (below_drew1 HB.out); have p257 : 0 ≤ (x11_1 : Int) := as_; have q257 : x11_1 < (l2_2.length : Int) := as_; obtain ⟨ad257, A257_2, c257_2, e257, hx257_0, hx257_1, hx257_2, hl257_2, hi257_2⟩ := at_T33 HR2_2.out x11_1 p257 q257; have hw257_2 := hx257_2; have hw257_1 := hx257_1; have hw257_0 := hx257_0
            cases e257
            replace hx257_0 := hbc_ HB.out hx257_0; replace hx257_1 := hbc_ HB.out hx257_1; replace hx257_2 := hbc_ HB.out hx257_2; have HR257_2 := ak hi257_2; have HC257_2 := ak hl257_2; clear hi257_2 hl257_2; replace p257 := eq_true p257; replace q257 := eq_true q257; refine start_ (n := 13) (S := fun w' => w'.cell? ⟨gb251, 0, none⟩ = some (.int .i64 a1_0) ∧ w'.cell? ⟨gb251, 1, none⟩ = some (.slice A1_1 l1_1.length c1_1) ∧ w'.cell? ⟨gb252, 0, none⟩ = some (.int .i64 a2_0) ∧ w'.cell? ⟨gb252, 1, none⟩ = some (.int .i64 a2_1) ∧ w'.cell? ⟨gb252, 2, none⟩ = some (.slice (some ad257) l2_2.length c2_2) ∧ w'.cell? (ad257.add ((x11_1).toNat * 3)) = some (.int .i64 ((rd_I_Term l2_2 x11_1).f0)) ∧ w'.cell? ⟨(ad257.add ((x11_1).toNat * 3)).block, (ad257.add ((x11_1).toNat * 3)).off + 1, none⟩ = some (.int .i64 ((rd_I_Term l2_2 x11_1).f1)) ∧ w'.cell? ⟨(ad257.add ((x11_1).toNat * 3)).block, (ad257.add ((x11_1).toNat * 3)).off + 2, none⟩ = some (.slice A257_2 ((rd_I_Term l2_2 x11_1).f2).length c257_2)) (ds := []) (bm 13 0) (by kernel_rfl) rfl (by kernel_rfl) ⟨(blk_cell BK251.out 0).trans rfl, (blk_cell BK251.out 1).trans rfl, (blk_cell BK252.out 0).trans rfl, (blk_cell BK252.out 1).trans rfl, (blk_cell BK252.out 2).trans rfl, (hbc_ HB.out hw257_0 :), (hbc_ HB.out hw257_1 :), (hbc_ HB.out hw257_2 :)⟩ (fun hHeld => ?_); refine with_tabW spec_l24Means.tab12 spec_l24Means.bits12 (fun HT_ HW_ => ?_)
            generalize wr.drew = w38 at HO_10 BK251 BK252 HB HR257_2 hx257_0 hx257_1 hx257_2 hHeld ⊢
            refine pv_ 0 ?_; refine pv_ 1 ?_; refine pv_ 3 ?_; refine pv_ 5 ?_; refine pv_ 8 ?_; refine tv_ 2 hHeld ?_; refine tv_ 4 hHeld ?_; refine pv_ 6 ?_; refine tv_ 7 hHeld ?_; refine one_ (i := 9) (N := some 56) (bm 13 1023) rfl rfl (one_of HT_.out (by kernel_rfl)) (by decide) (fun K hK => ?_); refine goesB_ Try.func134 (by kernel_rfl) rfl #[.slice A0 l0.length c0, .agg #[.int .i64 a1_0, .slice A1_1 l1_1.length c1_1], .agg #[.int .i64 ((rd_I_Term l2_2 x11_1).f0), .int .i64 ((rd_I_Term l2_2 x11_1).f1), .slice A257_2 ((rd_I_Term l2_2 x11_1).f2).length c257_2], .slice A3 l3.length c3] (by rfl) rfl rfl ?_
            with_reducible refine (ih k1 (by have := HK1.out; omega) _ _ l0 a1_0 _ _ l1_1 ((rd_I_Term l2_2 x11_1).f0) ((rd_I_Term l2_2 x11_1).f1) _ _ ((rd_I_Term l2_2 x11_1).f2) _ _ l3 t258 _ ?side1 ?side2 ?side3 ?side4 ?side5 ?side6 ?side7 ?side8 A34.out).mono ?_
            (case side1 => exact cb_ HR0.out HB.out); (case side2 => exact HC0.out); (case side3 => exact cb_ HR1_1.out HB.out); (case side4 => exact HC1_1.out); (case side5 => exact cb_ HR257_2.out HB.out); (case side6 => exact HC257_2.out); (case side7 => exact cb_ HR3.out HB.out); (case side8 => exact HC3.out); rintro e w39 ⟨rfl, hb⟩; refine ⟨_, rfl, ?_⟩; replace HO_10 := ak (Kd.R_below (ra_ HO_10.out) hb); replace BK251 := ak (blk_below (bk_ BK251.out) hb); replace BK252 := ak (blk_below (bk_ BK252.out) hb); replace HB := ak (below_step (bs2_ HB.out GE251.out GE252.out) hb); (try clear hb); (try clear hb2); (try clear hk); (try clear hi); refine hK.out _ _ ⟨(blk_cell BK251.out 0).trans rfl, (blk_cell BK251.out 1).trans rfl, (blk_cell BK252.out 0).trans rfl, (blk_cell BK252.out 1).trans rfl, (blk_cell BK252.out 2).trans rfl, (hbc_ HB.out hw257_0 :), (hbc_ HB.out hw257_1 :), (hbc_ HB.out hw257_2 :)⟩ (fun hHeld => ?_); clear hK K; refine norm_ (a' := ?_) ?_ ?_
            rotate_left
            · show Act.put _ (some 56) _ = _
              simp only [Act.put, List.setIfInBounds_toArray, List.set_cons_zero, List.set_cons_succ, i64_w, i32_w]
              rfl
            refine one_ (i := 10) (N := some 57) (bm 13 2047) rfl rfl (one_of HT_.out (by kernel_rfl)) (by decide) (fun K hK => ?_); refine value_ (w1 := ?_) (v := ?_) (by rfl) rfl ?_ ?_
            rotate_left 2
            · go_simp
              constructor
              · rfl
              · rfl
            refine hK.out _ _ ⟨(blk_cell (blk_alloc BK251.out _) 0).trans rfl, (blk_cell (blk_alloc BK251.out _) 1).trans rfl, (blk_cell (blk_alloc BK252.out _) 0).trans rfl, (blk_cell (blk_alloc BK252.out _) 1).trans rfl, (blk_cell (blk_alloc BK252.out _) 2).trans rfl, (World.cell?_alloc_lt _ _ _ (World.block_lt_of_cell? _ _ ((hbc_ HB.out hw257_0 :)))).trans ((hbc_ HB.out hw257_0 :)), (World.cell?_alloc_lt _ _ _ (World.block_lt_of_cell? _ _ ((hbc_ HB.out hw257_1 :)))).trans ((hbc_ HB.out hw257_1 :)), (World.cell?_alloc_lt _ _ _ (World.block_lt_of_cell? _ _ ((hbc_ HB.out hw257_2 :)))).trans ((hbc_ HB.out hw257_2 :))⟩ (fun hHeld => ?_); clear hK K; refine norm_ (a' := ?_) ?_ ?_
            rotate_left
            · show Act.put _ (some 57) _ = _
              simp only [Act.put, List.setIfInBounds_toArray, List.set_cons_zero, List.set_cons_succ, i64_w, i32_w]
              rfl
            refine one_ (i := 11) (N := some 58) (bm 13 4095) rfl rfl (one_of HT_.out (by kernel_rfl)) (by decide) (fun K hK => ?_); refine Kd.R_append_step (Kd.int .i64) (w0 := w) w.heap.size (by rfl) (.tmp 47) (.tmp 57) 75 3 (.int .i64 0) 8 rfl Try.underlying75 info3 rfl (by decide) (by omega) u10 x10_1 t258 [.int .i64 t258] (fun _ => True) (fun _ => False) rfl rfl ?aP (fun _ hk => hk.elim) ?aF ?aO ?aB ?aS ?aL ?_; (case aP => exact rfl); (case aB => exact (bs2_ HB.out GE251.out GE252.out)); (case aF => exact (fun _ _ => trivial)); (case aO => exact (ra_ HO_10.out)); (case aS => exact (below_size (bs2_ HB.out GE251.out GE252.out))); (case aL => have := LMc35.out; omega); intro v260 w40 ho hb hg hat; rw [← Ny259.out] at ho; replace BK251 := ak (blk_grown (g := gb251) (o := .cells #[.int .i64 a1_0, .slice A1_1 l1_1.length c1_1] 51 (0, 0)) (bk_ BK251.out) hg (Kd.R_ne HO_10.out BK251.out (by decide))); replace BK252 := ak (blk_grown (g := gb252) (o := .cells #[.int .i64 a2_0, .int .i64 a2_1, .slice (some ad257) l2_2.length c2_2] 33 (0, 0)) (bk_ BK252.out) hg (Kd.R_ne HO_10.out BK252.out (by decide))); replace HB := ak (hb); have HO261 := ak (ho); clear HO_10; clear ho hb hg hat; refine hK.out _ _ ⟨(blk_cell BK251.out 0).trans rfl, (blk_cell BK251.out 1).trans rfl, (blk_cell BK252.out 0).trans rfl, (blk_cell BK252.out 1).trans rfl, (blk_cell BK252.out 2).trans rfl, (hbc_ HB.out hw257_0 :), (hbc_ HB.out hw257_1 :), (hbc_ HB.out hw257_2 :)⟩ (fun hHeld => ?_); clear hK K; refine norm_ (a' := ?_) ?_ ?_
            rotate_left
            · show Act.put _ (some 58) _ = _
              simp only [Act.put, List.setIfInBounds_toArray, List.set_cons_zero, List.set_cons_succ, i64_w, i32_w]
              rfl
            refine pv_ 12 ?_; refine done_ (done_of HT_.out (by kernel_rfl)) ?_
            try go_wp2
            go_roundg k1
            case measure => have := HK1.out; omega
            case rel => exact ⟨(y259), (wrap64 (x11_1 + 1)), (by first | rfl | (simp; done) | (simp [*]; done)), H', ⟨by have := HK1.out; omega⟩, ⟨by (with_reducible repeat (first | apply Kd.R_alloc | apply Kd.R_drewN | apply Kd.R_drew)); exact HO261.out⟩, ⟨bk_ BK251.out⟩, ⟨bk_ BK252.out⟩, ⟨bs2_ HB.out GE251.out GE252.out⟩⟩
          rw [if_neg c35] at H; exact absurd H (by simp)
        rw [if_neg c33] at H; exact absurd H (by simp)
      rw [if_neg c32] at H; have c32b0 := decide_eq_false c32; clear c32; replace H := Option.bind_eq_some_iff.mp H; obtain ⟨t262, A410, H⟩ := H; have A41 := ak A410; clear A410
      by_cases c42 : t262 = true
      · subst c42; rw [if_pos rfl] at H
        by_cases c43 : 0 < (x10_1.length : Int)
        · rw [if_pos c43] at H; have c43b0 := decide_eq_true c43; have c43b1 : decide (0 < x10_1.length) = true := decide_eq_true (by omega); clear c43; have H' := ak H; clear H; have hnb44 := NB252_251.out; have hnc44 := NB251_252.out; have hcz45_0 := bc_ BK252.out 0; have hcz45_1 := bc_ BK252.out 1; have hcz45_2 := bc_ BK252.out 2; have hfz45_0 := blk_frozen BK252.out 0; have hfz45_1 := blk_frozen BK252.out 1; have hfz45_2 := blk_frozen BK252.out 2
          go_wp2_with (first | ((with_reducible refine gate_callee (f := 136) rfl ?_); refine goesM_ (some 62) rfl rfl Try.func136 (by kernel_rfl) rfl #[.slice A0 l0.length c0, .int .i64 a2_0] rfl ?_; (with_reducible refine (spec_Blind.calls _ _ l0 a2_0 true _ ?side1 ?side2 A41.out).mono ?_); (case side1 => exact cb_ HR0.out HB.out); (case side2 => exact HC0.out); rintro e w' ⟨rfl, ⟨nd, rfl⟩⟩; refine ⟨_, rfl, ?_⟩; obtain ⟨Ao46, co46, eo46⟩ := Kd.R_slice HO_10.out; subst eo46; have p263 : 0 ≤ (0 : Int) := (by omega); have q263 : 0 < (x10_1.length : Int) := as_; obtain ⟨ad263, e263, hx263_0⟩ := Kd.at_int (Kd.R_reads' HO_10.out).2.2 0 p263 q263; cases e263; have qi263 : (0 < x10_1.length) = True := eq_true (by omega); (try rw [show ((0 : Int)).toNat = 0 from rfl] at hx263_0); (try rw [Addr.add_zero'] at hx263_0); replace p263 := eq_true p263; replace q263 := eq_true q263))
          go_loopg [12, 13] k1 (fun kq v12 v13 w' => ∃ (x12_2 : Int) (x13_2 : Int), v12 = .int .i64 x12_2 ∧ v13 = .int .i64 x13_2 ∧ Aside0 (spec_l24Means.l1 kq x10_1 x12_2 x13_2 a1_0 l1_1 a2_0 a2_1 l2_2 = some r) ∧ Aside0 (kq ≤ k1) ∧ Aside0 (Kd.R (Kd.int .i64) 3 w' w.heap.size (fun _ => True) (.slice (some ad263) x10_1.length co46) x10_1) ∧ Aside0 (w'.heap[gb251]? = some (.cells #[.int .i64 a1_0, (.slice A1_1 l1_1.length c1_1)] 51 (0, 0))) ∧ Aside0 (w'.heap[gb252]? = some (.cells #[.int .i64 a2_0, .int .i64 a2_1, (.slice A2_2 l2_2.length c2_2)] 33 (0, 0))) ∧ Aside0 (Below w.heap.size w w'))
          case atStart => exact ⟨(rd x10_1 0), (1), (by first | rfl | (simp; done) | (simp [*]; done)), (by first | rfl | (simp; done) | (simp [*]; done)), H', ⟨Nat.le_refl _⟩, ⟨by (with_reducible repeat (first | apply Kd.R_alloc | apply Kd.R_drewN | apply Kd.R_drew)); exact HO_10.out⟩, ⟨bk_ BK251.out⟩, ⟨bk_ BK252.out⟩, ⟨bs2_ HB.out GE251.out GE252.out⟩⟩
          case round =>
            clear H'; (try clear c1); (try clear c2); (try clear p2); (try clear q2); (try clear hx2); (try clear qi2); (try clear c3); (try clear c4); (try clear c5); (try clear c5b0); (try clear c6); (try clear c6b0); (try clear p6); (try clear c9); (try clear c11); (try clear c11b0); (try clear c12); (try clear c12b0); (try clear c13); (try clear c13b0); (try clear c13b1); (try clear c14); (try clear c14b0); (try clear c17); (try clear c23); (try clear c25); (try clear p25); (try clear q25); (try clear hx25); (try clear p26); (try clear q26); (try clear hx26); (try clear qi26); (try clear c28); (try clear c32); (try clear c32b0); (try clear c33); (try clear c33b0); (try clear c35); (try clear c36); (try clear c42); (try clear c43); (try clear c43b0); (try clear c43b1); (try clear c44); (try clear hcz10_0); (try clear hcz10_1); (try clear hcz10_2); (try clear hcz18_0); (try clear hcz18_1); (try clear hcz18_2); (try clear hcz20_0); (try clear hcz20_1); (try clear hcz24_0); (try clear hcz24_1); (try clear hcz24_2); (try clear hcz29_0); (try clear hcz29_1); (try clear hcz29_2); (try clear hcz37_0); (try clear hcz37_1); (try clear hcz37_2); (try clear hcz45_0); (try clear hcz45_1); (try clear hcz45_2); (try clear hfz10_0); (try clear hfz10_1); (try clear hfz10_2); (try clear hfz18_0); (try clear hfz18_1); (try clear hfz18_2); (try clear hfz20_0); (try clear hfz20_1); (try clear hfz24_0); (try clear hfz24_1); (try clear hfz24_2); (try clear hfz29_0); (try clear hfz29_1); (try clear hfz29_2); (try clear hfz37_0); (try clear hfz37_1); (try clear hfz37_2); (try clear hfz45_0); (try clear hfz45_1); (try clear hfz45_2); (try clear hx253_0); (try clear hx257_0); (try clear hx257_1); (try clear hx257_2); (try clear hx263_0); (try clear p2); (try clear p25); (try clear p253); (try clear p257); (try clear p263); (try clear p6); (try clear q2); (try clear q25); (try clear q253); (try clear q257); (try clear q263); obtain ⟨x12_2, x13_2, rfl, rfl, HA, HK2, HO_10, BK251, BK252, HB⟩ := hrel
            cases gk with
            | zero => exact absurd HA.out (by simp [spec_l24Means.l1])
            | succ k2 =>
              have H := HA.out; clear HA
              simp only [spec_l24Means.l1] at H
              by_cases c47 : x13_2 < (x10_1.length : Int)
              · rw [if_pos c47] at H; have c47b0 := decide_eq_true c47; clear c47
                by_cases c48 : 0 ≤ x13_2
                · rw [if_pos c48] at H; have c48b0 := decide_eq_true c48; clear c48; replace H := Option.bind_eq_some_iff.mp H; obtain ⟨t265, A490, H⟩ := H; have A49 := ak A490; clear A490; have H' := ak H; clear H
                  try go_wp2
                  replace HO_10 := ak (Kd.R_drew HO_10.out); replace BK251 := ak (blk_drew BK251.out); replace BK252 := ak (blk_drew BK252.out); replace HB := ak (below_drew1 HB.out); have p264 : 0 ≤ (x13_2 : Int) := as_; have q264 : x13_2 < (x10_1.length : Int) := as_; obtain ⟨ad264, e264, hx264_0⟩ := Kd.at_int (Kd.R_reads' HO_10.out).2.2 x13_2 p264 q264; obtain rfl : ad263 = ad264 := (by injection e264); replace p264 := eq_true p264; replace q264 := eq_true q264; refine start_ (n := 10) (S := fun w' => w'.cell? ⟨gb251, 0, none⟩ = some (.int .i64 a1_0) ∧ w'.cell? ⟨gb251, 1, none⟩ = some (.slice A1_1 l1_1.length c1_1) ∧ w'.cell? ⟨gb252, 0, none⟩ = some (.int .i64 a2_0) ∧ w'.cell? ⟨gb252, 1, none⟩ = some (.int .i64 a2_1) ∧ w'.cell? ⟨gb252, 2, none⟩ = some (.slice A2_2 l2_2.length c2_2) ∧ w'.cell? (ad263.add (x13_2).toNat) = some (.int .i64 (rd x10_1 x13_2))) (ds := []) (bm 10 0) (by kernel_rfl) rfl (by kernel_rfl) ⟨(blk_cell BK251.out 0).trans rfl, (blk_cell BK251.out 1).trans rfl, (blk_cell BK252.out 0).trans rfl, (blk_cell BK252.out 1).trans rfl, (blk_cell BK252.out 2).trans rfl, hx264_0⟩ (fun hHeld => ?_); refine with_tabW spec_l24Means.tab18 spec_l24Means.bits18 (fun HT_ HW_ => ?_)
                  generalize wr.drew = w50 at HO_10 BK251 BK252 HB hx264_0 hHeld ⊢
                  refine pv_ 1 ?_; refine pv_ 3 ?_; refine pv_ 4 ?_; refine pv_ 5 ?_; refine pv_ 6 ?_; refine tv_ 0 hHeld ?_; refine tv_ 2 hHeld ?_; refine tv_ 7 hHeld ?_; refine one_ (i := 8) (N := some 80) (bm 10 511) rfl rfl (one_of HT_.out (by kernel_rfl)) (by decide) (fun K hK => ?_); refine goesB_ Try.func143 (by kernel_rfl) rfl #[.agg #[.int .i64 a1_0, .slice A1_1 l1_1.length c1_1], .int .i64 a2_0, .int .i64 x12_2, .int .i64 (rd x10_1 x13_2)] (by rfl) rfl rfl ?_
                  with_reducible refine (spec_l24Two.calls a1_0 _ _ l1_1 a2_0 x12_2 (rd x10_1 x13_2) t265 _ ?side1 ?side2 A49.out).mono ?_
                  (case side1 => exact cb_ HR1_1.out HB.out); (case side2 => exact HC1_1.out); rintro e w51 ⟨rfl, hb⟩; have HS5_ := (hb.cell (World.block_lt_of_cell? _ _ (hHeld.2.2.2.2.2))).trans (hHeld.2.2.2.2.2); refine ⟨_, rfl, ?_⟩; replace HO_10 := ak (Kd.R_below (ra_ HO_10.out) hb); replace BK251 := ak (blk_below (bk_ BK251.out) hb); replace BK252 := ak (blk_below (bk_ BK252.out) hb); replace HB := ak (below_step (bs2_ HB.out GE251.out GE252.out) hb); (try clear hb); (try clear hb2); (try clear hk); (try clear hi); refine hK.out _ _ ⟨(blk_cell BK251.out 0).trans rfl, (blk_cell BK251.out 1).trans rfl, (blk_cell BK252.out 0).trans rfl, (blk_cell BK252.out 1).trans rfl, (blk_cell BK252.out 2).trans rfl, HS5_⟩ (fun hHeld => ?_); clear hK K; refine norm_ (a' := ?_) ?_ ?_
                  rotate_left
                  · show Act.put _ (some 80) _ = _
                    simp only [Act.put, List.setIfInBounds_toArray, List.set_cons_zero, List.set_cons_succ, i64_w, i32_w]
                    rfl
                  refine pv_ 9 ?_; refine done_ (done_of HT_.out (by kernel_rfl)) ?_
                  try go_wp2
                  go_roundg k2
                  case measure => have := HK1.out; have := HK2.out; omega
                  case rel => exact ⟨(t265), (wrap64 (x13_2 + 1)), (by first | rfl | (simp; done) | (simp [*]; done)), (by first | rfl | (simp; done) | (simp [*]; done)), H', ⟨by have := HK1.out; have := HK2.out; omega⟩, ⟨by (with_reducible repeat (first | apply Kd.R_alloc | apply Kd.R_drewN | apply Kd.R_drew)); exact HO_10.out⟩, ⟨bk_ BK251.out⟩, ⟨bk_ BK252.out⟩, ⟨bs2_ HB.out GE251.out GE252.out⟩⟩
                rw [if_neg c48] at H; exact absurd H (by simp)
              rw [if_neg c47] at H; have c47b0 := decide_eq_false c47; clear c47; obtain rfl := Option.some.inj H
              go_wp2
              go_ret
              exact fin_ (bs2_ HB.out GE251.out GE252.out)
        rw [if_neg c43] at H; exact absurd H (by simp)
      replace c42 := Bool.eq_false_iff.mpr c42; subst c42; rw [if_neg (show ¬ (false = true) by decide)] at H; have H' := ak H; clear H; have hnb52 := NB252_251.out; have hnc52 := NB251_252.out; have hcz53_0 := bc_ BK252.out 0; have hcz53_1 := bc_ BK252.out 1; have hcz53_2 := bc_ BK252.out 2; have hfz53_0 := blk_frozen BK252.out 0; have hfz53_1 := blk_frozen BK252.out 1; have hfz53_2 := blk_frozen BK252.out 2
      go_wp2_with (first | ((with_reducible refine gate_callee (f := 136) rfl ?_); refine goesM_ (some 62) rfl rfl Try.func136 (by kernel_rfl) rfl #[.slice A0 l0.length c0, .int .i64 a2_0] rfl ?_; (with_reducible refine (spec_Blind.calls _ _ l0 a2_0 false _ ?side1 ?side2 A41.out).mono ?_); (case side1 => exact cb_ HR0.out HB.out); (case side2 => exact HC0.out); rintro e w' ⟨rfl, ⟨nd, rfl⟩⟩; refine ⟨_, rfl, ?_⟩; obtain ⟨Ao54, co54, eo54⟩ := Kd.R_slice HO_10.out; subst eo54))
      go_loopg [14, 15] k1 (fun kq v14 v15 w' => ∃ (x14_2 : Int) (x15_2 : Int), v14 = .int .i64 x14_2 ∧ v15 = .int .i64 x15_2 ∧ Aside0 (spec_l24Means.l2 kq x10_1 x14_2 x15_2 a1_0 l1_1 a2_0 a2_1 l2_2 = some r) ∧ Aside0 (kq ≤ k1) ∧ Aside0 (Kd.R (Kd.int .i64) 3 w' w.heap.size (fun _ => True) (.slice Ao54 x10_1.length co54) x10_1) ∧ Aside0 (w'.heap[gb251]? = some (.cells #[.int .i64 a1_0, (.slice A1_1 l1_1.length c1_1)] 51 (0, 0))) ∧ Aside0 (w'.heap[gb252]? = some (.cells #[.int .i64 a2_0, .int .i64 a2_1, (.slice A2_2 l2_2.length c2_2)] 33 (0, 0))) ∧ Aside0 (Below w.heap.size w w'))
      case atStart => exact ⟨(0), (wrap64 ((x10_1.length : Int) - 1)), (by first | rfl | (simp; done) | (simp [*]; done)), (by first | rfl | (simp; done) | (simp [*]; done)), H', ⟨Nat.le_refl _⟩, ⟨by (with_reducible repeat (first | apply Kd.R_alloc | apply Kd.R_drewN | apply Kd.R_drew)); exact HO_10.out⟩, ⟨bk_ BK251.out⟩, ⟨bk_ BK252.out⟩, ⟨bs2_ HB.out GE251.out GE252.out⟩⟩
      case round =>
        clear H'; (try clear c1); (try clear c2); (try clear p2); (try clear q2); (try clear hx2); (try clear qi2); (try clear c3); (try clear c4); (try clear c5); (try clear c5b0); (try clear c6); (try clear c6b0); (try clear p6); (try clear c9); (try clear c11); (try clear c11b0); (try clear c12); (try clear c12b0); (try clear c13); (try clear c13b0); (try clear c13b1); (try clear c14); (try clear c14b0); (try clear c17); (try clear c23); (try clear c25); (try clear p25); (try clear q25); (try clear hx25); (try clear p26); (try clear q26); (try clear hx26); (try clear qi26); (try clear c28); (try clear c32); (try clear c32b0); (try clear c33); (try clear c33b0); (try clear c35); (try clear c36); (try clear c42); (try clear c43); (try clear c43b0); (try clear c43b1); (try clear c44); (try clear c47); (try clear c47b0); (try clear c48); (try clear c48b0); (try clear c52); (try clear hcz10_0); (try clear hcz10_1); (try clear hcz10_2); (try clear hcz18_0); (try clear hcz18_1); (try clear hcz18_2); (try clear hcz20_0); (try clear hcz20_1); (try clear hcz24_0); (try clear hcz24_1); (try clear hcz24_2); (try clear hcz29_0); (try clear hcz29_1); (try clear hcz29_2); (try clear hcz37_0); (try clear hcz37_1); (try clear hcz37_2); (try clear hcz45_0); (try clear hcz45_1); (try clear hcz45_2); (try clear hcz53_0); (try clear hcz53_1); (try clear hcz53_2); (try clear hfz10_0); (try clear hfz10_1); (try clear hfz10_2); (try clear hfz18_0); (try clear hfz18_1); (try clear hfz18_2); (try clear hfz20_0); (try clear hfz20_1); (try clear hfz24_0); (try clear hfz24_1); (try clear hfz24_2); (try clear hfz29_0); (try clear hfz29_1); (try clear hfz29_2); (try clear hfz37_0); (try clear hfz37_1); (try clear hfz37_2); (try clear hfz45_0); (try clear hfz45_1); (try clear hfz45_2); (try clear hfz53_0); (try clear hfz53_1); (try clear hfz53_2); (try clear hx253_0); (try clear hx257_0); (try clear hx257_1); (try clear hx257_2); (try clear hx263_0); (try clear hx264_0); (try clear p2); (try clear p25); (try clear p253); (try clear p257); (try clear p26); (try clear p263); (try clear p264); (try clear p6); (try clear q2); (try clear q25); (try clear q253); (try clear q257); (try clear q26); (try clear q263); (try clear q264); obtain ⟨x14_2, x15_2, rfl, rfl, HA, HK2, HO_10, BK251, BK252, HB⟩ := hrel
        cases gk with
        | zero => exact absurd HA.out (by simp [spec_l24Means.l2])
        | succ k2 =>
          have H := HA.out; clear HA
          simp only [spec_l24Means.l2] at H
          by_cases c55 : x15_2 ≥ 0
          · rw [if_pos c55] at H; have c55b0 := decide_eq_true c55; clear c55
            by_cases c56 : 0 ≤ x15_2
            · rw [if_pos c56] at H; have c56b0 := decide_eq_true c56; clear c56
              by_cases c57 : x15_2 < (x10_1.length : Int)
              · rw [if_pos c57] at H; have c57b0 := decide_eq_true c57; clear c57; have H' := ak H; clear H
                try go_wp2
                replace HO_10 := ak (Kd.R_drew HO_10.out); replace BK251 := ak (blk_drew BK251.out); replace BK252 := ak (blk_drew BK252.out); replace HB := ak (below_drew1 HB.out); have p266 : 0 ≤ (x15_2 : Int) := as_; have q266 : x15_2 < (x10_1.length : Int) := as_; obtain ⟨ad266, e266, hx266_0⟩ := Kd.at_int (Kd.R_reads' HO_10.out).2.2 x15_2 p266 q266
                cases e266
                replace p266 := eq_true p266; replace q266 := eq_true q266; refine start_ (n := 10) (S := fun w' => w'.cell? ⟨gb251, 0, none⟩ = some (.int .i64 a1_0) ∧ w'.cell? ⟨gb251, 1, none⟩ = some (.slice A1_1 l1_1.length c1_1) ∧ w'.cell? (ad266.add (x15_2).toNat) = some (.int .i64 (rd x10_1 x15_2))) (ds := []) (bm 10 0) (by kernel_rfl) rfl (by kernel_rfl) ⟨(blk_cell BK251.out 0).trans rfl, (blk_cell BK251.out 1).trans rfl, hx266_0⟩ (fun hHeld => ?_); refine with_tabW spec_l24Means.tab24 spec_l24Means.bits24 (fun HT_ HW_ => ?_)
                generalize wr.drew = w58 at HO_10 BK251 BK252 HB hx266_0 hHeld ⊢
                refine pv_ 0 ?_; refine pv_ 1 ?_; refine pv_ 4 ?_; refine pv_ 5 ?_; refine pv_ 6 ?_; refine tv_ 2 hHeld ?_; refine pv_ 3 ?_; refine tv_ 7 hHeld ?_; refine pv_ 8 ?_; refine pv_ 9 ?_; refine done_ (done_of HT_.out (by kernel_rfl)) ?_
                try go_wp2
                go_roundg k2
                case measure => have := HK1.out; have := HK2.out; omega
                case rel => exact ⟨(wrap64 ((wrap64 (x14_2 * a1_0)) + (rd x10_1 x15_2))), (wrap64 (x15_2 - 1)), (by first | rfl | (simp; done) | (simp [*]; done)), (by first | rfl | (simp; done) | (simp [*]; done)), H', ⟨by have := HK1.out; have := HK2.out; omega⟩, ⟨by (with_reducible repeat (first | apply Kd.R_alloc | apply Kd.R_drewN | apply Kd.R_drew)); exact HO_10.out⟩, ⟨bk_ BK251.out⟩, ⟨bk_ BK252.out⟩, ⟨bs2_ HB.out GE251.out GE252.out⟩⟩
              rw [if_neg c57] at H; exact absurd H (by simp)
            rw [if_neg c56] at H; exact absurd H (by simp)
          rw [if_neg c55] at H; have c55b0 := decide_eq_false c55; clear c55
          by_cases c59 : 0 ≤ a2_0
          · rw [if_pos c59] at H; have c59b0 := decide_eq_true c59; clear c59
            by_cases c60 : a2_0 < (l1_1.length : Int)
            · rw [if_pos c60] at H; have c60b0 := decide_eq_true c60; clear c60
              by_cases c61 : 0 ≤ x14_2
              · rw [if_pos c61] at H; have c61b0 := decide_eq_true c61; clear c61
                by_cases c62 : x14_2 < ((rd_Ls_i64 l1_1 a2_0).length : Int)
                · rw [if_pos c62] at H; have c62b0 := decide_eq_true c62; clear c62; obtain rfl := Option.some.inj H; have hnb63 := NB251_252.out; have hnc63 := NB252_251.out; have hcz64_0 := bc_ BK251.out 0; have hcz64_1 := bc_ BK251.out 1; have hfz64_0 := blk_frozen BK251.out 0; have hfz64_1 := blk_frozen BK251.out 1; have hcz65_0 := bc_ BK252.out 0; have hcz65_1 := bc_ BK252.out 1; have hcz65_2 := bc_ BK252.out 2; have hfz65_0 := blk_frozen BK252.out 0; have hfz65_1 := blk_frozen BK252.out 1; have hfz65_2 := blk_frozen BK252.out 2; have p267 : 0 ≤ (a2_0 : Int) := as_; have q267 : a2_0 < (l1_1.length : Int) := as_; obtain ⟨ad267, A267_0, c267_0, e267, hx267_0, hl267_0, hi267_0⟩ := at_L7 HR1_1.out a2_0 p267 q267
                  cases e267
                  replace hx267_0 := hbc_ HB.out hx267_0; have HR267_0 := ak hi267_0; have HC267_0 := ak hl267_0; clear hi267_0 hl267_0; replace p267 := eq_true p267; replace q267 := eq_true q267; have p268 : 0 ≤ (x14_2 : Int) := as_; have q268 : x14_2 < ((rd_Ls_i64 l1_1 a2_0).length : Int) := as_; obtain ⟨ad268, e268, hx268_0⟩ := Kd.at_int HR267_0.out x14_2 p268 q268
                  cases e268
                  replace hx268_0 := hbc_ HB.out hx268_0; replace p268 := eq_true p268; replace q268 := eq_true q268
                  go_wp2
                  go_ret
                  exact fin_ (bs2_ HB.out GE251.out GE252.out)
                rw [if_neg c62] at H; exact absurd H (by simp)
              rw [if_neg c61] at H; exact absurd H (by simp)
            rw [if_neg c60] at H; exact absurd H (by simp)
          rw [if_neg c59] at H; exact absurd H (by simp)

/-! ### spec_Means: function 66 -/
def spec_Means.f (k : Nat) (l0 : List (I_Sym)) (a1_0 : Int) (l1_1 : List (List Int)) (a2_0 : Int) (a2_1 : Int) (l2_2 : List (I_Term)) (l3 : List Int) : Option (Int) := (spec_WorldOk.f k l0 a1_0 l1_1).bind fun t271 => (if t271 = true then ((spec_TermOk.f k l0 a2_0 a2_1 l2_2).bind fun t272 => (if t272 = true then ((spec_l24Means.f k l0 a1_0 l1_1 a2_0 a2_1 l2_2 l3).bind fun t273 => (some t273)) else (some 0))) else (some 0))
theorem spec_Means.mono : ∀ a0 a1 a2 a3 a4 a5 a6 k, LeO (spec_Means.f k a0 a1 a2 a3 a4 a5 a6) (spec_Means.f (k + 1) a0 a1 a2 a3 a4 a5 a6) := by
  intro a0 a1 a2 a3 a4 a5 a6 k
  unfold spec_Means.f
  repeat' first
      | (with_reducible exact spec_TermOk.mono _ _ _ _ _)
      | (with_reducible exact spec_WorldOk.mono _ _ _ _)
      | (with_reducible exact spec_l24Means.mono _ _ _ _ _ _ _ _)
      | (with_reducible exact LeO.refl _)
      | (with_reducible exact LeO.none _)
      | (with_reducible refine LeO.ite ?_ ?_)
      | (with_reducible refine LeO.bind ?_ (fun _ => ?_))
      | exact spec_TermOk.mono _ _ _ _ _
      | exact spec_WorldOk.mono _ _ _ _
      | exact spec_l24Means.mono _ _ _ _ _ _ _ _
      | exact LeO.none _
      | refine LeO.ite ?_ ?_
      | refine LeO.bind ?_ (fun _ => ?_)
set_option maxHeartbeats 8000000 in
set_option maxRecDepth 100000 in
theorem spec_Means.calls (k : Nat) (A0 : Option Addr) (c0 : Nat) (l0 : List (I_Sym)) (a1_0 : Int) (A1_1 : Option Addr) (c1_1 : Nat) (l1_1 : List (List Int)) (a2_0 : Int) (a2_1 : Int) (A2_2 : Option Addr) (c2_2 : Nat) (l2_2 : List (I_Term)) (A3 : Option Addr) (c3 : Nat) (l3 : List Int) (r : Int) (w : World) (hr0 : Kd.C k99 w A0 l0.length l0) (hc0 : l0.length ≤ c0) (hr1_1 : Kd.C (Kd.slice 3 (Kd.int .i64)) w A1_1 l1_1.length l1_1) (hc1_1 : l1_1.length ≤ c1_1) (hr2_2 : Kd.C k33 w A2_2 l2_2.length l2_2) (hc2_2 : l2_2.length ≤ c2_2) (hr3 : Kd.C (Kd.int .i64) w A3 l3.length l3) (hc3 : l3.length ≤ c3) (h : spec_Means.f k l0 a1_0 l1_1 a2_0 a2_1 l2_2 l3 = some r) :
    Calls Try.prog 66 #[.slice A0 l0.length c0, .agg #[.int .i64 a1_0, .slice A1_1 l1_1.length c1_1], .agg #[.int .i64 a2_0, .int .i64 a2_1, .slice A2_2 l2_2.length c2_2], .slice A3 l3.length c3] w fun e w' => e = .returned (.int .i64 r) ∧ Below w.heap.size w w' := by
  have hu51 := Try.underlying51; have hu33 := Try.underlying33; have HR0 := ak hr0; have HC0 := ak hc0; clear hr0 hc0; have HR1_1 := ak hr1_1; have HC1_1 := ak hc1_1; clear hr1_1 hc1_1; have HR2_2 := ak hr2_2; have HC2_2 := ak hc2_2; clear hr2_2 hc2_2; have HR3 := ak hr3; have HC3 := ak hc3; clear hr3 hc3; have HB := ak (Below.refl w.heap.size w); have H : ((spec_WorldOk.f k l0 a1_0 l1_1).bind fun t271 => (if t271 = true then ((spec_TermOk.f k l0 a2_0 a2_1 l2_2).bind fun t272 => (if t272 = true then ((spec_l24Means.f k l0 a1_0 l1_1 a2_0 a2_1 l2_2 l3).bind fun t273 => (some t273)) else (some 0))) else (some 0))) = some r := h; clear h; replace H := Option.bind_eq_some_iff.mp H; obtain ⟨t271, A50, H⟩ := H; have A5 := ak A50; clear A50
  by_cases c6 : t271 = true
  · subst c6; rw [if_pos rfl] at H; replace H := Option.bind_eq_some_iff.mp H; obtain ⟨t272, A70, H⟩ := H; have A7 := ak A70; clear A70
    by_cases c8 : t272 = true
    · subst c8; rw [if_pos rfl] at H; replace H := Option.bind_eq_some_iff.mp H; obtain ⟨t273, A90, H⟩ := H; have A9 := ak A90; clear A90; obtain rfl := Option.some.inj H
      go_enter Try.func66, Try.ntmps66
      go_wp2_with (first | ((with_reducible refine gate_dst (N := 5) rfl ?_); refine bxe_ (N := 5) (cs := #[.int .i64 a1_0, .slice A1_1 l1_1.length c1_1]) (t := 51) ?_; intro gb269 hg w10 hbox hb; have BK269 := ak (hbox); have GW269 := ak (lg_ hg (bl_ HB.out)); have GE269 := ak (lg_ hg (bl_ HB.out)); replace HB := ak (below_step (bl_ HB.out) hb); clear hb hbox hg) | ((with_reducible refine gate_dst (N := 6) rfl ?_); refine bxe_ (N := 6) (cs := #[.int .i64 a2_0, .int .i64 a2_1, .slice A2_2 l2_2.length c2_2]) (t := 33) ?_; intro gb270 hg w11 hbox hb; have BK270 := ak (hbox); have GW270 := ak (lg_ hg (bs1_ HB.out GE269.out)); have GE270 := ak (lg_ hg (bs1_ HB.out GE269.out)); replace HB := ak (below_step (bs1_ HB.out GE269.out) hb); have NB269_270 := ak (nl_ hg (bk_ BK269.out)); have NB270_269 := ak (ng_ hg (bk_ BK269.out)); replace BK269 := ak (blk_below (bk_ BK269.out) hb); clear hb hbox hg; have hnb12 := NB269_270.out; have hnc12 := NB270_269.out; have hcz13_0 := bc_ BK269.out 0; have hcz13_1 := bc_ BK269.out 1; have hfz13_0 := blk_frozen BK269.out 0; have hfz13_1 := blk_frozen BK269.out 1) | ((with_reducible refine gate_callee (f := 31) rfl ?_); refine goesM_ (some 11) rfl rfl Try.func31 (by kernel_rfl) rfl #[.slice A0 l0.length c0, .agg #[.int .i64 a1_0, .slice A1_1 l1_1.length c1_1]] rfl ?_; (with_reducible refine (spec_WorldOk.calls k _ _ l0 a1_0 _ _ l1_1 true _ ?side1 ?side2 ?side3 ?side4 A5.out).mono ?_); (case side1 => exact cb_ HR0.out HB.out); (case side2 => exact HC0.out); (case side3 => exact cb_ HR1_1.out HB.out); (case side4 => exact HC1_1.out); rintro e w14 ⟨rfl, hb⟩; refine ⟨_, rfl, ?_⟩; replace BK269 := ak (blk_below (bk_ BK269.out) hb); replace BK270 := ak (blk_below (bk_ BK270.out) hb); replace HB := ak (below_step (bs2_ HB.out GE269.out GE270.out) hb); (try clear hb); (try clear hb2); (try clear hk); (try clear hi); have hcz15_0 := bc_ BK270.out 0; have hcz15_1 := bc_ BK270.out 1; have hcz15_2 := bc_ BK270.out 2; have hfz15_0 := blk_frozen BK270.out 0; have hfz15_1 := blk_frozen BK270.out 1; have hfz15_2 := blk_frozen BK270.out 2) | (go_at_call 130; (with_reducible refine (spec_TermOk.calls k _ _ l0 a2_0 a2_1 _ _ l2_2 true _ ?side1 ?side2 ?side3 ?side4 A7.out).mono ?_); (case side1 => exact cb_ HR0.out HB.out); (case side2 => exact HC0.out); (case side3 => exact cb_ HR2_2.out HB.out); (case side4 => exact HC2_2.out); rintro e w16 ⟨rfl, hb⟩; replace BK269 := ak (blk_below (bk_ BK269.out) hb); replace BK270 := ak (blk_below (bk_ BK270.out) hb); replace HB := ak (below_step (bs2_ HB.out GE269.out GE270.out) hb); (try clear hb); (try clear hb2); (try clear hk); (try clear hi); have hcz17_0 := bc_ BK269.out 0; have hcz17_1 := bc_ BK269.out 1; have hfz17_0 := blk_frozen BK269.out 0; have hfz17_1 := blk_frozen BK269.out 1; have hcz18_0 := bc_ BK270.out 0; have hcz18_1 := bc_ BK270.out 1; have hcz18_2 := bc_ BK270.out 2; have hfz18_0 := blk_frozen BK270.out 0; have hfz18_1 := blk_frozen BK270.out 1; have hfz18_2 := blk_frozen BK270.out 2) | ((with_reducible refine gate_callee (f := 134) rfl ?_); refine goesM_ (some 23) rfl rfl Try.func134 (by kernel_rfl) rfl #[.slice A0 l0.length c0, .agg #[.int .i64 a1_0, .slice A1_1 l1_1.length c1_1], .agg #[.int .i64 a2_0, .int .i64 a2_1, .slice A2_2 l2_2.length c2_2], .slice A3 l3.length c3] rfl ?_; (with_reducible refine (spec_l24Means.calls k _ _ l0 a1_0 _ _ l1_1 a2_0 a2_1 _ _ l2_2 _ _ l3 t273 _ ?side1 ?side2 ?side3 ?side4 ?side5 ?side6 ?side7 ?side8 A9.out).mono ?_); (case side1 => exact cb_ HR0.out HB.out); (case side2 => exact HC0.out); (case side3 => exact cb_ HR1_1.out HB.out); (case side4 => exact HC1_1.out); (case side5 => exact cb_ HR2_2.out HB.out); (case side6 => exact HC2_2.out); (case side7 => exact cb_ HR3.out HB.out); (case side8 => exact HC3.out); rintro e w19 ⟨rfl, hb⟩; refine ⟨_, rfl, ?_⟩; replace BK269 := ak (blk_below (bk_ BK269.out) hb); replace BK270 := ak (blk_below (bk_ BK270.out) hb); replace HB := ak (below_step (bs2_ HB.out GE269.out GE270.out) hb); (try clear hb); (try clear hb2); (try clear hk); (try clear hi)))
      go_ret
      exact fin_ (bs2_ HB.out GE269.out GE270.out)
    replace c8 := Bool.eq_false_iff.mpr c8; subst c8; rw [if_neg (show ¬ (false = true) by decide)] at H; obtain rfl := Option.some.inj H
    go_enter Try.func66, Try.ntmps66
    go_wp2_with (first | ((with_reducible refine gate_dst (N := 5) rfl ?_); refine bxe_ (N := 5) (cs := #[.int .i64 a1_0, .slice A1_1 l1_1.length c1_1]) (t := 51) ?_; intro gb269 hg w20 hbox hb; have BK269 := ak (hbox); have GW269 := ak (lg_ hg (bl_ HB.out)); have GE269 := ak (lg_ hg (bl_ HB.out)); replace HB := ak (below_step (bl_ HB.out) hb); clear hb hbox hg) | ((with_reducible refine gate_dst (N := 6) rfl ?_); refine bxe_ (N := 6) (cs := #[.int .i64 a2_0, .int .i64 a2_1, .slice A2_2 l2_2.length c2_2]) (t := 33) ?_; intro gb270 hg w21 hbox hb; have BK270 := ak (hbox); have GW270 := ak (lg_ hg (bs1_ HB.out GE269.out)); have GE270 := ak (lg_ hg (bs1_ HB.out GE269.out)); replace HB := ak (below_step (bs1_ HB.out GE269.out) hb); have NB269_270 := ak (nl_ hg (bk_ BK269.out)); have NB270_269 := ak (ng_ hg (bk_ BK269.out)); replace BK269 := ak (blk_below (bk_ BK269.out) hb); clear hb hbox hg; have hnb22 := NB269_270.out; have hnc22 := NB270_269.out; have hcz23_0 := bc_ BK269.out 0; have hcz23_1 := bc_ BK269.out 1; have hfz23_0 := blk_frozen BK269.out 0; have hfz23_1 := blk_frozen BK269.out 1) | ((with_reducible refine gate_callee (f := 31) rfl ?_); refine goesM_ (some 11) rfl rfl Try.func31 (by kernel_rfl) rfl #[.slice A0 l0.length c0, .agg #[.int .i64 a1_0, .slice A1_1 l1_1.length c1_1]] rfl ?_; (with_reducible refine (spec_WorldOk.calls k _ _ l0 a1_0 _ _ l1_1 true _ ?side1 ?side2 ?side3 ?side4 A5.out).mono ?_); (case side1 => exact cb_ HR0.out HB.out); (case side2 => exact HC0.out); (case side3 => exact cb_ HR1_1.out HB.out); (case side4 => exact HC1_1.out); rintro e w24 ⟨rfl, hb⟩; refine ⟨_, rfl, ?_⟩; replace BK269 := ak (blk_below (bk_ BK269.out) hb); replace BK270 := ak (blk_below (bk_ BK270.out) hb); replace HB := ak (below_step (bs2_ HB.out GE269.out GE270.out) hb); (try clear hb); (try clear hb2); (try clear hk); (try clear hi); have hcz25_0 := bc_ BK270.out 0; have hcz25_1 := bc_ BK270.out 1; have hcz25_2 := bc_ BK270.out 2; have hfz25_0 := blk_frozen BK270.out 0; have hfz25_1 := blk_frozen BK270.out 1; have hfz25_2 := blk_frozen BK270.out 2) | (go_at_call 130; (with_reducible refine (spec_TermOk.calls k _ _ l0 a2_0 a2_1 _ _ l2_2 false _ ?side1 ?side2 ?side3 ?side4 A7.out).mono ?_); (case side1 => exact cb_ HR0.out HB.out); (case side2 => exact HC0.out); (case side3 => exact cb_ HR2_2.out HB.out); (case side4 => exact HC2_2.out); rintro e w26 ⟨rfl, hb⟩; replace BK269 := ak (blk_below (bk_ BK269.out) hb); replace BK270 := ak (blk_below (bk_ BK270.out) hb); replace HB := ak (below_step (bs2_ HB.out GE269.out GE270.out) hb); (try clear hb); (try clear hb2); (try clear hk); (try clear hi)))
    go_ret
    exact fin_ (bs2_ HB.out GE269.out GE270.out)
  replace c6 := Bool.eq_false_iff.mpr c6; subst c6; rw [if_neg (show ¬ (false = true) by decide)] at H; obtain rfl := Option.some.inj H
  go_enter Try.func66, Try.ntmps66
  go_wp2_with (first | ((with_reducible refine gate_dst (N := 5) rfl ?_); refine bxe_ (N := 5) (cs := #[.int .i64 a1_0, .slice A1_1 l1_1.length c1_1]) (t := 51) ?_; intro gb269 hg w27 hbox hb; have BK269 := ak (hbox); have GW269 := ak (lg_ hg (bl_ HB.out)); have GE269 := ak (lg_ hg (bl_ HB.out)); replace HB := ak (below_step (bl_ HB.out) hb); clear hb hbox hg) | ((with_reducible refine gate_dst (N := 6) rfl ?_); refine bxe_ (N := 6) (cs := #[.int .i64 a2_0, .int .i64 a2_1, .slice A2_2 l2_2.length c2_2]) (t := 33) ?_; intro gb270 hg w28 hbox hb; have BK270 := ak (hbox); have GW270 := ak (lg_ hg (bs1_ HB.out GE269.out)); have GE270 := ak (lg_ hg (bs1_ HB.out GE269.out)); replace HB := ak (below_step (bs1_ HB.out GE269.out) hb); have NB269_270 := ak (nl_ hg (bk_ BK269.out)); have NB270_269 := ak (ng_ hg (bk_ BK269.out)); replace BK269 := ak (blk_below (bk_ BK269.out) hb); clear hb hbox hg; have hnb29 := NB269_270.out; have hnc29 := NB270_269.out; have hcz30_0 := bc_ BK269.out 0; have hcz30_1 := bc_ BK269.out 1; have hfz30_0 := blk_frozen BK269.out 0; have hfz30_1 := blk_frozen BK269.out 1) | ((with_reducible refine gate_callee (f := 31) rfl ?_); refine goesM_ (some 11) rfl rfl Try.func31 (by kernel_rfl) rfl #[.slice A0 l0.length c0, .agg #[.int .i64 a1_0, .slice A1_1 l1_1.length c1_1]] rfl ?_; (with_reducible refine (spec_WorldOk.calls k _ _ l0 a1_0 _ _ l1_1 false _ ?side1 ?side2 ?side3 ?side4 A5.out).mono ?_); (case side1 => exact cb_ HR0.out HB.out); (case side2 => exact HC0.out); (case side3 => exact cb_ HR1_1.out HB.out); (case side4 => exact HC1_1.out); rintro e w31 ⟨rfl, hb⟩; refine ⟨_, rfl, ?_⟩; replace BK269 := ak (blk_below (bk_ BK269.out) hb); replace BK270 := ak (blk_below (bk_ BK270.out) hb); replace HB := ak (below_step (bs2_ HB.out GE269.out GE270.out) hb); (try clear hb); (try clear hb2); (try clear hk); (try clear hi)))
  go_ret
  exact fin_ (bs2_ HB.out GE269.out GE270.out)

/-! ### impl_from: function 87 -/
def impl_from.f (a0 : Int) (a1 : Int) (a2 : Int) : Option (Bool) := if a0 ≥ a1 then (some (decide (a0 ≤ a2))) else (some false)
set_option maxHeartbeats 8000000 in
set_option maxRecDepth 100000 in
theorem impl_from.calls (a0 : Int) (a1 : Int) (a2 : Int) (r : Bool) (w : World) (h : impl_from.f a0 a1 a2 = some r) :
    Calls Try.prog 87 #[.int .i64 a0, .int .i64 a1, .int .i64 a2] w fun e w' => e = .returned (.bool r) ∧ Drawn0 w w' := by
  have H : (if a0 ≥ a1 then (some (decide (a0 ≤ a2))) else (some false)) = some r := h; clear h
  by_cases c4 : a0 ≥ a1
  · rw [if_pos c4] at H; have c4b0 := decide_eq_true c4; clear c4; obtain rfl := Option.some.inj H
    go_enter Try.func87, Try.ntmps87
    go_wp2
    go_ret
    exact ⟨by first | rfl | (simp; done) | (simp [*]; done), by repeat (first | exact Drawn0.refl _ | apply Drawn0.step)⟩
  rw [if_neg c4] at H; have c4b0 := decide_eq_false c4; clear c4; obtain rfl := Option.some.inj H
  go_enter Try.func87, Try.ntmps87
  go_wp2
  go_ret
  exact ⟨by first | rfl | (simp; done) | (simp [*]; done), by repeat (first | exact Drawn0.refl _ | apply Drawn0.step)⟩

/-! ### impl_isSmall: function 169 -/
def impl_isSmall.f (a0 : Int) : Option (Bool) := if a0 ≥ 97 then (some (decide (a0 ≤ 122))) else (some false)
set_option maxHeartbeats 8000000 in
set_option maxRecDepth 100000 in
theorem impl_isSmall.calls (a0 : Int) (r : Bool) (w : World) (h : impl_isSmall.f a0 = some r) :
    Calls Try.prog 169 #[.int .u8 a0] w fun e w' => e = .returned (.bool r) ∧ Drawn0 w w' := by
  have H : (if a0 ≥ 97 then (some (decide (a0 ≤ 122))) else (some false)) = some r := h; clear h
  by_cases c2 : a0 ≥ 97
  · rw [if_pos c2] at H; have c2b0 := decide_eq_true c2; clear c2; obtain rfl := Option.some.inj H
    go_enter Try.func169, Try.ntmps169
    go_wp2
    go_ret
    exact ⟨by first | rfl | (simp; done) | (simp [*]; done), by repeat (first | exact Drawn0.refl _ | apply Drawn0.step)⟩
  rw [if_neg c2] at H; have c2b0 := decide_eq_false c2; clear c2; obtain rfl := Option.some.inj H
  go_enter Try.func169, Try.ntmps169
  go_wp2
  go_ret
  exact ⟨by first | rfl | (simp; done) | (simp [*]; done), by repeat (first | exact Drawn0.refl _ | apply Drawn0.step)⟩

/-! ### impl_isDigit: function 170 -/
def impl_isDigit.f (a0 : Int) : Option (Bool) := if a0 ≥ 48 then (some (decide (a0 ≤ 57))) else (some false)
set_option maxHeartbeats 8000000 in
set_option maxRecDepth 100000 in
theorem impl_isDigit.calls (a0 : Int) (r : Bool) (w : World) (h : impl_isDigit.f a0 = some r) :
    Calls Try.prog 170 #[.int .u8 a0] w fun e w' => e = .returned (.bool r) ∧ Drawn0 w w' := by
  have H : (if a0 ≥ 48 then (some (decide (a0 ≤ 57))) else (some false)) = some r := h; clear h
  by_cases c2 : a0 ≥ 48
  · rw [if_pos c2] at H; have c2b0 := decide_eq_true c2; clear c2; obtain rfl := Option.some.inj H
    go_enter Try.func170, Try.ntmps170
    go_wp2
    go_ret
    exact ⟨by first | rfl | (simp; done) | (simp [*]; done), by repeat (first | exact Drawn0.refl _ | apply Drawn0.step)⟩
  rw [if_neg c2] at H; have c2b0 := decide_eq_false c2; clear c2; obtain rfl := Option.some.inj H
  go_enter Try.func170, Try.ntmps170
  go_wp2
  go_ret
  exact ⟨by first | rfl | (simp; done) | (simp [*]; done), by repeat (first | exact Drawn0.refl _ | apply Drawn0.step)⟩

/-! ### impl_NameOk: function 144 -/
def impl_NameOk.l0 : Nat → ByteArray → Int → Int → Option (Bool)
  | 0, _, _, _ => none
  | k + 1, x0, x5, x6 => if x6 < x5 then (if 0 ≤ x6 then (if x6 < (x0.size : Int) then ((impl_isSmall.f (bt x0 x6)).bind fun t276 => (if t276 = true then (impl_NameOk.l0 k x0 x5 (wrap64 (x6 + 1))) else ((impl_isDigit.f (bt x0 x6)).bind fun t277 => (if t277 = true then (impl_NameOk.l0 k x0 x5 (wrap64 (x6 + 1))) else (some false))))) else (none)) else (none)) else ((impl_from.f (x0.size : Int) 1 8).bind fun t274 => (if t274 = true then (if 0 < (x0.size : Int) then ((impl_isSmall.f (bt x0 0)).bind fun t275 => (some t275)) else (none)) else (some false)))
def impl_NameOk.f (k : Nat) (a0 : ByteArray) : Option (Bool) := impl_NameOk.l0 k a0 (a0.size : Int) 0
theorem impl_NameOk.mono_l : ∀ k, (∀ y0 y1 y2, LeO (impl_NameOk.l0 k y0 y1 y2) (impl_NameOk.l0 (k + 1) y0 y1 y2))
  | 0 => fun _ _ _ r h => by simp [impl_NameOk.l0] at h
  | k + 1 => by
    have ih0 := impl_NameOk.mono_l k
    · intro y0 y1 y2
      unfold impl_NameOk.l0
      repeat' first | (with_reducible first | exact ih0 _ _ _ | exact LeO.refl _ | exact LeO.none _ | refine LeO.ite ?_ ?_ | refine LeO.bind ?_ (fun _ => ?_)) | exact ih0 _ _ _ | exact LeO.none _ | refine LeO.ite ?_ ?_ | refine LeO.bind ?_ (fun _ => ?_)
theorem impl_NameOk.mono : ∀ a0 k, LeO (impl_NameOk.f k a0) (impl_NameOk.f (k + 1) a0) := by
  intro a0 k; have ih0 := impl_NameOk.mono_l k
  unfold impl_NameOk.f
  repeat' first
      | (with_reducible exact ih0 _ _ _)
      | (with_reducible exact LeO.refl _)
      | (with_reducible exact LeO.none _)
      | (with_reducible refine LeO.ite ?_ ?_)
      | (with_reducible refine LeO.bind ?_ (fun _ => ?_))
      | exact ih0 _ _ _
      | exact LeO.none _
      | refine LeO.ite ?_ ?_
      | refine LeO.bind ?_ (fun _ => ?_)
set_option maxHeartbeats 8000000 in
set_option maxRecDepth 100000 in
theorem impl_NameOk.calls (k : Nat) (a0 : ByteArray) (r : Bool) (w : World) (h : impl_NameOk.f k a0 = some r) :
    Calls Try.prog 144 #[.string a0] w fun e w' => e = .returned (.bool r) ∧ Drawn0 w w' := by
  have H : (impl_NameOk.l0 k a0 (a0.size : Int) 0) = some r := h; clear h; have H' := ak H; clear H
  go_enter Try.func144, Try.ntmps144
  go_wp2
  go_loopg [6] k (fun kq v6 w' => ∃ (x6_1 : Int), v6 = .int .i64 x6_1 ∧ Aside0 (impl_NameOk.l0 kq a0 (a0.size : Int) x6_1 = some r) ∧ Aside0 (kq ≤ k) ∧ Drawn0 w w')
  case atStart => exact ⟨(0), (by first | rfl | (simp; done) | (simp [*]; done)), H', ⟨Nat.le_refl _⟩, by repeat (first | exact Drawn0.refl _ | apply Drawn0.step)⟩
  case round =>
    clear H'; (try clear c1); obtain ⟨x6_1, rfl, HA, HK1, ⟨m1, rfl⟩⟩ := hrel
    cases gk with
    | zero => exact absurd HA.out (by simp [impl_NameOk.l0])
    | succ k1 =>
      have H := HA.out; clear HA
      simp only [impl_NameOk.l0] at H
      by_cases c2 : x6_1 < (a0.size : Int)
      · rw [if_pos c2] at H; have c2b0 := decide_eq_true c2; clear c2
        by_cases c3 : 0 ≤ x6_1
        · rw [if_pos c3] at H; have c3b0 := decide_eq_true c3; clear c3
          by_cases c4 : x6_1 < (a0.size : Int)
          · rw [if_pos c4] at H; have c4b0 := decide_eq_true c4; clear c4; replace H := Option.bind_eq_some_iff.mp H; obtain ⟨t276, A60, H⟩ := H; have A6 := ak A60; clear A60
            by_cases c7 : t276 = true
            · subst c7; rw [if_pos rfl] at H; have H' := ak H; clear H; have p5 : 0 ≤ (x6_1 : Int) := as_; have q5 : x6_1 < (a0.size : Int) := as_; have hx5 := bt_at a0 x6_1; replace p5 := eq_true p5; replace q5 := eq_true q5
              go_wp2_with (first | ((with_reducible refine gate_callee (f := 169) rfl ?_); refine goesM_ (some 12) rfl rfl Try.func169 (by kernel_rfl) rfl #[.int .u8 (bt a0 x6_1)] rfl ?_; (with_reducible refine (impl_isSmall.calls (bt a0 x6_1) true _ A6.out).mono ?_); rintro e w' ⟨rfl, ⟨nd, rfl⟩⟩; refine ⟨_, rfl, ?_⟩))
              go_roundg k1
              case measure => have := HK1.out; omega
              case rel => exact ⟨(wrap64 (x6_1 + 1)), (by first | rfl | (simp; done) | (simp [*]; done)), H', ⟨by have := HK1.out; omega⟩, by repeat (first | exact Drawn0.refl _ | apply Drawn0.step)⟩
            replace c7 := Bool.eq_false_iff.mpr c7; subst c7; rw [if_neg (show ¬ (false = true) by decide)] at H; replace H := Option.bind_eq_some_iff.mp H; obtain ⟨t277, A90, H⟩ := H; have A9 := ak A90; clear A90
            by_cases c10 : t277 = true
            · subst c10; rw [if_pos rfl] at H; have H' := ak H; clear H; have p5 : 0 ≤ (x6_1 : Int) := as_; have q5 : x6_1 < (a0.size : Int) := as_; have hx5 := bt_at a0 x6_1; replace p5 := eq_true p5; replace q5 := eq_true q5
              go_wp2_with (first | ((with_reducible refine gate_callee (f := 169) rfl ?_); refine goesM_ (some 12) rfl rfl Try.func169 (by kernel_rfl) rfl #[.int .u8 (bt a0 x6_1)] rfl ?_; (with_reducible refine (impl_isSmall.calls (bt a0 x6_1) false _ A6.out).mono ?_); rintro e w' ⟨rfl, ⟨nd, rfl⟩⟩; refine ⟨_, rfl, ?_⟩; have p8 : 0 ≤ (x6_1 : Int) := as_; have q8 : x6_1 < (a0.size : Int) := as_; have hx8 := bt_at a0 x6_1; replace p8 := eq_true p8; replace q8 := eq_true q8) | (go_at_call 170; (with_reducible refine (impl_isDigit.calls (bt a0 x6_1) true _ A9.out).mono ?_); rintro e w' ⟨rfl, ⟨nd, rfl⟩⟩))
              go_roundg k1
              case measure => have := HK1.out; omega
              case rel => exact ⟨(wrap64 (x6_1 + 1)), (by first | rfl | (simp; done) | (simp [*]; done)), H', ⟨by have := HK1.out; omega⟩, by repeat (first | exact Drawn0.refl _ | apply Drawn0.step)⟩
            replace c10 := Bool.eq_false_iff.mpr c10; subst c10; rw [if_neg (show ¬ (false = true) by decide)] at H; obtain rfl := Option.some.inj H; have p5 : 0 ≤ (x6_1 : Int) := as_; have q5 : x6_1 < (a0.size : Int) := as_; have hx5 := bt_at a0 x6_1; replace p5 := eq_true p5; replace q5 := eq_true q5
            go_wp2_with (first | ((with_reducible refine gate_callee (f := 169) rfl ?_); refine goesM_ (some 12) rfl rfl Try.func169 (by kernel_rfl) rfl #[.int .u8 (bt a0 x6_1)] rfl ?_; (with_reducible refine (impl_isSmall.calls (bt a0 x6_1) false _ A6.out).mono ?_); rintro e w' ⟨rfl, ⟨nd, rfl⟩⟩; refine ⟨_, rfl, ?_⟩; have p8 : 0 ≤ (x6_1 : Int) := as_; have q8 : x6_1 < (a0.size : Int) := as_; have hx8 := bt_at a0 x6_1; replace p8 := eq_true p8; replace q8 := eq_true q8) | (go_at_call 170; (with_reducible refine (impl_isDigit.calls (bt a0 x6_1) false _ A9.out).mono ?_); rintro e w' ⟨rfl, ⟨nd, rfl⟩⟩))
            go_ret
            exact ⟨by first | rfl | (simp; done) | (simp [*]; done), by repeat (first | exact Drawn0.refl _ | apply Drawn0.step)⟩
          rw [if_neg c4] at H; exact absurd H (by simp)
        rw [if_neg c3] at H; exact absurd H (by simp)
      rw [if_neg c2] at H; have c2b0 := decide_eq_false c2; clear c2; replace H := Option.bind_eq_some_iff.mp H; obtain ⟨t274, A110, H⟩ := H; have A11 := ak A110; clear A110
      by_cases c12 : t274 = true
      · subst c12; rw [if_pos rfl] at H
        by_cases c13 : 0 < (a0.size : Int)
        · rw [if_pos c13] at H; have c13b0 := decide_eq_true c13; have c13b1 : decide (0 < a0.size) = true := decide_eq_true (by omega); clear c13; replace H := Option.bind_eq_some_iff.mp H; obtain ⟨t275, A150, H⟩ := H; have A15 := ak A150; clear A150; obtain rfl := Option.some.inj H
          go_wp2_with (first | ((with_reducible refine gate_callee (f := 87) rfl ?_); refine goesM_ (some 24) rfl rfl Try.func87 (by kernel_rfl) rfl #[.int .i64 (a0.size : Int), .int .i64 1, .int .i64 8] rfl ?_; (with_reducible refine (impl_from.calls (a0.size : Int) 1 8 true _ A11.out).mono ?_); rintro e w' ⟨rfl, ⟨nd, rfl⟩⟩; refine ⟨_, rfl, ?_⟩; have p14 : 0 ≤ (0 : Int) := (by omega); have q14 : 0 < a0.size := (by have : (0 : Int) < (a0.size : Int) := as_; omega); have hx14 : ∀ h : 0 < a0.size, ((a0[0]'h).toNat : Int) = bt a0 0 := bt_at a0 0; clear p14; have qi14 : (0 < (a0.size : Int)) = True := eq_true (as_); replace q14 := eq_true q14) | (go_at_call 169; (with_reducible refine (impl_isSmall.calls (bt a0 0) t275 _ A15.out).mono ?_); rintro e w' ⟨rfl, ⟨nd, rfl⟩⟩))
          go_ret
          exact ⟨by first | rfl | (simp; done) | (simp [*]; done), by repeat (first | exact Drawn0.refl _ | apply Drawn0.step)⟩
        rw [if_neg c13] at H; exact absurd H (by simp)
      replace c12 := Bool.eq_false_iff.mpr c12; subst c12; rw [if_neg (show ¬ (false = true) by decide)] at H; obtain rfl := Option.some.inj H
      go_wp2_with (first | ((with_reducible refine gate_callee (f := 87) rfl ?_); refine goesM_ (some 24) rfl rfl Try.func87 (by kernel_rfl) rfl #[.int .i64 (a0.size : Int), .int .i64 1, .int .i64 8] rfl ?_; (with_reducible refine (impl_from.calls (a0.size : Int) 1 8 false _ A11.out).mono ?_); rintro e w' ⟨rfl, ⟨nd, rfl⟩⟩; refine ⟨_, rfl, ?_⟩))
      go_ret
      exact ⟨by first | rfl | (simp; done) | (simp [*]; done), by repeat (first | exact Drawn0.refl _ | apply Drawn0.step)⟩

/-! ### impl_SymOf_1: function 172 -/
def impl_SymOf_1.f (a0_0 : ByteArray) (a0_1 : Int) (a0_2 : Bool) (a1_0 : ByteArray) : Option (Bool) := some (a0_0.toList == a1_0.toList)
set_option maxHeartbeats 8000000 in
set_option maxRecDepth 100000 in
theorem impl_SymOf_1.calls (a0_0 : ByteArray) (a0_1 : Int) (a0_2 : Bool) (G1 : Nat) (a1_0 : ByteArray) (r : Bool) (w : World) (hG1 : w.heap[G1]? = some (.cells #[.string a1_0] 9 (0, 0))) (h : impl_SymOf_1.f a0_0 a0_1 a0_2 a1_0 = some r) :
    Calls Try.prog 172 #[.agg #[.string a0_0, .int .i64 a0_1, .bool a0_2], .pointer (some ⟨G1, 0, none⟩)] w fun e w' => e = .returned (.bool r) ∧ Below w.heap.size w w' := by
  have hu99 := Try.underlying99; have BK1 := ak hG1; clear hG1; have HB := ak (Below.refl w.heap.size w); have H : (some (a0_0.toList == a1_0.toList)) = some r := h; clear h; obtain rfl := Option.some.inj H
  go_enter Try.func172, Try.ntmps172
  go_wp2_with (first | ((with_reducible refine gate_dst (N := 2) rfl ?_); refine bxe_ (N := 2) (cs := #[.string a0_0, .int .i64 a0_1, .bool a0_2]) (t := 99) ?_; intro gb278 hg w3 hbox hb; have BK278 := ak (hbox); have GW278 := ak (lg_ hg (bl_ HB.out)); have GE278 := ak (lg_ hg (bl_ HB.out)); replace HB := ak (below_step (bl_ HB.out) hb); have NB1_278 := ak (nl_ hg (bk_ BK1.out)); have NB278_1 := ak (ng_ hg (bk_ BK1.out)); replace BK1 := ak (blk_below (bk_ BK1.out) hb); clear hb hbox hg; have hnb4 := NB278_1.out; have hnc4 := NB1_278.out; have hcz5_0 := bc_ BK278.out 0; have hcz5_1 := bc_ BK278.out 1; have hcz5_2 := bc_ BK278.out 2; have hfz5_0 := blk_frozen BK278.out 0; have hfz5_1 := blk_frozen BK278.out 1; have hfz5_2 := blk_frozen BK278.out 2; have hcz6_0 := bc_ BK1.out 0; have hfz6_0 := blk_frozen BK1.out 0))
  go_ret
  exact fin_ (bs1_ HB.out GE278.out)

end Go.Proofs.Ytcboagkbcoihjaa.XMeans
