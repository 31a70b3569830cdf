-- printed by a program of this session (xprint, turned from the kit's print) for this claim
import Derived.Test.YtcboagkbcoihjaaXValuex0
import Derived.Test.YtcboagkbcoihjaaXValuex4
import Derived.Test.YtcboagkbcoihjaaXValuex5
import Derived.Test.YtcboagkbcoihjaaXValuex7
namespace Go.Proofs.Ytcboagkbcoihjaa.XValue
open Go.RowKit Go.Proofs.Ytcboagkbcoihjaa.XOpens Go.Proofs.YtcboagkbcoihjaaW.PrintWords Go.Proofs.YtcboagkbcoihjaaW.PrintLast Go.Proofs.YtcboagkbcoihjaaW.PrintMore
attribute [local go_sem] max2_int min2_int max_two min_two max_three min_three max_four min_four   -- for this text's walks alone
set_option linter.unusedVariables false
set_option linter.unusedSimpArgs false

/-! ### spec_TermOk: function 130 -/
def spec_TermOk.f (k : Nat) (l0 : List (I_Sym)) (a1_0 : Int) (a1_1 : Int) (l1_2 : List (I_Term)) : Option (Bool) := (spec_SigOk.f k l0).bind fun t244 => (if t244 = true then ((spec_Parts.f k a1_0 a1_1 l1_2).bind fun t245 => (if t245 ≤ 60 then ((spec_l4Right.f k l0 a1_0 a1_1 l1_2).bind fun t246 => (some t246)) else (some false))) else (some false))
theorem spec_TermOk.mono : ∀ a0 a1 a2 a3 k, LeO (spec_TermOk.f k a0 a1 a2 a3) (spec_TermOk.f (k + 1) a0 a1 a2 a3) := by
  intro a0 a1 a2 a3 k
  unfold spec_TermOk.f
  repeat' first
      | (with_reducible exact spec_Parts.mono _ _ _ _)
      | (with_reducible exact spec_SigOk.mono _ _)
      | (with_reducible exact spec_l4Right.mono _ _ _ _ _)
      | (with_reducible exact LeO.refl _)
      | (with_reducible exact LeO.none _)
      | (with_reducible refine LeO.ite ?_ ?_)
      | (with_reducible refine LeO.bind ?_ (fun _ => ?_))
      | exact spec_Parts.mono _ _ _ _
      | exact spec_SigOk.mono _ _
      | exact spec_l4Right.mono _ _ _ _ _
      | exact LeO.none _
      | refine LeO.ite ?_ ?_
      | refine LeO.bind ?_ (fun _ => ?_)
set_option maxHeartbeats 8000000 in
set_option maxRecDepth 100000 in
theorem spec_TermOk.calls (k : Nat) (A0 : Option Addr) (c0 : Nat) (l0 : List (I_Sym)) (a1_0 : Int) (a1_1 : Int) (A1_2 : Option Addr) (c1_2 : Nat) (l1_2 : List (I_Term)) (r : Bool) (w : World) (hr0 : Kd.C k99 w A0 l0.length l0) (hc0 : l0.length ≤ c0) (hr1_2 : Kd.C k33 w A1_2 l1_2.length l1_2) (hc1_2 : l1_2.length ≤ c1_2) (h : spec_TermOk.f k l0 a1_0 a1_1 l1_2 = some r) :
    Calls Try.prog 130 #[.slice A0 l0.length c0, .agg #[.int .i64 a1_0, .int .i64 a1_1, .slice A1_2 l1_2.length c1_2]] w fun e w' => e = .returned (.bool r) ∧ Below w.heap.size w w' := by
  have hu33 := Try.underlying33; have HR0 := ak hr0; have HC0 := ak hc0; clear hr0 hc0; have HR1_2 := ak hr1_2; have HC1_2 := ak hc1_2; clear hr1_2 hc1_2; have HB := ak (Below.refl w.heap.size w); have H : ((spec_SigOk.f k l0).bind fun t244 => (if t244 = true then ((spec_Parts.f k a1_0 a1_1 l1_2).bind fun t245 => (if t245 ≤ 60 then ((spec_l4Right.f k l0 a1_0 a1_1 l1_2).bind fun t246 => (some t246)) else (some false))) else (some false))) = some r := h; clear h; replace H := Option.bind_eq_some_iff.mp H; obtain ⟨t244, A30, H⟩ := H; have A3 := ak A30; clear A30
  by_cases c4 : t244 = true
  · subst c4; rw [if_pos rfl] at H; replace H := Option.bind_eq_some_iff.mp H; obtain ⟨t245, A50, H⟩ := H; have A5 := ak A50; clear A50
    by_cases c6 : t245 ≤ 60
    · rw [if_pos c6] at H; have c6b0 := decide_eq_true c6; clear c6; replace H := Option.bind_eq_some_iff.mp H; obtain ⟨t246, A70, H⟩ := H; have A7 := ak A70; clear A70; obtain rfl := Option.some.inj H
      go_enter Try.func130, Try.ntmps130
      go_wp2_with (first | ((with_reducible refine gate_dst (N := 3) rfl ?_); refine bxe_ (N := 3) (cs := #[.int .i64 a1_0, .int .i64 a1_1, .slice A1_2 l1_2.length c1_2]) (t := 33) ?_; intro gb243 hg w8 hbox hb; have BK243 := ak (hbox); have GW243 := ak (lg_ hg (bl_ HB.out)); have GE243 := ak (lg_ hg (bl_ HB.out)); replace HB := ak (below_step (bl_ HB.out) hb); clear hb hbox hg) | ((with_reducible refine gate_callee (f := 78) rfl ?_); refine goesM_ (some 6) rfl rfl Try.func78 (by kernel_rfl) rfl #[.slice A0 l0.length c0] rfl ?_; (with_reducible refine (spec_SigOk.calls k _ _ l0 true _ ?side1 ?side2 A3.out).mono ?_); (case side1 => exact cb_ HR0.out HB.out); (case side2 => exact HC0.out); rintro e w' ⟨rfl, ⟨nd, rfl⟩⟩; refine ⟨_, rfl, ?_⟩; have hcz9_0 := bc_ BK243.out 0; have hcz9_1 := bc_ BK243.out 1; have hcz9_2 := bc_ BK243.out 2; have hfz9_0 := blk_frozen BK243.out 0; have hfz9_1 := blk_frozen BK243.out 1; have hfz9_2 := blk_frozen BK243.out 2) | (go_at_call 163; (with_reducible refine (spec_Parts.calls k a1_0 a1_1 _ _ l1_2 t245 _ ?side1 ?side2 A5.out).mono ?_); (case side1 => exact ca_ (Kd.C_below HR1_2.out (bs1_ HB.out GE243.out))); (case side2 => exact HC1_2.out); rintro e w10 ⟨rfl, hb⟩; replace BK243 := ak (blk_below (bk_ BK243.out) hb); replace HB := ak (below_step (bs1_ HB.out GE243.out) hb); (try clear hb); (try clear hb2); (try clear hk); (try clear hi); have hcz11_0 := bc_ BK243.out 0; have hcz11_1 := bc_ BK243.out 1; have hcz11_2 := bc_ BK243.out 2; have hfz11_0 := blk_frozen BK243.out 0; have hfz11_1 := blk_frozen BK243.out 1; have hfz11_2 := blk_frozen BK243.out 2) | (go_at_call 164; (with_reducible refine (spec_l4Right.calls k _ _ l0 a1_0 a1_1 _ _ l1_2 t246 _ ?side1 ?side2 ?side3 ?side4 A7.out).mono ?_); (case side1 => exact cb_ HR0.out HB.out); (case side2 => exact HC0.out); (case side3 => exact cb_ HR1_2.out HB.out); (case side4 => exact HC1_2.out); rintro e w12 ⟨rfl, hb⟩; replace BK243 := ak (blk_below (bk_ BK243.out) hb); replace HB := ak (below_step (bs1_ HB.out GE243.out) hb); (try clear hb); (try clear hb2); (try clear hk); (try clear hi)))
      go_ret
      exact fin_ (bs1_ HB.out GE243.out)
    rw [if_neg c6] at H; have c6b0 := decide_eq_false c6; clear c6; obtain rfl := Option.some.inj H
    go_enter Try.func130, Try.ntmps130
    go_wp2_with (first | ((with_reducible refine gate_dst (N := 3) rfl ?_); refine bxe_ (N := 3) (cs := #[.int .i64 a1_0, .int .i64 a1_1, .slice A1_2 l1_2.length c1_2]) (t := 33) ?_; intro gb243 hg w13 hbox hb; have BK243 := ak (hbox); have GW243 := ak (lg_ hg (bl_ HB.out)); have GE243 := ak (lg_ hg (bl_ HB.out)); replace HB := ak (below_step (bl_ HB.out) hb); clear hb hbox hg) | ((with_reducible refine gate_callee (f := 78) rfl ?_); refine goesM_ (some 6) rfl rfl Try.func78 (by kernel_rfl) rfl #[.slice A0 l0.length c0] rfl ?_; (with_reducible refine (spec_SigOk.calls k _ _ l0 true _ ?side1 ?side2 A3.out).mono ?_); (case side1 => exact cb_ HR0.out HB.out); (case side2 => exact HC0.out); rintro e w' ⟨rfl, ⟨nd, rfl⟩⟩; refine ⟨_, rfl, ?_⟩; have hcz14_0 := bc_ BK243.out 0; have hcz14_1 := bc_ BK243.out 1; have hcz14_2 := bc_ BK243.out 2; have hfz14_0 := blk_frozen BK243.out 0; have hfz14_1 := blk_frozen BK243.out 1; have hfz14_2 := blk_frozen BK243.out 2) | (go_at_call 163; (with_reducible refine (spec_Parts.calls k a1_0 a1_1 _ _ l1_2 t245 _ ?side1 ?side2 A5.out).mono ?_); (case side1 => exact ca_ (Kd.C_below HR1_2.out (bs1_ HB.out GE243.out))); (case side2 => exact HC1_2.out); rintro e w15 ⟨rfl, hb⟩; replace BK243 := ak (blk_below (bk_ BK243.out) hb); replace HB := ak (below_step (bs1_ HB.out GE243.out) hb); (try clear hb); (try clear hb2); (try clear hk); (try clear hi)))
    go_ret
    exact fin_ (bs1_ HB.out GE243.out)
  replace c4 := Bool.eq_false_iff.mpr c4; subst c4; rw [if_neg (show ¬ (false = true) by decide)] at H; obtain rfl := Option.some.inj H
  go_enter Try.func130, Try.ntmps130
  go_wp2_with (first | ((with_reducible refine gate_dst (N := 3) rfl ?_); refine bxe_ (N := 3) (cs := #[.int .i64 a1_0, .int .i64 a1_1, .slice A1_2 l1_2.length c1_2]) (t := 33) ?_; intro gb243 hg w16 hbox hb; have BK243 := ak (hbox); have GW243 := ak (lg_ hg (bl_ HB.out)); have GE243 := ak (lg_ hg (bl_ HB.out)); replace HB := ak (below_step (bl_ HB.out) hb); clear hb hbox hg) | ((with_reducible refine gate_callee (f := 78) rfl ?_); refine goesM_ (some 6) rfl rfl Try.func78 (by kernel_rfl) rfl #[.slice A0 l0.length c0] rfl ?_; (with_reducible refine (spec_SigOk.calls k _ _ l0 false _ ?side1 ?side2 A3.out).mono ?_); (case side1 => exact cb_ HR0.out HB.out); (case side2 => exact HC0.out); rintro e w' ⟨rfl, ⟨nd, rfl⟩⟩; refine ⟨_, rfl, ?_⟩))
  go_ret
  exact fin_ (bs1_ HB.out GE243.out)

/-! ### spec_l1Max: function 127 -/
def spec_l1Max.f (a0 : Int) (a1 : Int) : Option (Int) := if a0 > a1 then (some a0) else (some a1)
set_option maxHeartbeats 8000000 in
set_option maxRecDepth 100000 in
theorem spec_l1Max.calls (a0 : Int) (a1 : Int) (r : Int) (w : World) (h : spec_l1Max.f a0 a1 = some r) :
    Calls Try.prog 127 #[.int .i64 a0, .int .i64 a1] w fun e w' => e = .returned (.int .i64 r) ∧ Drawn0 w w' := by
  have H : (if a0 > a1 then (some a0) else (some a1)) = some r := h; clear h
  by_cases c3 : a0 > a1
  · rw [if_pos c3] at H; have c3b0 := decide_eq_true c3; clear c3; obtain rfl := Option.some.inj H
    go_enter Try.func127, Try.ntmps127
    go_wp2
    go_ret
    exact ⟨by first | rfl | (simp; done) | (simp [*]; done), by repeat (first | exact Drawn0.refl _ | apply Drawn0.step)⟩
  rw [if_neg c3] at H; have c3b0 := decide_eq_false c3; clear c3; obtain rfl := Option.some.inj H
  go_enter Try.func127, Try.ntmps127
  go_wp2
  go_ret
  exact ⟨by first | rfl | (simp; done) | (simp [*]; done), by repeat (first | exact Drawn0.refl _ | apply Drawn0.step)⟩

/-! ### spec_l1Min: function 128 -/
def spec_l1Min.f (a0 : Int) (a1 : Int) : Option (Int) := if a0 < a1 then (some a0) else (some a1)
set_option maxHeartbeats 8000000 in
set_option maxRecDepth 100000 in
theorem spec_l1Min.calls (a0 : Int) (a1 : Int) (r : Int) (w : World) (h : spec_l1Min.f a0 a1 = some r) :
    Calls Try.prog 128 #[.int .i64 a0, .int .i64 a1] w fun e w' => e = .returned (.int .i64 r) ∧ Drawn0 w w' := by
  have H : (if a0 < a1 then (some a0) else (some a1)) = some r := h; clear h
  by_cases c3 : a0 < a1
  · rw [if_pos c3] at H; have c3b0 := decide_eq_true c3; clear c3; obtain rfl := Option.some.inj H
    go_enter Try.func128, Try.ntmps128
    go_wp2
    go_ret
    exact ⟨by first | rfl | (simp; done) | (simp [*]; done), by repeat (first | exact Drawn0.refl _ | apply Drawn0.step)⟩
  rw [if_neg c3] at H; have c3b0 := decide_eq_false c3; clear c3; obtain rfl := Option.some.inj H
  go_enter Try.func128, Try.ntmps128
  go_wp2
  go_ret
  exact ⟨by first | rfl | (simp; done) | (simp [*]; done), by repeat (first | exact Drawn0.refl _ | apply Drawn0.step)⟩

/-! ### spec_l1Bit: function 165 -/
def spec_l1Bit.f (a0 : Bool) : Option (Int) := if a0 = true then (some 1) else (some 0)
set_option maxHeartbeats 8000000 in
set_option maxRecDepth 100000 in
theorem spec_l1Bit.calls (a0 : Bool) (r : Int) (w : World) (h : spec_l1Bit.f a0 = some r) :
    Calls Try.prog 165 #[.bool a0] w fun e w' => e = .returned (.int .i64 r) ∧ Drawn0 w w' := by
  have H : (if a0 = true then (some 1) else (some 0)) = some r := h; clear h
  by_cases c2 : a0 = true
  · subst c2; rw [if_pos rfl] at H; obtain rfl := Option.some.inj H
    go_enter Try.func165, Try.ntmps165
    go_wp2
    go_ret
    exact ⟨by first | rfl | (simp; done) | (simp [*]; done), by repeat (first | exact Drawn0.refl _ | apply Drawn0.step)⟩
  replace c2 := Bool.eq_false_iff.mpr c2; subst c2; rw [if_neg (show ¬ (false = true) by decide)] at H; obtain rfl := Option.some.inj H
  go_enter Try.func165, Try.ntmps165
  go_wp2
  go_ret
  exact ⟨by first | rfl | (simp; done) | (simp [*]; done), by repeat (first | exact Drawn0.refl _ | apply Drawn0.step)⟩

/-! ### spec_l21Value: function 131 -/
mutual
def spec_l21Value.l0 : Nat → List (I_Sym) → List Int → Int → Int → List (List Int) → Int → Int → List (I_Term) → Option (Int)
  | 0, _, _, _, _, _, _, _, _ => none
  | k + 1, x0, x3, x9, x10, x248000, x249000, x249001, x249002 => if x10 < (x249002.length : Int) then (if 0 ≤ x10 then ((spec_l21Value.f k x0 x248000 ((rd_I_Term x249002 x10).f0) ((rd_I_Term x249002 x10).f1) ((rd_I_Term x249002 x10).f2) x3).bind fun t259 => ((spec_l21Two.f x248000 x249000 x9 t259).bind fun t260 => (spec_l21Value.l0 k x0 x3 t260 (wrap64 (x10 + 1)) x248000 x249000 x249001 x249002))) else (none)) else (some x9)
def spec_l21Value.l1 : Nat → List (I_Sym) → List Int → Int → Int → List (List Int) → Int → Int → List (I_Term) → Option (Int)
  | 0, _, _, _, _, _, _, _, _ => none
  | k + 1, x0, x3, x11, x12, x248000, x249000, x249001, x249002 => if x12 < (x249002.length : Int) then (if 0 ≤ x12 then ((spec_l21Value.f k x0 x248000 ((rd_I_Term x249002 x12).f0) ((rd_I_Term x249002 x12).f1) ((rd_I_Term x249002 x12).f2) x3).bind fun t262 => (spec_l21Value.l1 k x0 x3 (Go.bits .or .i64 x11 (shl .i64 t262 x12)) (wrap64 (x12 + 1)) x248000 x249000 x249001 x249002)) else (none)) else (if 0 ≤ x249000 then (if x249000 < (x248000.length : Int) then (if 0 ≤ x11 then (if x11 < ((rd_Ls_i64 x248000 x249000).length : Int) then (some (rd (rd_Ls_i64 x248000 x249000) x11)) else (none)) else (none)) else (none)) else (none))
def spec_l21Value.f : Nat → List (I_Sym) → List (List Int) → Int → Int → List (I_Term) → List Int → Option (Int)
  | 0, _, _, _, _, _, _ => none
  | k + 1, l0, l1_0, a2_0, a2_1, l2_2, l3 => if a2_0 = (-1) then ((spec_l1In.f a2_1 0 (wrap64 ((l3.length : Int) - 1))).bind fun t249 => (if t249 = true then ((spec_l1Min.f a2_1 (wrap64 ((l3.length : Int) - 1))).bind fun t250 => ((spec_l1Max.f 0 t250).bind fun t251 => (if 0 ≤ t251 then (if t251 < (l3.length : Int) then ((spec_l1Bit.f ((Go.bits .and .i64 (rd l3 t251) 1) == 1)).bind fun t253 => (some t253)) else (none)) else (none)))) else ((spec_l1Bit.f false).bind fun t254 => (some t254)))) else (if 0 ≤ a2_0 then (if a2_0 < (l0.length : Int) then (if (rd_I_Sym l0 a2_0).f2 = true then (if 0 < (l2_2.length : Int) then ((spec_l21Value.f k l0 l1_0 ((rd_I_Term l2_2 0).f0) ((rd_I_Term l2_2 0).f1) ((rd_I_Term l2_2 0).f2) l3).bind fun t257 => (spec_l21Value.l0 k l0 l3 t257 1 l1_0 a2_0 a2_1 l2_2)) else (none)) else (spec_l21Value.l1 k l0 l3 0 0 l1_0 a2_0 a2_1 l2_2)) else (none)) else (none))
end
theorem spec_l21Value.mono_l : ∀ k, (∀ y0 y1 y2 y3 y4 y5, LeO (spec_l21Value.f k y0 y1 y2 y3 y4 y5) (spec_l21Value.f (k + 1) y0 y1 y2 y3 y4 y5)) ∧ (∀ y0 y1 y2 y3 y4 y5 y6 y7, LeO (spec_l21Value.l0 k y0 y1 y2 y3 y4 y5 y6 y7) (spec_l21Value.l0 (k + 1) y0 y1 y2 y3 y4 y5 y6 y7)) ∧ (∀ y0 y1 y2 y3 y4 y5 y6 y7, LeO (spec_l21Value.l1 k y0 y1 y2 y3 y4 y5 y6 y7) (spec_l21Value.l1 (k + 1) y0 y1 y2 y3 y4 y5 y6 y7))
  | 0 => ⟨fun _ _ _ _ _ _ r h => by simp [spec_l21Value.f] at h, fun _ _ _ _ _ _ _ _ r h => by simp [spec_l21Value.l0] at h, fun _ _ _ _ _ _ _ _ r h => by simp [spec_l21Value.l1] at h⟩
  | k + 1 => by
    obtain ⟨ih0, ih1, ih2⟩ := spec_l21Value.mono_l k; refine ⟨?_, ?_, ?_⟩
    · intro y0 y1 y2 y3 y4 y5
      unfold spec_l21Value.f
      repeat' first | (with_reducible first | exact ih0 _ _ _ _ _ _ | exact ih1 _ _ _ _ _ _ _ _ | exact ih2 _ _ _ _ _ _ _ _ | exact LeO.refl _ | exact LeO.none _ | refine LeO.ite ?_ ?_ | refine LeO.bind ?_ (fun _ => ?_)) | exact ih0 _ _ _ _ _ _ | exact ih1 _ _ _ _ _ _ _ _ | exact ih2 _ _ _ _ _ _ _ _ | exact LeO.none _ | refine LeO.ite ?_ ?_ | refine LeO.bind ?_ (fun _ => ?_)
    · intro y0 y1 y2 y3 y4 y5 y6 y7
      unfold spec_l21Value.l0
      repeat' first | (with_reducible first | exact ih0 _ _ _ _ _ _ | exact ih1 _ _ _ _ _ _ _ _ | exact ih2 _ _ _ _ _ _ _ _ | exact LeO.refl _ | exact LeO.none _ | refine LeO.ite ?_ ?_ | refine LeO.bind ?_ (fun _ => ?_)) | exact ih0 _ _ _ _ _ _ | exact ih1 _ _ _ _ _ _ _ _ | exact ih2 _ _ _ _ _ _ _ _ | exact LeO.none _ | refine LeO.ite ?_ ?_ | refine LeO.bind ?_ (fun _ => ?_)
    · intro y0 y1 y2 y3 y4 y5 y6 y7
      unfold spec_l21Value.l1
      repeat' first | (with_reducible first | exact ih0 _ _ _ _ _ _ | exact ih1 _ _ _ _ _ _ _ _ | exact ih2 _ _ _ _ _ _ _ _ | exact LeO.refl _ | exact LeO.none _ | refine LeO.ite ?_ ?_ | refine LeO.bind ?_ (fun _ => ?_)) | exact ih0 _ _ _ _ _ _ | exact ih1 _ _ _ _ _ _ _ _ | exact ih2 _ _ _ _ _ _ _ _ | exact LeO.none _ | refine LeO.ite ?_ ?_ | refine LeO.bind ?_ (fun _ => ?_)
theorem spec_l21Value.mono : ∀ a0 a1 a2 a3 a4 a5 k, LeO (spec_l21Value.f k a0 a1 a2 a3 a4 a5) (spec_l21Value.f (k + 1) a0 a1 a2 a3 a4 a5) := by
  intro a0 a1 a2 a3 a4 a5 k; obtain ⟨ih0, ih1, ih2⟩ := spec_l21Value.mono_l k; exact ih0 a0 a1 a2 a3 a4 a5
def spec_l21Value.T4 : Bool × List (List Nat × List Nat) := (true, [([], []), ([], []), ([], []), ([2], [2]), ([3], [3]), ([4], [4]), ([], []), ([0, 1, 5, 6], [0, 1, 5, 6]), ([7, 7, 0, 1, 2, 3, 4, 5, 6, 7], [7])])
def spec_l21Value.B4 : List Nat := [0, 0, 0, 4, 12, 28, 0, 127, 255]
theorem spec_l21Value.tab4 : rtab .any (opsOf Try.f131 4) = spec_l21Value.T4 := by kernel_rfl
theorem spec_l21Value.bits4 : waitsOk spec_l21Value.T4.2 spec_l21Value.B4 = true := by kernel_rfl
def spec_l21Value.T8 : Bool × List (List Nat × List Nat) := (true, [([], []), ([], []), ([1], [1]), ([], []), ([], []), ([], []), ([], []), ([6], [6]), ([], []), ([7, 8], [7, 8]), ([9], [9]), ([], []), ([4, 5, 10, 11], [4, 5, 10, 11]), ([0, 2, 3, 12, 12], [0, 2, 3, 12]), ([13, 13, 0, 1, 2, 3, 4, 5, 6, 7, 8, 9, 10, 11, 12, 13], [3, 13])])
def spec_l21Value.B8 : List Nat := [0, 0, 2, 0, 0, 0, 0, 64, 0, 448, 960, 0, 4080, 8191, 16383]
theorem spec_l21Value.tab8 : rtab .any (opsOf Try.f131 8) = spec_l21Value.T8 := by kernel_rfl
theorem spec_l21Value.bits8 : waitsOk spec_l21Value.T8.2 spec_l21Value.B8 = true := by kernel_rfl
def spec_l21Value.T14 : Bool × List (List Nat × List Nat) := (true, [([], []), ([], []), ([], []), ([], []), ([3], [3]), ([], []), ([4, 5], [4, 5]), ([6], [6]), ([], []), ([1, 2, 7, 8], [1, 2, 7, 8]), ([], []), ([9, 10], [9, 10]), ([0, 11], [0, 11]), ([12, 9, 0, 1, 2, 3, 4, 5, 6, 7, 8, 9, 10, 11, 12], [0, 12])])
def spec_l21Value.B14 : List Nat := [0, 0, 0, 0, 8, 0, 56, 120, 0, 510, 0, 2046, 4095, 8191]
theorem spec_l21Value.tab14 : rtab .any (opsOf Try.f131 14) = spec_l21Value.T14 := by kernel_rfl
theorem spec_l21Value.bits14 : waitsOk spec_l21Value.T14.2 spec_l21Value.B14 = true := by kernel_rfl
set_option maxHeartbeats 8000000 in
set_option maxRecDepth 100000 in
theorem spec_l21Value.calls (k : Nat) : ∀ (A0 : Option Addr) (c0 : Nat) (l0 : List (I_Sym)) (A1_0 : Option Addr) (c1_0 : Nat) (l1_0 : List (List Int)) (a2_0 : Int) (a2_1 : Int) (A2_2 : Option Addr) (c2_2 : Nat) (l2_2 : List (I_Term)) (A3 : Option Addr) (c3 : Nat) (l3 : List Int) (r : Int) (w : World) (hr0 : Kd.C k99 w A0 l0.length l0) (hc0 : l0.length ≤ c0) (hr1_0 : Kd.C (Kd.slice 3 (Kd.int .i64)) w A1_0 l1_0.length l1_0) (hc1_0 : l1_0.length ≤ c1_0) (hr2_2 : Kd.C k33 w A2_2 l2_2.length l2_2) (hc2_2 : l2_2.length ≤ c2_2) (hr3 : Kd.C (Kd.int .i64) w A3 l3.length l3) (hc3 : l3.length ≤ c3) (h : spec_l21Value.f k l0 l1_0 a2_0 a2_1 l2_2 l3 = some r),
    Calls Try.prog 131 #[.slice A0 l0.length c0, .agg #[.slice A1_0 l1_0.length c1_0], .agg #[.int .i64 a2_0, .int .i64 a2_1, .slice A2_2 l2_2.length c2_2], .slice A3 l3.length c3] w fun e w' => e = .returned (.int .i64 r) ∧ Below w.heap.size w w' := by
  induction k using Nat.strongRecOn with
  | _ k ih =>
  intro A0 c0 l0 A1_0 c1_0 l1_0 a2_0 a2_1 A2_2 c2_2 l2_2 A3 c3 l3 r w hr0 hc0 hr1_0 hc1_0 hr2_2 hc2_2 hr3 hc3 h
  cases k with
  | zero => exact absurd h (by simp [spec_l21Value.f])
  | succ k =>
  simp only [spec_l21Value.f] at h
  have hu43 := Try.underlying43; have hu33 := Try.underlying33; have HR0 := ak hr0; have HC0 := ak hc0; clear hr0 hc0; have HR1_0 := ak hr1_0; have HC1_0 := ak hc1_0; clear hr1_0 hc1_0; have HR2_2 := ak hr2_2; have HC2_2 := ak hc2_2; clear hr2_2 hc2_2; have HR3 := ak hr3; have HC3 := ak hc3; clear hr3 hc3; have HB := ak (Below.refl w.heap.size w); have H : (if a2_0 = (-1) then ((spec_l1In.f a2_1 0 (wrap64 ((l3.length : Int) - 1))).bind fun t249 => (if t249 = true then ((spec_l1Min.f a2_1 (wrap64 ((l3.length : Int) - 1))).bind fun t250 => ((spec_l1Max.f 0 t250).bind fun t251 => (if 0 ≤ t251 then (if t251 < (l3.length : Int) then ((spec_l1Bit.f ((Go.bits .and .i64 (rd l3 t251) 1) == 1)).bind fun t253 => (some t253)) else (none)) else (none)))) else ((spec_l1Bit.f false).bind fun t254 => (some t254)))) else (if 0 ≤ a2_0 then (if a2_0 < (l0.length : Int) then (if (rd_I_Sym l0 a2_0).f2 = true then (if 0 < (l2_2.length : Int) then ((spec_l21Value.f k l0 l1_0 ((rd_I_Term l2_2 0).f0) ((rd_I_Term l2_2 0).f1) ((rd_I_Term l2_2 0).f2) l3).bind fun t257 => (spec_l21Value.l0 k l0 l3 t257 1 l1_0 a2_0 a2_1 l2_2)) else (none)) else (spec_l21Value.l1 k l0 l3 0 0 l1_0 a2_0 a2_1 l2_2)) else (none)) else (none))) = some r := h; clear h
  by_cases c5 : a2_0 = (-1)
  · rw [if_pos c5] at H; have c5b0 : (a2_0 == (-1)) = true := beq_iff_eq.mpr c5; have c5b1 : (a2_0 != (-1)) = false := bne_eq_false_iff_eq.mpr c5; clear c5; replace H := Option.bind_eq_some_iff.mp H; obtain ⟨t249, A60, H⟩ := H; have A6 := ak A60; clear A60
    by_cases c7 : t249 = true
    · subst c7; rw [if_pos rfl] at H; replace H := Option.bind_eq_some_iff.mp H; obtain ⟨t250, A80, H⟩ := H; have A8 := ak A80; clear A80; replace H := Option.bind_eq_some_iff.mp H; obtain ⟨t251, A90, H⟩ := H; have A9 := ak A90; clear A90
      by_cases c10 : 0 ≤ t251
      · rw [if_pos c10] at H; have c10b0 := decide_eq_true c10; clear c10
        by_cases c11 : t251 < (l3.length : Int)
        · rw [if_pos c11] at H; have c11b0 := decide_eq_true c11; clear c11; replace H := Option.bind_eq_some_iff.mp H; obtain ⟨t253, A120, H⟩ := H; have A12 := ak A120; clear A120; obtain rfl := Option.some.inj H
          go_enter Try.func131, Try.ntmps131
          go_wp2_with (first | ((with_reducible refine gate_dst (N := 5) rfl ?_); (try (refine gate_guard (by rfl) ?_; dsimp only)); refine bxe_ (N := 5) (cs := #[.slice A1_0 l1_0.length c1_0]) (t := 43) ?_; intro gb247 hg w13 hbox hb; have BK247 := ak (hbox); have GW247 := ak (lg_ hg (bl_ HB.out)); have GE247 := ak (lg_ hg (bl_ HB.out)); replace HB := ak (below_step (bl_ HB.out) hb); clear hb hbox hg) | ((with_reducible refine gate_dst (N := 6) rfl ?_); (try (refine gate_guard (by rfl) ?_; dsimp only)); refine bxe_ (N := 6) (cs := #[.int .i64 a2_0, .int .i64 a2_1, .slice A2_2 l2_2.length c2_2]) (t := 33) ?_; intro gb248 hg w14 hbox hb; have BK248 := ak (hbox); have GW248 := ak (lg_ hg (bs1_ HB.out GE247.out)); have GE248 := ak (lg_ hg (bs1_ HB.out GE247.out)); replace HB := ak (below_step (bs1_ HB.out GE247.out) hb); have NB247_248 := ak (nl_ hg (bk_ BK247.out)); have NB248_247 := ak (ng_ hg (bk_ BK247.out)); replace BK247 := ak (blk_below (bk_ BK247.out) hb); clear hb hbox hg; have hnb15 := NB248_247.out; have hnc15 := NB247_248.out; have hcz16_0 := bc_ BK248.out 0; have hcz16_1 := bc_ BK248.out 1; have hcz16_2 := bc_ BK248.out 2; have hfz16_0 := blk_frozen BK248.out 0; have hfz16_1 := blk_frozen BK248.out 1; have hfz16_2 := blk_frozen BK248.out 2) | ((with_reducible refine gate_callee (f := 79) rfl ?_); refine goesM_ (some 21) rfl rfl Try.func79 (by kernel_rfl) rfl #[.int .i64 a2_1, .int .i64 0, .int .i64 (wrap64 ((l3.length : Int) - 1))] rfl ?_; (with_reducible refine (spec_l1In.calls a2_1 0 (wrap64 ((l3.length : Int) - 1)) true _ A6.out).mono ?_); rintro e w' ⟨rfl, ⟨nd, rfl⟩⟩; refine ⟨_, rfl, ?_⟩) | (go_at_call 128; (with_reducible refine (spec_l1Min.calls a2_1 (wrap64 ((l3.length : Int) - 1)) t250 _ A8.out).mono ?_); rintro e w' ⟨rfl, ⟨nd, rfl⟩⟩) | (go_at_call 127; (with_reducible refine (spec_l1Max.calls 0 t250 t251 _ A9.out).mono ?_); rintro e w' ⟨rfl, ⟨nd, rfl⟩⟩; have p252 : 0 ≤ (t251 : Int) := as_; have q252 : t251 < (l3.length : Int) := as_; obtain ⟨ad252, e252, hx252_0⟩ := Kd.at_int HR3.out t251 p252 q252; cases e252; replace hx252_0 := hbc_ HB.out hx252_0; replace p252 := eq_true p252; replace q252 := eq_true q252) | ((with_reducible refine gate_callee (f := 165) rfl ?_); refine goesM_ (some 36) rfl rfl Try.func165 (by kernel_rfl) rfl #[.bool ((Go.bits .and .i64 (rd l3 t251) 1) == 1)] rfl ?_; (with_reducible refine (spec_l1Bit.calls ((Go.bits .and .i64 (rd l3 t251) 1) == 1) t253 _ A12.out).mono ?_); rintro e w' ⟨rfl, ⟨nd, rfl⟩⟩; refine ⟨_, rfl, ?_⟩))
          go_ret
          exact fin_ (bs2_ HB.out GE247.out GE248.out)
        rw [if_neg c11] at H; exact absurd H (by simp)
      rw [if_neg c10] at H; exact absurd H (by simp)
    replace c7 := Bool.eq_false_iff.mpr c7; subst c7; rw [if_neg (show ¬ (false = true) by decide)] at H; replace H := Option.bind_eq_some_iff.mp H; obtain ⟨t254, A170, H⟩ := H; have A17 := ak A170; clear A170; obtain rfl := Option.some.inj H
    go_enter Try.func131, Try.ntmps131
    go_wp2_with (first | ((with_reducible refine gate_dst (N := 5) rfl ?_); (try (refine gate_guard (by rfl) ?_; dsimp only)); refine bxe_ (N := 5) (cs := #[.slice A1_0 l1_0.length c1_0]) (t := 43) ?_; intro gb247 hg w18 hbox hb; have BK247 := ak (hbox); have GW247 := ak (lg_ hg (bl_ HB.out)); have GE247 := ak (lg_ hg (bl_ HB.out)); replace HB := ak (below_step (bl_ HB.out) hb); clear hb hbox hg) | ((with_reducible refine gate_dst (N := 6) rfl ?_); (try (refine gate_guard (by rfl) ?_; dsimp only)); refine bxe_ (N := 6) (cs := #[.int .i64 a2_0, .int .i64 a2_1, .slice A2_2 l2_2.length c2_2]) (t := 33) ?_; intro gb248 hg w19 hbox hb; have BK248 := ak (hbox); have GW248 := ak (lg_ hg (bs1_ HB.out GE247.out)); have GE248 := ak (lg_ hg (bs1_ HB.out GE247.out)); replace HB := ak (below_step (bs1_ HB.out GE247.out) hb); have NB247_248 := ak (nl_ hg (bk_ BK247.out)); have NB248_247 := ak (ng_ hg (bk_ BK247.out)); replace BK247 := ak (blk_below (bk_ BK247.out) hb); clear hb hbox hg; have hnb20 := NB248_247.out; have hnc20 := NB247_248.out; have hcz21_0 := bc_ BK248.out 0; have hcz21_1 := bc_ BK248.out 1; have hcz21_2 := bc_ BK248.out 2; have hfz21_0 := blk_frozen BK248.out 0; have hfz21_1 := blk_frozen BK248.out 1; have hfz21_2 := blk_frozen BK248.out 2) | ((with_reducible refine gate_callee (f := 79) rfl ?_); refine goesM_ (some 21) rfl rfl Try.func79 (by kernel_rfl) rfl #[.int .i64 a2_1, .int .i64 0, .int .i64 (wrap64 ((l3.length : Int) - 1))] rfl ?_; (with_reducible refine (spec_l1In.calls a2_1 0 (wrap64 ((l3.length : Int) - 1)) false _ A6.out).mono ?_); rintro e w' ⟨rfl, ⟨nd, rfl⟩⟩; refine ⟨_, rfl, ?_⟩) | ((with_reducible refine gate_callee (f := 165) rfl ?_); refine goesM_ (some 36) rfl rfl Try.func165 (by kernel_rfl) rfl #[.bool false] rfl ?_; (with_reducible refine (spec_l1Bit.calls false t254 _ A17.out).mono ?_); rintro e w' ⟨rfl, ⟨nd, rfl⟩⟩; refine ⟨_, rfl, ?_⟩))
    go_ret
    exact fin_ (bs2_ HB.out GE247.out GE248.out)
  rw [if_neg c5] at H; have c5b0 : (a2_0 == (-1)) = false := beq_eq_false_iff_ne.mpr c5; have c5b1 : (a2_0 != (-1)) = true := bne_iff_ne.mpr c5
  by_cases c22 : 0 ≤ a2_0
  · rw [if_pos c22] at H; have c22b0 := decide_eq_true c22; clear c22
    by_cases c23 : a2_0 < (l0.length : Int)
    · rw [if_pos c23] at H; have c23b0 := decide_eq_true c23; clear c23; obtain ⟨bq24, hbq24⟩ : ∃ b_ : Bool, b_ = ((rd_I_Sym l0 a2_0).f2) := ⟨_, rfl⟩; replace H : (if bq24 = true then (if 0 < (l2_2.length : Int) then ((spec_l21Value.f k l0 l1_0 ((rd_I_Term l2_2 0).f0) ((rd_I_Term l2_2 0).f1) ((rd_I_Term l2_2 0).f2) l3).bind fun t257 => (spec_l21Value.l0 k l0 l3 t257 1 l1_0 a2_0 a2_1 l2_2)) else (none)) else (spec_l21Value.l1 k l0 l3 0 0 l1_0 a2_0 a2_1 l2_2)) = some r := by rw [← hbq24] at H; exact H
      have Nbq24 := ak hbq24; clear hbq24
      by_cases c25 : bq24 = true
      · subst c25; rw [if_pos rfl] at H
        by_cases c26 : 0 < (l2_2.length : Int)
        · rw [if_pos c26] at H; have c26b0 := decide_eq_true c26; have c26b1 : decide (0 < l2_2.length) = true := decide_eq_true (by omega); clear c26; replace H := Option.bind_eq_some_iff.mp H; obtain ⟨t257, A270, H⟩ := H; have A27 := ak A270; clear A270; have H' := ak H; clear H
          go_enter Try.func131, Try.ntmps131
          try go_wp2_with (first | ((with_reducible refine gate_dst (N := 5) rfl ?_); (try (refine gate_guard (by rfl) ?_; dsimp only)); refine bxe_ (N := 5) (cs := #[.slice A1_0 l1_0.length c1_0]) (t := 43) ?_; intro gb247 hg w28 hbox hb; have BK247 := ak (hbox); have GW247 := ak (lg_ hg (bl_ HB.out)); have GE247 := ak (lg_ hg (bl_ HB.out)); replace HB := ak (below_step (bl_ HB.out) hb); clear hb hbox hg) | ((with_reducible refine gate_dst (N := 6) rfl ?_); (try (refine gate_guard (by rfl) ?_; dsimp only)); refine bxe_ (N := 6) (cs := #[.int .i64 a2_0, .int .i64 a2_1, .slice A2_2 l2_2.length c2_2]) (t := 33) ?_; intro gb248 hg w29 hbox hb; have BK248 := ak (hbox); have GW248 := ak (lg_ hg (bs1_ HB.out GE247.out)); have GE248 := ak (lg_ hg (bs1_ HB.out GE247.out)); replace HB := ak (below_step (bs1_ HB.out GE247.out) hb); have NB247_248 := ak (nl_ hg (bk_ BK247.out)); have NB248_247 := ak (ng_ hg (bk_ BK247.out)); replace BK247 := ak (blk_below (bk_ BK247.out) hb); clear hb hbox hg; have hnb30 := NB248_247.out; have hnc30 := NB247_248.out; have hcz31_0 := bc_ BK248.out 0; have hcz31_1 := bc_ BK248.out 1; have hcz31_2 := bc_ BK248.out 2; have hfz31_0 := blk_frozen BK248.out 0; have hfz31_1 := blk_frozen BK248.out 1; have hfz31_2 := blk_frozen BK248.out 2; have p255 : 0 ≤ (a2_0 : Int) := as_; have q255 : a2_0 < (l0.length : Int) := as_; obtain ⟨ad255, e255, hx255_0, hx255_1, hx255_2⟩ := at_T99 HR0.out a2_0 p255 q255; (try rw [← Nbq24.out] at hx255_2); cases e255; replace hx255_0 := hbc_ HB.out hx255_0; replace hx255_1 := hbc_ HB.out hx255_1; replace hx255_2 := hbc_ HB.out hx255_2; replace p255 := eq_true p255; replace q255 := eq_true q255))
          replace BK247 := ak (blk_drew BK247.out); replace BK248 := ak (blk_drew BK248.out); replace HB := ak (below_drew1 HB.out); have p256 : 0 ≤ (0 : Int) := (by omega); have q256 : 0 < (l2_2.length : Int) := as_; obtain ⟨ad256, A256_2, c256_2, e256, hx256_0, hx256_1, hx256_2, hl256_2, hi256_2⟩ := at_T33 HR2_2.out 0 p256 q256; have hw256_2 := hx256_2; (try rw [show ((0 : Int)).toNat = 0 from rfl] at hw256_2); (try rw [show 0 * 3 = 0 from rfl] at hw256_2); (try rw [Addr.add_zero'] at hw256_2); have hw256_1 := hx256_1; (try rw [show ((0 : Int)).toNat = 0 from rfl] at hw256_1); (try rw [show 0 * 3 = 0 from rfl] at hw256_1); (try rw [Addr.add_zero'] at hw256_1); have hw256_0 := hx256_0; (try rw [show ((0 : Int)).toNat = 0 from rfl] at hw256_0); (try rw [show 0 * 3 = 0 from rfl] at hw256_0); (try rw [Addr.add_zero'] at hw256_0)
          cases e256
          have qi256 : (0 < l2_2.length) = True := eq_true (by omega); (try rw [show ((0 : Int)).toNat = 0 from rfl] at hx256_0); (try rw [show 0 * 3 = 0 from rfl] at hx256_0); (try rw [Addr.add_zero'] at hx256_0); (try rw [show ((0 : Int)).toNat = 0 from rfl] at hx256_1); (try rw [show 0 * 3 = 0 from rfl] at hx256_1); (try rw [Addr.add_zero'] at hx256_1); (try rw [show ((0 : Int)).toNat = 0 from rfl] at hx256_2); (try rw [show 0 * 3 = 0 from rfl] at hx256_2); (try rw [Addr.add_zero'] at hx256_2); replace hx256_0 := hbc_ HB.out hx256_0; replace hx256_1 := hbc_ HB.out hx256_1; replace hx256_2 := hbc_ HB.out hx256_2; have HR256_2 := ak hi256_2; have HC256_2 := ak hl256_2; clear hi256_2 hl256_2; replace p256 := eq_true p256; replace q256 := eq_true q256; refine start_ (n := 9) (S := fun w' => w'.cell? ⟨gb247, 0, none⟩ = some (.slice A1_0 l1_0.length c1_0) ∧ w'.cell? ⟨gb248, 0, none⟩ = some (.int .i64 a2_0) ∧ w'.cell? ⟨gb248, 1, none⟩ = some (.int .i64 a2_1) ∧ w'.cell? ⟨gb248, 2, none⟩ = some (.slice (some ad256) l2_2.length c2_2) ∧ w'.cell? ad256 = some (.int .i64 ((rd_I_Term l2_2 0).f0)) ∧ w'.cell? ⟨ad256.block, ad256.off + 1, none⟩ = some (.int .i64 ((rd_I_Term l2_2 0).f1)) ∧ w'.cell? ⟨ad256.block, ad256.off + 2, none⟩ = some (.slice A256_2 ((rd_I_Term l2_2 0).f2).length c256_2)) (ds := []) (bm 9 0) (by kernel_rfl) rfl (by kernel_rfl) ⟨(blk_cell BK247.out 0).trans rfl, (blk_cell BK248.out 0).trans rfl, (blk_cell BK248.out 1).trans rfl, (blk_cell BK248.out 2).trans rfl, (hbc_ HB.out hw256_0 :), (hbc_ HB.out hw256_1 :), (hbc_ HB.out hw256_2 :)⟩ (fun hHeld => ?_); refine with_tabW spec_l21Value.tab4 spec_l21Value.bits4 (fun HT_ HW_ => ?_)
          generalize w29.drew = w32 at BK247 BK248 HB HR256_2 hx256_0 hx256_1 hx256_2 hHeld ⊢
          refine pv_ 0 ?_; refine pv_ 2 ?_; refine pv_ 6 ?_; refine tv_ 1 hHeld ?_; refine tv_ 3 hHeld ?_; refine pv_ 4 ?_; refine tv_ 5 hHeld ?_; refine one_ (i := 7) (N := some 50) (bm 9 255) rfl rfl (one_of HT_.out (by kernel_rfl)) (by decide) (fun K hK => ?_); refine goesB_ Try.func131 (by kernel_rfl) rfl #[.slice (some ad255) l0.length c0, .agg #[.slice A1_0 l1_0.length c1_0], .agg #[.int .i64 ((rd_I_Term l2_2 0).f0), .int .i64 ((rd_I_Term l2_2 0).f1), .slice A256_2 ((rd_I_Term l2_2 0).f2).length c256_2], .slice A3 l3.length c3] (by rfl) rfl rfl ?_
          with_reducible refine (ih k (by omega) _ _ l0 _ _ l1_0 ((rd_I_Term l2_2 0).f0) ((rd_I_Term l2_2 0).f1) _ _ ((rd_I_Term l2_2 0).f2) _ _ l3 t257 _ ?side1 ?side2 ?side3 ?side4 ?side5 ?side6 ?side7 ?side8 A27.out).mono ?_
          (case side1 => exact cb_ HR0.out HB.out); (case side2 => exact HC0.out); (case side3 => exact cb_ HR1_0.out HB.out); (case side4 => exact HC1_0.out); (case side5 => exact cb_ HR256_2.out HB.out); (case side6 => exact HC256_2.out); (case side7 => exact cb_ HR3.out HB.out); (case side8 => exact HC3.out); rintro e w33 ⟨rfl, hb⟩; refine ⟨_, rfl, ?_⟩; replace BK247 := ak (blk_below (bk_ BK247.out) hb); replace BK248 := ak (blk_below (bk_ BK248.out) hb); replace HB := ak (below_step (bs2_ HB.out GE247.out GE248.out) hb); (try clear hb); (try clear hb2); (try clear hk); (try clear hi); refine hK.out _ _ ⟨(blk_cell BK247.out 0).trans rfl, (blk_cell BK248.out 0).trans rfl, (blk_cell BK248.out 1).trans rfl, (blk_cell BK248.out 2).trans rfl, (hbc_ HB.out hw256_0 :), (hbc_ HB.out hw256_1 :), (hbc_ HB.out hw256_2 :)⟩ (fun hHeld => ?_); clear hK K; refine norm_ (a' := ?_) ?_ ?_
          rotate_left
          · show Act.put _ (some 50) _ = _
            simp only [Act.put, List.setIfInBounds_toArray, List.set_cons_zero, List.set_cons_succ, i64_w, i32_w]
            rfl
          refine pv_ 8 ?_; refine done_ (done_of HT_.out (by kernel_rfl)) ?_
          try go_wp2
          go_loopg [9, 10] k (fun kq v9 v10 w' => ∃ (x9_1 : Int) (x10_1 : Int), v9 = .int .i64 x9_1 ∧ v10 = .int .i64 x10_1 ∧ Aside0 (spec_l21Value.l0 kq l0 l3 x9_1 x10_1 l1_0 a2_0 a2_1 l2_2 = some r) ∧ Aside0 (kq ≤ k) ∧ Aside0 (w'.heap[gb247]? = some (.cells #[(.slice A1_0 l1_0.length c1_0)] 43 (0, 0))) ∧ Aside0 (w'.heap[gb248]? = some (.cells #[.int .i64 a2_0, .int .i64 a2_1, (.slice (some ad256) l2_2.length c2_2)] 33 (0, 0))) ∧ Aside0 (Below w.heap.size w w'))
          case atStart => exact ⟨(t257), (1), (by first | rfl | (simp; done) | (simp [*]; done)), (by first | rfl | (simp; done) | (simp [*]; done)), H', ⟨Nat.le_refl _⟩, ⟨bk_ BK247.out⟩, ⟨bk_ BK248.out⟩, ⟨bs2_ HB.out GE247.out GE248.out⟩⟩
          case round =>
            clear H'; (try clear c1); (try clear c2); (try clear p2); (try clear q2); (try clear hx2); (try clear qi2); (try clear c3); (try clear c5); (try clear c5b0); (try clear c5b1); (try clear p6); (try clear c7); (try clear c10); (try clear c10b0); (try clear c11); (try clear c11b0); (try clear c13); (try clear c15); (try clear c16); (try clear c20); (try clear c22); (try clear c22b0); (try clear c23); (try clear c23b0); (try clear q24); (try clear c25); (try clear p25); (try clear q25); (try clear hx25); (try clear qi25); (try clear c26); (try clear c26b0); (try clear c26b1); (try clear c30); (try clear hcz16_0); (try clear hcz16_1); (try clear hcz16_2); (try clear hcz21_0); (try clear hcz21_1); (try clear hcz21_2); (try clear hcz31_0); (try clear hcz31_1); (try clear hcz31_2); (try clear hfz16_0); (try clear hfz16_1); (try clear hfz16_2); (try clear hfz21_0); (try clear hfz21_1); (try clear hfz21_2); (try clear hfz31_0); (try clear hfz31_1); (try clear hfz31_2); (try clear hx252_0); (try clear hx255_0); (try clear hx255_1); (try clear hx255_2); (try clear hx256_0); (try clear hx256_1); (try clear hx256_2); (try clear p252); (try clear p255); (try clear p256); (try clear q252); (try clear q255); (try clear q256); obtain ⟨x9_1, x10_1, rfl, rfl, HA, HK1, BK247, BK248, HB⟩ := hrel
            cases gk with
            | zero => exact absurd HA.out (by simp [spec_l21Value.l0])
            | succ k1 =>
              have H := HA.out; clear HA
              simp only [spec_l21Value.l0] at H
              by_cases c34 : x10_1 < (l2_2.length : Int)
              · rw [if_pos c34] at H; have c34b0 := decide_eq_true c34; clear c34
                by_cases c35 : 0 ≤ x10_1
                · rw [if_pos c35] at H; have c35b0 := decide_eq_true c35; clear c35; replace H := Option.bind_eq_some_iff.mp H; obtain ⟨t259, A360, H⟩ := H; have A36 := ak A360; clear A360; replace H := Option.bind_eq_some_iff.mp H; obtain ⟨t260, A370, H⟩ := H; have A37 := ak A370; clear A370; have H' := ak H; clear H; have hnb38 := NB248_247.out; have hnc38 := NB247_248.out; have hcz39_0 := bc_ BK248.out 0; have hcz39_1 := bc_ BK248.out 1; have hcz39_2 := bc_ BK248.out 2; have hfz39_0 := blk_frozen BK248.out 0; have hfz39_1 := blk_frozen BK248.out 1; have hfz39_2 := blk_frozen BK248.out 2
                  try go_wp2
                  replace BK247 := ak (blk_drew BK247.out); replace BK248 := ak (blk_drew BK248.out); replace HB := ak (below_drew1 HB.out); have p258 : 0 ≤ (x10_1 : Int) := as_; have q258 : x10_1 < (l2_2.length : Int) := as_; obtain ⟨ad258, A258_2, c258_2, e258, hx258_0, hx258_1, hx258_2, hl258_2, hi258_2⟩ := at_T33 HR2_2.out x10_1 p258 q258; have hw258_2 := hx258_2; have hw258_1 := hx258_1; have hw258_0 := hx258_0; obtain rfl : ad256 = ad258 := (by injection e258); replace hx258_0 := hbc_ HB.out hx258_0; replace hx258_1 := hbc_ HB.out hx258_1; replace hx258_2 := hbc_ HB.out hx258_2; have HR258_2 := ak hi258_2; have HC258_2 := ak hl258_2; clear hi258_2 hl258_2; replace p258 := eq_true p258; replace q258 := eq_true q258; refine start_ (n := 15) (S := fun w' => w'.cell? ⟨gb247, 0, none⟩ = some (.slice A1_0 l1_0.length c1_0) ∧ w'.cell? ⟨gb248, 0, none⟩ = some (.int .i64 a2_0) ∧ w'.cell? ⟨gb248, 1, none⟩ = some (.int .i64 a2_1) ∧ w'.cell? ⟨gb248, 2, none⟩ = some (.slice (some ad256) l2_2.length c2_2) ∧ w'.cell? (ad256.add ((x10_1).toNat * 3)) = some (.int .i64 ((rd_I_Term l2_2 x10_1).f0)) ∧ w'.cell? ⟨(ad256.add ((x10_1).toNat * 3)).block, (ad256.add ((x10_1).toNat * 3)).off + 1, none⟩ = some (.int .i64 ((rd_I_Term l2_2 x10_1).f1)) ∧ w'.cell? ⟨(ad256.add ((x10_1).toNat * 3)).block, (ad256.add ((x10_1).toNat * 3)).off + 2, none⟩ = some (.slice A258_2 ((rd_I_Term l2_2 x10_1).f2).length c258_2)) (ds := []) (bm 15 0) (by kernel_rfl) rfl (by kernel_rfl) ⟨(blk_cell BK247.out 0).trans rfl, (blk_cell BK248.out 0).trans rfl, (blk_cell BK248.out 1).trans rfl, (blk_cell BK248.out 2).trans rfl, (hbc_ HB.out hw258_0 :), (hbc_ HB.out hw258_1 :), (hbc_ HB.out hw258_2 :)⟩ (fun hHeld => ?_); refine with_tabW spec_l21Value.tab8 spec_l21Value.bits8 (fun HT_ HW_ => ?_)
                  generalize wr.drew = w40 at BK247 BK248 HB HR258_2 hx258_0 hx258_1 hx258_2 hHeld ⊢
                  refine pv_ 1 ?_; refine pv_ 3 ?_; refine pv_ 4 ?_; refine pv_ 6 ?_; refine pv_ 8 ?_; refine pv_ 11 ?_; refine tv_ 0 hHeld ?_; refine tv_ 2 hHeld ?_; refine tv_ 5 hHeld ?_; refine tv_ 7 hHeld ?_; refine pv_ 9 ?_; refine tv_ 10 hHeld ?_; refine one_ (i := 12) (N := some 70) (bm 15 8191) rfl rfl (one_of HT_.out (by kernel_rfl)) (by decide) (fun K hK => ?_); refine goesB_ Try.func131 (by kernel_rfl) rfl #[.slice (some ad255) l0.length c0, .agg #[.slice A1_0 l1_0.length c1_0], .agg #[.int .i64 ((rd_I_Term l2_2 x10_1).f0), .int .i64 ((rd_I_Term l2_2 x10_1).f1), .slice A258_2 ((rd_I_Term l2_2 x10_1).f2).length c258_2], .slice A3 l3.length c3] (by rfl) rfl rfl ?_
                  with_reducible refine (ih k1 (by have := HK1.out; omega) _ _ l0 _ _ l1_0 ((rd_I_Term l2_2 x10_1).f0) ((rd_I_Term l2_2 x10_1).f1) _ _ ((rd_I_Term l2_2 x10_1).f2) _ _ l3 t259 _ ?side1 ?side2 ?side3 ?side4 ?side5 ?side6 ?side7 ?side8 A36.out).mono ?_
                  (case side1 => exact cb_ HR0.out HB.out); (case side2 => exact HC0.out); (case side3 => exact cb_ HR1_0.out HB.out); (case side4 => exact HC1_0.out); (case side5 => exact cb_ HR258_2.out HB.out); (case side6 => exact HC258_2.out); (case side7 => exact cb_ HR3.out HB.out); (case side8 => exact HC3.out); rintro e w41 ⟨rfl, hb⟩; refine ⟨_, rfl, ?_⟩; replace BK247 := ak (blk_below (bk_ BK247.out) hb); replace BK248 := ak (blk_below (bk_ BK248.out) hb); replace HB := ak (below_step (bs2_ HB.out GE247.out GE248.out) hb); (try clear hb); (try clear hb2); (try clear hk); (try clear hi); refine hK.out _ _ ⟨(blk_cell BK247.out 0).trans rfl, (blk_cell BK248.out 0).trans rfl, (blk_cell BK248.out 1).trans rfl, (blk_cell BK248.out 2).trans rfl, (hbc_ HB.out hw258_0 :), (hbc_ HB.out hw258_1 :), (hbc_ HB.out hw258_2 :)⟩ (fun hHeld => ?_); clear hK K; refine norm_ (a' := ?_) ?_ ?_
                  rotate_left
                  · show Act.put _ (some 70) _ = _
                    simp only [Act.put, List.setIfInBounds_toArray, List.set_cons_zero, List.set_cons_succ, i64_w, i32_w]
                    rfl
                  refine one_ (i := 13) (N := some 71) (bm 15 16383) rfl rfl (one_of HT_.out (by kernel_rfl)) (by decide) (fun K hK => ?_); refine goesB_ Try.func142 (by kernel_rfl) rfl #[.agg #[.slice A1_0 l1_0.length c1_0], .int .i64 a2_0, .int .i64 x9_1, .int .i64 t259] (by rfl) rfl rfl ?_
                  with_reducible refine (spec_l21Two.calls _ _ l1_0 a2_0 x9_1 t259 t260 _ ?side1 ?side2 A37.out).mono ?_
                  (case side1 => exact cb_ HR1_0.out HB.out); (case side2 => exact HC1_0.out); rintro e w42 ⟨rfl, hb⟩; refine ⟨_, rfl, ?_⟩; replace BK247 := ak (blk_below (bk_ BK247.out) hb); replace BK248 := ak (blk_below (bk_ BK248.out) hb); replace HB := ak (below_step (bs2_ HB.out GE247.out GE248.out) hb); (try clear hb); (try clear hb2); (try clear hk); (try clear hi); refine hK.out _ _ ⟨(blk_cell BK247.out 0).trans rfl, (blk_cell BK248.out 0).trans rfl, (blk_cell BK248.out 1).trans rfl, (blk_cell BK248.out 2).trans rfl, (hbc_ HB.out hw258_0 :), (hbc_ HB.out hw258_1 :), (hbc_ HB.out hw258_2 :)⟩ (fun hHeld => ?_); clear hK K; refine norm_ (a' := ?_) ?_ ?_
                  rotate_left
                  · show Act.put _ (some 71) _ = _
                    simp only [Act.put, List.setIfInBounds_toArray, List.set_cons_zero, List.set_cons_succ, i64_w, i32_w]
                    rfl
                  refine pv_ 14 ?_; refine done_ (done_of HT_.out (by kernel_rfl)) ?_
                  try go_wp2
                  go_roundg k1
                  case measure => have := HK1.out; omega
                  case rel => exact ⟨(t260), (wrap64 (x10_1 + 1)), (by first | rfl | (simp; done) | (simp [*]; done)), (by first | rfl | (simp; done) | (simp [*]; done)), H', ⟨by have := HK1.out; omega⟩, ⟨bk_ BK247.out⟩, ⟨bk_ BK248.out⟩, ⟨bs2_ HB.out GE247.out GE248.out⟩⟩
                rw [if_neg c35] at H; exact absurd H (by simp)
              rw [if_neg c34] at H; have c34b0 := decide_eq_false c34; clear c34; obtain rfl := Option.some.inj H; have hnb43 := NB248_247.out; have hnc43 := NB247_248.out; have hcz44_0 := bc_ BK248.out 0; have hcz44_1 := bc_ BK248.out 1; have hcz44_2 := bc_ BK248.out 2; have hfz44_0 := blk_frozen BK248.out 0; have hfz44_1 := blk_frozen BK248.out 1; have hfz44_2 := blk_frozen BK248.out 2
              go_wp2
              go_ret
              exact fin_ (bs2_ HB.out GE247.out GE248.out)
        rw [if_neg c26] at H; exact absurd H (by simp)
      replace c25 := Bool.eq_false_iff.mpr c25; subst c25; rw [if_neg (show ¬ (false = true) by decide)] at H; have H' := ak H; clear H
      go_enter Try.func131, Try.ntmps131
      go_wp2_with (first | ((with_reducible refine gate_dst (N := 5) rfl ?_); (try (refine gate_guard (by rfl) ?_; dsimp only)); refine bxe_ (N := 5) (cs := #[.slice A1_0 l1_0.length c1_0]) (t := 43) ?_; intro gb247 hg w45 hbox hb; have BK247 := ak (hbox); have GW247 := ak (lg_ hg (bl_ HB.out)); have GE247 := ak (lg_ hg (bl_ HB.out)); replace HB := ak (below_step (bl_ HB.out) hb); clear hb hbox hg) | ((with_reducible refine gate_dst (N := 6) rfl ?_); (try (refine gate_guard (by rfl) ?_; dsimp only)); refine bxe_ (N := 6) (cs := #[.int .i64 a2_0, .int .i64 a2_1, .slice A2_2 l2_2.length c2_2]) (t := 33) ?_; intro gb248 hg w46 hbox hb; have BK248 := ak (hbox); have GW248 := ak (lg_ hg (bs1_ HB.out GE247.out)); have GE248 := ak (lg_ hg (bs1_ HB.out GE247.out)); replace HB := ak (below_step (bs1_ HB.out GE247.out) hb); have NB247_248 := ak (nl_ hg (bk_ BK247.out)); have NB248_247 := ak (ng_ hg (bk_ BK247.out)); replace BK247 := ak (blk_below (bk_ BK247.out) hb); clear hb hbox hg; have hnb47 := NB248_247.out; have hnc47 := NB247_248.out; have hcz48_0 := bc_ BK248.out 0; have hcz48_1 := bc_ BK248.out 1; have hcz48_2 := bc_ BK248.out 2; have hfz48_0 := blk_frozen BK248.out 0; have hfz48_1 := blk_frozen BK248.out 1; have hfz48_2 := blk_frozen BK248.out 2; have p255 : 0 ≤ (a2_0 : Int) := as_; have q255 : a2_0 < (l0.length : Int) := as_; obtain ⟨ad255, e255, hx255_0, hx255_1, hx255_2⟩ := at_T99 HR0.out a2_0 p255 q255; (try rw [← Nbq24.out] at hx255_2); cases e255; replace hx255_0 := hbc_ HB.out hx255_0; replace hx255_1 := hbc_ HB.out hx255_1; replace hx255_2 := hbc_ HB.out hx255_2; replace p255 := eq_true p255; replace q255 := eq_true q255))
      go_loopg [11, 12] k (fun kq v11 v12 w' => ∃ (x11_1 : Int) (x12_1 : Int), v11 = .int .i64 x11_1 ∧ v12 = .int .i64 x12_1 ∧ Aside0 (spec_l21Value.l1 kq l0 l3 x11_1 x12_1 l1_0 a2_0 a2_1 l2_2 = some r) ∧ Aside0 (kq ≤ k) ∧ Aside0 (w'.heap[gb247]? = some (.cells #[(.slice A1_0 l1_0.length c1_0)] 43 (0, 0))) ∧ Aside0 (w'.heap[gb248]? = some (.cells #[.int .i64 a2_0, .int .i64 a2_1, (.slice A2_2 l2_2.length c2_2)] 33 (0, 0))) ∧ Aside0 (Below w.heap.size w w'))
      case atStart => exact ⟨(0), (0), (by first | rfl | (simp; done) | (simp [*]; done)), (by first | rfl | (simp; done) | (simp [*]; done)), H', ⟨Nat.le_refl _⟩, ⟨bk_ BK247.out⟩, ⟨bk_ BK248.out⟩, ⟨bs2_ HB.out GE247.out GE248.out⟩⟩
      case round =>
        clear H'; (try clear c1); (try clear c2); (try clear p2); (try clear q2); (try clear hx2); (try clear qi2); (try clear c3); (try clear c4); (try clear c5); (try clear c5b0); (try clear c5b1); (try clear p6); (try clear c7); (try clear c10); (try clear c10b0); (try clear c11); (try clear c11b0); (try clear c13); (try clear c14); (try clear c15); (try clear c16); (try clear c20); (try clear c22); (try clear c22b0); (try clear c23); (try clear c23b0); (try clear q24); (try clear c25); (try clear p25); (try clear q25); (try clear hx25); (try clear qi25); (try clear c26); (try clear c26b0); (try clear c26b1); (try clear c30); (try clear c34); (try clear c34b0); (try clear c35); (try clear c35b0); (try clear c38); (try clear c43); (try clear c47); (try clear hcz16_0); (try clear hcz16_1); (try clear hcz16_2); (try clear hcz21_0); (try clear hcz21_1); (try clear hcz21_2); (try clear hcz31_0); (try clear hcz31_1); (try clear hcz31_2); (try clear hcz39_0); (try clear hcz39_1); (try clear hcz39_2); (try clear hcz44_0); (try clear hcz44_1); (try clear hcz44_2); (try clear hcz48_0); (try clear hcz48_1); (try clear hcz48_2); (try clear hfz16_0); (try clear hfz16_1); (try clear hfz16_2); (try clear hfz21_0); (try clear hfz21_1); (try clear hfz21_2); (try clear hfz31_0); (try clear hfz31_1); (try clear hfz31_2); (try clear hfz39_0); (try clear hfz39_1); (try clear hfz39_2); (try clear hfz44_0); (try clear hfz44_1); (try clear hfz44_2); (try clear hfz48_0); (try clear hfz48_1); (try clear hfz48_2); (try clear hx252_0); (try clear hx255_0); (try clear hx255_1); (try clear hx255_2); (try clear hx256_0); (try clear hx256_1); (try clear hx256_2); (try clear hx258_0); (try clear hx258_1); (try clear hx258_2); (try clear p2); (try clear p25); (try clear p252); (try clear p255); (try clear p256); (try clear p258); (try clear p6); (try clear q2); (try clear q24); (try clear q25); (try clear q252); (try clear q255); (try clear q256); (try clear q258); obtain ⟨x11_1, x12_1, rfl, rfl, HA, HK1, BK247, BK248, HB⟩ := hrel
        cases gk with
        | zero => exact absurd HA.out (by simp [spec_l21Value.l1])
        | succ k1 =>
          have H := HA.out; clear HA
          simp only [spec_l21Value.l1] at H
          by_cases c49 : x12_1 < (l2_2.length : Int)
          · rw [if_pos c49] at H; have c49b0 := decide_eq_true c49; clear c49
            by_cases c50 : 0 ≤ x12_1
            · rw [if_pos c50] at H; have c50b0 := decide_eq_true c50; clear c50; replace H := Option.bind_eq_some_iff.mp H; obtain ⟨t262, A510, H⟩ := H; have A51 := ak A510; clear A510; have c52b0 := eq_true (as_ : 0 ≤ x12_1); obtain ⟨ji53, hji53⟩ : ∃ j_ : Int, (shl .i64 t262 x12_1) = j_ := ⟨_, rfl⟩; replace H : (spec_l21Value.l1 k1 l0 l3 (Go.bits .or .i64 x11_1 (ji53)) (wrap64 (x12_1 + 1)) l1_0 a2_0 a2_1 l2_2) = some r := by first | (rw [hji53] at H; exact H) | (simp only [hji53] at H ⊢; exact H)
              (try rw [hji53] at A51); have hji53_ : (IntKind.i64.wrap (t262 * 2 ^ min x12_1.toNat 64)) = ji53 := hji53; have hji53z : x12_1 ≤ 64 → (IntKind.i64.wrap (t262 * 2 ^ x12_1.toNat)) = ji53 := shl_small hji53; have hji53y : (wrap64 (t262 * 2 ^ min x12_1.toNat 64)) = ji53 := (i64_w _).symm.trans hji53_; have hji53x : x12_1 ≤ 64 → (wrap64 (t262 * 2 ^ x12_1.toNat)) = ji53 := fun h_ => (i64_w _).symm.trans (hji53z h_)
              have H' := ak H; clear H; have hnb54 := NB248_247.out; have hnc54 := NB247_248.out; have hcz55_0 := bc_ BK248.out 0; have hcz55_1 := bc_ BK248.out 1; have hcz55_2 := bc_ BK248.out 2; have hfz55_0 := blk_frozen BK248.out 0; have hfz55_1 := blk_frozen BK248.out 1; have hfz55_2 := blk_frozen BK248.out 2
              try go_wp2
              replace BK247 := ak (blk_drew BK247.out); replace BK248 := ak (blk_drew BK248.out); replace HB := ak (below_drew1 HB.out); have p261 : 0 ≤ (x12_1 : Int) := as_; have q261 : x12_1 < (l2_2.length : Int) := as_; obtain ⟨ad261, A261_2, c261_2, e261, hx261_0, hx261_1, hx261_2, hl261_2, hi261_2⟩ := at_T33 HR2_2.out x12_1 p261 q261; have hw261_2 := hx261_2; have hw261_1 := hx261_1; have hw261_0 := hx261_0
              cases e261
              replace hx261_0 := hbc_ HB.out hx261_0; replace hx261_1 := hbc_ HB.out hx261_1; replace hx261_2 := hbc_ HB.out hx261_2; have HR261_2 := ak hi261_2; have HC261_2 := ak hl261_2; clear hi261_2 hl261_2; replace p261 := eq_true p261; replace q261 := eq_true q261; refine start_ (n := 14) (S := fun w' => w'.cell? ⟨gb247, 0, none⟩ = some (.slice A1_0 l1_0.length c1_0) ∧ w'.cell? ⟨gb248, 0, none⟩ = some (.int .i64 a2_0) ∧ w'.cell? ⟨gb248, 1, none⟩ = some (.int .i64 a2_1) ∧ w'.cell? ⟨gb248, 2, none⟩ = some (.slice (some ad261) l2_2.length c2_2) ∧ w'.cell? (ad261.add ((x12_1).toNat * 3)) = some (.int .i64 ((rd_I_Term l2_2 x12_1).f0)) ∧ w'.cell? ⟨(ad261.add ((x12_1).toNat * 3)).block, (ad261.add ((x12_1).toNat * 3)).off + 1, none⟩ = some (.int .i64 ((rd_I_Term l2_2 x12_1).f1)) ∧ w'.cell? ⟨(ad261.add ((x12_1).toNat * 3)).block, (ad261.add ((x12_1).toNat * 3)).off + 2, none⟩ = some (.slice A261_2 ((rd_I_Term l2_2 x12_1).f2).length c261_2)) (ds := []) (bm 14 0) (by kernel_rfl) rfl (by kernel_rfl) ⟨(blk_cell BK247.out 0).trans rfl, (blk_cell BK248.out 0).trans rfl, (blk_cell BK248.out 1).trans rfl, (blk_cell BK248.out 2).trans rfl, (hbc_ HB.out hw261_0 :), (hbc_ HB.out hw261_1 :), (hbc_ HB.out hw261_2 :)⟩ (fun hHeld => ?_); refine with_tabW spec_l21Value.tab14 spec_l21Value.bits14 (fun HT_ HW_ => ?_)
              generalize wr.drew = w56 at BK247 BK248 HB HR261_2 hx261_0 hx261_1 hx261_2 hHeld ⊢
              refine pv_ 0 ?_; refine pv_ 1 ?_; refine pv_ 3 ?_; refine pv_ 5 ?_; refine pv_ 8 ?_; refine pv_ 10 ?_; refine tv_ 2 hHeld ?_; refine tv_ 4 hHeld ?_; refine pv_ 6 ?_; refine tv_ 7 hHeld ?_; refine one_ (i := 9) (N := some 89) (bm 14 2047) rfl rfl (one_of HT_.out (by kernel_rfl)) (by decide) (fun K hK => ?_); refine goesB_ Try.func131 (by kernel_rfl) rfl #[.slice (some ad255) l0.length c0, .agg #[.slice A1_0 l1_0.length c1_0], .agg #[.int .i64 ((rd_I_Term l2_2 x12_1).f0), .int .i64 ((rd_I_Term l2_2 x12_1).f1), .slice A261_2 ((rd_I_Term l2_2 x12_1).f2).length c261_2], .slice A3 l3.length c3] (by rfl) rfl rfl ?_
              with_reducible refine (ih k1 (by have := HK1.out; omega) _ _ l0 _ _ l1_0 ((rd_I_Term l2_2 x12_1).f0) ((rd_I_Term l2_2 x12_1).f1) _ _ ((rd_I_Term l2_2 x12_1).f2) _ _ l3 t262 _ ?side1 ?side2 ?side3 ?side4 ?side5 ?side6 ?side7 ?side8 A51.out).mono ?_
              (case side1 => exact cb_ HR0.out HB.out); (case side2 => exact HC0.out); (case side3 => exact cb_ HR1_0.out HB.out); (case side4 => exact HC1_0.out); (case side5 => exact cb_ HR261_2.out HB.out); (case side6 => exact HC261_2.out); (case side7 => exact cb_ HR3.out HB.out); (case side8 => exact HC3.out); rintro e w57 ⟨rfl, hb⟩; refine ⟨_, rfl, ?_⟩; replace BK247 := ak (blk_below (bk_ BK247.out) hb); replace BK248 := ak (blk_below (bk_ BK248.out) hb); replace HB := ak (below_step (bs2_ HB.out GE247.out GE248.out) hb); (try clear hb); (try clear hb2); (try clear hk); (try clear hi); refine hK.out _ _ ⟨(blk_cell BK247.out 0).trans rfl, (blk_cell BK248.out 0).trans rfl, (blk_cell BK248.out 1).trans rfl, (blk_cell BK248.out 2).trans rfl, (hbc_ HB.out hw261_0 :), (hbc_ HB.out hw261_1 :), (hbc_ HB.out hw261_2 :)⟩ (fun hHeld => ?_); clear hK K; refine norm_ (a' := ?_) ?_ ?_
              rotate_left
              · show Act.put _ (some 89) _ = _
                simp only [Act.put, List.setIfInBounds_toArray, List.set_cons_zero, List.set_cons_succ, i64_w, i32_w]
                rfl
              refine pv_ 11 ?_; refine pv_ 12 ?_; refine pv_ 13 ?_; refine done_ (done_of HT_.out (by kernel_rfl)) ?_
              try go_wp2
              go_roundg k1
              case measure => have := HK1.out; omega
              case rel => exact ⟨(Go.bits .or .i64 x11_1 (ji53)), (wrap64 (x12_1 + 1)), (by first | rfl | (simp; done) | (simp only [← hji53] <;> (first | rfl | simp)) | (simp [*]; done)), (by first | rfl | (simp; done) | (simp [*]; done)), H', ⟨by have := HK1.out; omega⟩, ⟨bk_ BK247.out⟩, ⟨bk_ BK248.out⟩, ⟨bs2_ HB.out GE247.out GE248.out⟩⟩
            rw [if_neg c50] at H; exact absurd H (by simp)
          rw [if_neg c49] at H; have c49b0 := decide_eq_false c49; clear c49
          by_cases c58 : 0 ≤ a2_0
          · rw [if_pos c58] at H; have c58b0 := decide_eq_true c58; clear c58
            by_cases c59 : a2_0 < (l1_0.length : Int)
            · rw [if_pos c59] at H; have c59b0 := decide_eq_true c59; clear c59
              by_cases c60 : 0 ≤ x11_1
              · rw [if_pos c60] at H; have c60b0 := decide_eq_true c60; clear c60
                by_cases c61 : x11_1 < ((rd_Ls_i64 l1_0 a2_0).length : Int)
                · rw [if_pos c61] at H; have c61b0 := decide_eq_true c61; clear c61; obtain rfl := Option.some.inj H; have hnb62 := NB248_247.out; have hnc62 := NB247_248.out; have hcz63_0 := bc_ BK248.out 0; have hcz63_1 := bc_ BK248.out 1; have hcz63_2 := bc_ BK248.out 2; have hfz63_0 := blk_frozen BK248.out 0; have hfz63_1 := blk_frozen BK248.out 1; have hfz63_2 := blk_frozen BK248.out 2; have hcz64_0 := bc_ BK247.out 0; have hfz64_0 := blk_frozen BK247.out 0; have p263 : 0 ≤ (a2_0 : Int) := as_; have q263 : a2_0 < (l1_0.length : Int) := as_; obtain ⟨ad263, A263_0, c263_0, e263, hx263_0, hl263_0, hi263_0⟩ := at_L7 HR1_0.out a2_0 p263 q263
                  cases e263
                  replace hx263_0 := hbc_ HB.out hx263_0; have HR263_0 := ak hi263_0; have HC263_0 := ak hl263_0; clear hi263_0 hl263_0; replace p263 := eq_true p263; replace q263 := eq_true q263; have p264 : 0 ≤ (x11_1 : Int) := as_; have q264 : x11_1 < ((rd_Ls_i64 l1_0 a2_0).length : Int) := as_; obtain ⟨ad264, e264, hx264_0⟩ := Kd.at_int HR263_0.out x11_1 p264 q264
                  cases e264
                  replace hx264_0 := hbc_ HB.out hx264_0; replace p264 := eq_true p264; replace q264 := eq_true q264
                  go_wp2
                  go_ret
                  exact fin_ (bs2_ HB.out GE247.out GE248.out)
                rw [if_neg c61] at H; exact absurd H (by simp)
              rw [if_neg c60] at H; exact absurd H (by simp)
            rw [if_neg c59] at H; exact absurd H (by simp)
          rw [if_neg c58] at H; exact absurd H (by simp)
    rw [if_neg c23] at H; exact absurd H (by simp)
  rw [if_neg c22] at H; exact absurd H (by simp)

/-! ### spec_Value: function 64 -/
def spec_Value.f (k : Nat) (l0 : List (I_Sym)) (l1_0 : List (List Int)) (a2_0 : Int) (a2_1 : Int) (l2_2 : List (I_Term)) (l3 : List Int) : Option (Int) := (spec_ModelOk.f k l0 l1_0).bind fun t267 => (if t267 = true then ((spec_TermOk.f k l0 a2_0 a2_1 l2_2).bind fun t268 => (if t268 = true then ((spec_l21Value.f k l0 l1_0 a2_0 a2_1 l2_2 l3).bind fun t269 => (some t269)) else (some 0))) else (some 0))
theorem spec_Value.mono : ∀ a0 a1 a2 a3 a4 a5 k, LeO (spec_Value.f k a0 a1 a2 a3 a4 a5) (spec_Value.f (k + 1) a0 a1 a2 a3 a4 a5) := by
  intro a0 a1 a2 a3 a4 a5 k
  unfold spec_Value.f
  repeat' first
      | (with_reducible exact spec_ModelOk.mono _ _ _)
      | (with_reducible exact spec_TermOk.mono _ _ _ _ _)
      | (with_reducible exact spec_l21Value.mono _ _ _ _ _ _ _)
      | (with_reducible exact LeO.refl _)
      | (with_reducible exact LeO.none _)
      | (with_reducible refine LeO.ite ?_ ?_)
      | (with_reducible refine LeO.bind ?_ (fun _ => ?_))
      | exact spec_ModelOk.mono _ _ _
      | exact spec_TermOk.mono _ _ _ _ _
      | exact spec_l21Value.mono _ _ _ _ _ _ _
      | exact LeO.none _
      | refine LeO.ite ?_ ?_
      | refine LeO.bind ?_ (fun _ => ?_)
set_option maxHeartbeats 8000000 in
set_option maxRecDepth 100000 in
theorem spec_Value.calls (k : Nat) (A0 : Option Addr) (c0 : Nat) (l0 : List (I_Sym)) (A1_0 : Option Addr) (c1_0 : Nat) (l1_0 : List (List Int)) (a2_0 : Int) (a2_1 : Int) (A2_2 : Option Addr) (c2_2 : Nat) (l2_2 : List (I_Term)) (A3 : Option Addr) (c3 : Nat) (l3 : List Int) (r : Int) (w : World) (hr0 : Kd.C k99 w A0 l0.length l0) (hc0 : l0.length ≤ c0) (hr1_0 : Kd.C (Kd.slice 3 (Kd.int .i64)) w A1_0 l1_0.length l1_0) (hc1_0 : l1_0.length ≤ c1_0) (hr2_2 : Kd.C k33 w A2_2 l2_2.length l2_2) (hc2_2 : l2_2.length ≤ c2_2) (hr3 : Kd.C (Kd.int .i64) w A3 l3.length l3) (hc3 : l3.length ≤ c3) (h : spec_Value.f k l0 l1_0 a2_0 a2_1 l2_2 l3 = some r) :
    Calls Try.prog 64 #[.slice A0 l0.length c0, .agg #[.slice A1_0 l1_0.length c1_0], .agg #[.int .i64 a2_0, .int .i64 a2_1, .slice A2_2 l2_2.length c2_2], .slice A3 l3.length c3] w fun e w' => e = .returned (.int .i64 r) ∧ Below w.heap.size w w' := by
  have hu43 := Try.underlying43; have hu33 := Try.underlying33; have HR0 := ak hr0; have HC0 := ak hc0; clear hr0 hc0; have HR1_0 := ak hr1_0; have HC1_0 := ak hc1_0; clear hr1_0 hc1_0; have HR2_2 := ak hr2_2; have HC2_2 := ak hc2_2; clear hr2_2 hc2_2; have HR3 := ak hr3; have HC3 := ak hc3; clear hr3 hc3; have HB := ak (Below.refl w.heap.size w); have H : ((spec_ModelOk.f k l0 l1_0).bind fun t267 => (if t267 = true then ((spec_TermOk.f k l0 a2_0 a2_1 l2_2).bind fun t268 => (if t268 = true then ((spec_l21Value.f k l0 l1_0 a2_0 a2_1 l2_2 l3).bind fun t269 => (some t269)) else (some 0))) else (some 0))) = some r := h; clear h; replace H := Option.bind_eq_some_iff.mp H; obtain ⟨t267, A50, H⟩ := H; have A5 := ak A50; clear A50
  by_cases c6 : t267 = true
  · subst c6; rw [if_pos rfl] at H; replace H := Option.bind_eq_some_iff.mp H; obtain ⟨t268, A70, H⟩ := H; have A7 := ak A70; clear A70
    by_cases c8 : t268 = true
    · subst c8; rw [if_pos rfl] at H; replace H := Option.bind_eq_some_iff.mp H; obtain ⟨t269, A90, H⟩ := H; have A9 := ak A90; clear A90; obtain rfl := Option.some.inj H
      go_enter Try.func64, Try.ntmps64
      go_wp2_with (first | ((with_reducible refine gate_dst (N := 5) rfl ?_); refine bxe_ (N := 5) (cs := #[.slice A1_0 l1_0.length c1_0]) (t := 43) ?_; intro gb265 hg w10 hbox hb; have BK265 := ak (hbox); have GW265 := ak (lg_ hg (bl_ HB.out)); have GE265 := ak (lg_ hg (bl_ HB.out)); replace HB := ak (below_step (bl_ HB.out) hb); clear hb hbox hg) | ((with_reducible refine gate_dst (N := 6) rfl ?_); refine bxe_ (N := 6) (cs := #[.int .i64 a2_0, .int .i64 a2_1, .slice A2_2 l2_2.length c2_2]) (t := 33) ?_; intro gb266 hg w11 hbox hb; have BK266 := ak (hbox); have GW266 := ak (lg_ hg (bs1_ HB.out GE265.out)); have GE266 := ak (lg_ hg (bs1_ HB.out GE265.out)); replace HB := ak (below_step (bs1_ HB.out GE265.out) hb); have NB265_266 := ak (nl_ hg (bk_ BK265.out)); have NB266_265 := ak (ng_ hg (bk_ BK265.out)); replace BK265 := ak (blk_below (bk_ BK265.out) hb); clear hb hbox hg; have hnb12 := NB265_266.out; have hnc12 := NB266_265.out; have hcz13_0 := bc_ BK265.out 0; have hfz13_0 := blk_frozen BK265.out 0) | ((with_reducible refine gate_callee (f := 26) rfl ?_); refine goesM_ (some 11) rfl rfl Try.func26 (by kernel_rfl) rfl #[.slice A0 l0.length c0, .agg #[.slice A1_0 l1_0.length c1_0]] rfl ?_; (with_reducible refine (spec_ModelOk.calls k _ _ l0 _ _ l1_0 true _ ?side1 ?side2 ?side3 ?side4 A5.out).mono ?_); (case side1 => exact cb_ HR0.out HB.out); (case side2 => exact HC0.out); (case side3 => exact cb_ HR1_0.out HB.out); (case side4 => exact HC1_0.out); rintro e w14 ⟨rfl, hb⟩; refine ⟨_, rfl, ?_⟩; replace BK265 := ak (blk_below (bk_ BK265.out) hb); replace BK266 := ak (blk_below (bk_ BK266.out) hb); replace HB := ak (below_step (bs2_ HB.out GE265.out GE266.out) hb); (try clear hb); (try clear hb2); (try clear hk); (try clear hi); have hcz15_0 := bc_ BK266.out 0; have hcz15_1 := bc_ BK266.out 1; have hcz15_2 := bc_ BK266.out 2; have hfz15_0 := blk_frozen BK266.out 0; have hfz15_1 := blk_frozen BK266.out 1; have hfz15_2 := blk_frozen BK266.out 2) | (go_at_call 130; (with_reducible refine (spec_TermOk.calls k _ _ l0 a2_0 a2_1 _ _ l2_2 true _ ?side1 ?side2 ?side3 ?side4 A7.out).mono ?_); (case side1 => exact cb_ HR0.out HB.out); (case side2 => exact HC0.out); (case side3 => exact cb_ HR2_2.out HB.out); (case side4 => exact HC2_2.out); rintro e w16 ⟨rfl, hb⟩; replace BK265 := ak (blk_below (bk_ BK265.out) hb); replace BK266 := ak (blk_below (bk_ BK266.out) hb); replace HB := ak (below_step (bs2_ HB.out GE265.out GE266.out) hb); (try clear hb); (try clear hb2); (try clear hk); (try clear hi); have hcz17_0 := bc_ BK265.out 0; have hfz17_0 := blk_frozen BK265.out 0; have hcz18_0 := bc_ BK266.out 0; have hcz18_1 := bc_ BK266.out 1; have hcz18_2 := bc_ BK266.out 2; have hfz18_0 := blk_frozen BK266.out 0; have hfz18_1 := blk_frozen BK266.out 1; have hfz18_2 := blk_frozen BK266.out 2) | ((with_reducible refine gate_callee (f := 131) rfl ?_); refine goesM_ (some 23) rfl rfl Try.func131 (by kernel_rfl) rfl #[.slice A0 l0.length c0, .agg #[.slice A1_0 l1_0.length c1_0], .agg #[.int .i64 a2_0, .int .i64 a2_1, .slice A2_2 l2_2.length c2_2], .slice A3 l3.length c3] rfl ?_; (with_reducible refine (spec_l21Value.calls k _ _ l0 _ _ l1_0 a2_0 a2_1 _ _ l2_2 _ _ l3 t269 _ ?side1 ?side2 ?side3 ?side4 ?side5 ?side6 ?side7 ?side8 A9.out).mono ?_); (case side1 => exact cb_ HR0.out HB.out); (case side2 => exact HC0.out); (case side3 => exact cb_ HR1_0.out HB.out); (case side4 => exact HC1_0.out); (case side5 => exact cb_ HR2_2.out HB.out); (case side6 => exact HC2_2.out); (case side7 => exact cb_ HR3.out HB.out); (case side8 => exact HC3.out); rintro e w19 ⟨rfl, hb⟩; refine ⟨_, rfl, ?_⟩; replace BK265 := ak (blk_below (bk_ BK265.out) hb); replace BK266 := ak (blk_below (bk_ BK266.out) hb); replace HB := ak (below_step (bs2_ HB.out GE265.out GE266.out) hb); (try clear hb); (try clear hb2); (try clear hk); (try clear hi)))
      go_ret
      exact fin_ (bs2_ HB.out GE265.out GE266.out)
    replace c8 := Bool.eq_false_iff.mpr c8; subst c8; rw [if_neg (show ¬ (false = true) by decide)] at H; obtain rfl := Option.some.inj H
    go_enter Try.func64, Try.ntmps64
    go_wp2_with (first | ((with_reducible refine gate_dst (N := 5) rfl ?_); refine bxe_ (N := 5) (cs := #[.slice A1_0 l1_0.length c1_0]) (t := 43) ?_; intro gb265 hg w20 hbox hb; have BK265 := ak (hbox); have GW265 := ak (lg_ hg (bl_ HB.out)); have GE265 := ak (lg_ hg (bl_ HB.out)); replace HB := ak (below_step (bl_ HB.out) hb); clear hb hbox hg) | ((with_reducible refine gate_dst (N := 6) rfl ?_); refine bxe_ (N := 6) (cs := #[.int .i64 a2_0, .int .i64 a2_1, .slice A2_2 l2_2.length c2_2]) (t := 33) ?_; intro gb266 hg w21 hbox hb; have BK266 := ak (hbox); have GW266 := ak (lg_ hg (bs1_ HB.out GE265.out)); have GE266 := ak (lg_ hg (bs1_ HB.out GE265.out)); replace HB := ak (below_step (bs1_ HB.out GE265.out) hb); have NB265_266 := ak (nl_ hg (bk_ BK265.out)); have NB266_265 := ak (ng_ hg (bk_ BK265.out)); replace BK265 := ak (blk_below (bk_ BK265.out) hb); clear hb hbox hg; have hnb22 := NB265_266.out; have hnc22 := NB266_265.out; have hcz23_0 := bc_ BK265.out 0; have hfz23_0 := blk_frozen BK265.out 0) | ((with_reducible refine gate_callee (f := 26) rfl ?_); refine goesM_ (some 11) rfl rfl Try.func26 (by kernel_rfl) rfl #[.slice A0 l0.length c0, .agg #[.slice A1_0 l1_0.length c1_0]] rfl ?_; (with_reducible refine (spec_ModelOk.calls k _ _ l0 _ _ l1_0 true _ ?side1 ?side2 ?side3 ?side4 A5.out).mono ?_); (case side1 => exact cb_ HR0.out HB.out); (case side2 => exact HC0.out); (case side3 => exact cb_ HR1_0.out HB.out); (case side4 => exact HC1_0.out); rintro e w24 ⟨rfl, hb⟩; refine ⟨_, rfl, ?_⟩; replace BK265 := ak (blk_below (bk_ BK265.out) hb); replace BK266 := ak (blk_below (bk_ BK266.out) hb); replace HB := ak (below_step (bs2_ HB.out GE265.out GE266.out) hb); (try clear hb); (try clear hb2); (try clear hk); (try clear hi); have hcz25_0 := bc_ BK266.out 0; have hcz25_1 := bc_ BK266.out 1; have hcz25_2 := bc_ BK266.out 2; have hfz25_0 := blk_frozen BK266.out 0; have hfz25_1 := blk_frozen BK266.out 1; have hfz25_2 := blk_frozen BK266.out 2) | (go_at_call 130; (with_reducible refine (spec_TermOk.calls k _ _ l0 a2_0 a2_1 _ _ l2_2 false _ ?side1 ?side2 ?side3 ?side4 A7.out).mono ?_); (case side1 => exact cb_ HR0.out HB.out); (case side2 => exact HC0.out); (case side3 => exact cb_ HR2_2.out HB.out); (case side4 => exact HC2_2.out); rintro e w26 ⟨rfl, hb⟩; replace BK265 := ak (blk_below (bk_ BK265.out) hb); replace BK266 := ak (blk_below (bk_ BK266.out) hb); replace HB := ak (below_step (bs2_ HB.out GE265.out GE266.out) hb); (try clear hb); (try clear hb2); (try clear hk); (try clear hi)))
    go_ret
    exact fin_ (bs2_ HB.out GE265.out GE266.out)
  replace c6 := Bool.eq_false_iff.mpr c6; subst c6; rw [if_neg (show ¬ (false = true) by decide)] at H; obtain rfl := Option.some.inj H
  go_enter Try.func64, Try.ntmps64
  go_wp2_with (first | ((with_reducible refine gate_dst (N := 5) rfl ?_); refine bxe_ (N := 5) (cs := #[.slice A1_0 l1_0.length c1_0]) (t := 43) ?_; intro gb265 hg w27 hbox hb; have BK265 := ak (hbox); have GW265 := ak (lg_ hg (bl_ HB.out)); have GE265 := ak (lg_ hg (bl_ HB.out)); replace HB := ak (below_step (bl_ HB.out) hb); clear hb hbox hg) | ((with_reducible refine gate_dst (N := 6) rfl ?_); refine bxe_ (N := 6) (cs := #[.int .i64 a2_0, .int .i64 a2_1, .slice A2_2 l2_2.length c2_2]) (t := 33) ?_; intro gb266 hg w28 hbox hb; have BK266 := ak (hbox); have GW266 := ak (lg_ hg (bs1_ HB.out GE265.out)); have GE266 := ak (lg_ hg (bs1_ HB.out GE265.out)); replace HB := ak (below_step (bs1_ HB.out GE265.out) hb); have NB265_266 := ak (nl_ hg (bk_ BK265.out)); have NB266_265 := ak (ng_ hg (bk_ BK265.out)); replace BK265 := ak (blk_below (bk_ BK265.out) hb); clear hb hbox hg; have hnb29 := NB265_266.out; have hnc29 := NB266_265.out; have hcz30_0 := bc_ BK265.out 0; have hfz30_0 := blk_frozen BK265.out 0) | ((with_reducible refine gate_callee (f := 26) rfl ?_); refine goesM_ (some 11) rfl rfl Try.func26 (by kernel_rfl) rfl #[.slice A0 l0.length c0, .agg #[.slice A1_0 l1_0.length c1_0]] rfl ?_; (with_reducible refine (spec_ModelOk.calls k _ _ l0 _ _ l1_0 false _ ?side1 ?side2 ?side3 ?side4 A5.out).mono ?_); (case side1 => exact cb_ HR0.out HB.out); (case side2 => exact HC0.out); (case side3 => exact cb_ HR1_0.out HB.out); (case side4 => exact HC1_0.out); rintro e w31 ⟨rfl, hb⟩; refine ⟨_, rfl, ?_⟩; replace BK265 := ak (blk_below (bk_ BK265.out) hb); replace BK266 := ak (blk_below (bk_ BK266.out) hb); replace HB := ak (below_step (bs2_ HB.out GE265.out GE266.out) hb); (try clear hb); (try clear hb2); (try clear hk); (try clear hi)))
  go_ret
  exact fin_ (bs2_ HB.out GE265.out GE266.out)

/-! ### impl_from: function 87 -/
def impl_from.f (a0 : Int) (a1 : Int) (a2 : Int) : Option (Bool) := if a0 ≥ a1 then (some (decide (a0 ≤ a2))) else (some false)
set_option maxHeartbeats 8000000 in
set_option maxRecDepth 100000 in
theorem impl_from.calls (a0 : Int) (a1 : Int) (a2 : Int) (r : Bool) (w : World) (h : impl_from.f a0 a1 a2 = some r) :
    Calls Try.prog 87 #[.int .i64 a0, .int .i64 a1, .int .i64 a2] w fun e w' => e = .returned (.bool r) ∧ Drawn0 w w' := by
  have H : (if a0 ≥ a1 then (some (decide (a0 ≤ a2))) else (some false)) = some r := h; clear h
  by_cases c4 : a0 ≥ a1
  · rw [if_pos c4] at H; have c4b0 := decide_eq_true c4; clear c4; obtain rfl := Option.some.inj H
    go_enter Try.func87, Try.ntmps87
    go_wp2
    go_ret
    exact ⟨by first | rfl | (simp; done) | (simp [*]; done), by repeat (first | exact Drawn0.refl _ | apply Drawn0.step)⟩
  rw [if_neg c4] at H; have c4b0 := decide_eq_false c4; clear c4; obtain rfl := Option.some.inj H
  go_enter Try.func87, Try.ntmps87
  go_wp2
  go_ret
  exact ⟨by first | rfl | (simp; done) | (simp [*]; done), by repeat (first | exact Drawn0.refl _ | apply Drawn0.step)⟩

/-! ### impl_isSmall: function 169 -/
def impl_isSmall.f (a0 : Int) : Option (Bool) := if a0 ≥ 97 then (some (decide (a0 ≤ 122))) else (some false)
set_option maxHeartbeats 8000000 in
set_option maxRecDepth 100000 in
theorem impl_isSmall.calls (a0 : Int) (r : Bool) (w : World) (h : impl_isSmall.f a0 = some r) :
    Calls Try.prog 169 #[.int .u8 a0] w fun e w' => e = .returned (.bool r) ∧ Drawn0 w w' := by
  have H : (if a0 ≥ 97 then (some (decide (a0 ≤ 122))) else (some false)) = some r := h; clear h
  by_cases c2 : a0 ≥ 97
  · rw [if_pos c2] at H; have c2b0 := decide_eq_true c2; clear c2; obtain rfl := Option.some.inj H
    go_enter Try.func169, Try.ntmps169
    go_wp2
    go_ret
    exact ⟨by first | rfl | (simp; done) | (simp [*]; done), by repeat (first | exact Drawn0.refl _ | apply Drawn0.step)⟩
  rw [if_neg c2] at H; have c2b0 := decide_eq_false c2; clear c2; obtain rfl := Option.some.inj H
  go_enter Try.func169, Try.ntmps169
  go_wp2
  go_ret
  exact ⟨by first | rfl | (simp; done) | (simp [*]; done), by repeat (first | exact Drawn0.refl _ | apply Drawn0.step)⟩

/-! ### impl_isDigit: function 170 -/
def impl_isDigit.f (a0 : Int) : Option (Bool) := if a0 ≥ 48 then (some (decide (a0 ≤ 57))) else (some false)
set_option maxHeartbeats 8000000 in
set_option maxRecDepth 100000 in
theorem impl_isDigit.calls (a0 : Int) (r : Bool) (w : World) (h : impl_isDigit.f a0 = some r) :
    Calls Try.prog 170 #[.int .u8 a0] w fun e w' => e = .returned (.bool r) ∧ Drawn0 w w' := by
  have H : (if a0 ≥ 48 then (some (decide (a0 ≤ 57))) else (some false)) = some r := h; clear h
  by_cases c2 : a0 ≥ 48
  · rw [if_pos c2] at H; have c2b0 := decide_eq_true c2; clear c2; obtain rfl := Option.some.inj H
    go_enter Try.func170, Try.ntmps170
    go_wp2
    go_ret
    exact ⟨by first | rfl | (simp; done) | (simp [*]; done), by repeat (first | exact Drawn0.refl _ | apply Drawn0.step)⟩
  rw [if_neg c2] at H; have c2b0 := decide_eq_false c2; clear c2; obtain rfl := Option.some.inj H
  go_enter Try.func170, Try.ntmps170
  go_wp2
  go_ret
  exact ⟨by first | rfl | (simp; done) | (simp [*]; done), by repeat (first | exact Drawn0.refl _ | apply Drawn0.step)⟩

/-! ### impl_NameOk: function 144 -/
def impl_NameOk.l0 : Nat → ByteArray → Int → Int → Option (Bool)
  | 0, _, _, _ => none
  | k + 1, x0, x5, x6 => if x6 < x5 then (if 0 ≤ x6 then (if x6 < (x0.size : Int) then ((impl_isSmall.f (bt x0 x6)).bind fun t272 => (if t272 = true then (impl_NameOk.l0 k x0 x5 (wrap64 (x6 + 1))) else ((impl_isDigit.f (bt x0 x6)).bind fun t273 => (if t273 = true then (impl_NameOk.l0 k x0 x5 (wrap64 (x6 + 1))) else (some false))))) else (none)) else (none)) else ((impl_from.f (x0.size : Int) 1 8).bind fun t270 => (if t270 = true then (if 0 < (x0.size : Int) then ((impl_isSmall.f (bt x0 0)).bind fun t271 => (some t271)) else (none)) else (some false)))
def impl_NameOk.f (k : Nat) (a0 : ByteArray) : Option (Bool) := impl_NameOk.l0 k a0 (a0.size : Int) 0
theorem impl_NameOk.mono_l : ∀ k, (∀ y0 y1 y2, LeO (impl_NameOk.l0 k y0 y1 y2) (impl_NameOk.l0 (k + 1) y0 y1 y2))
  | 0 => fun _ _ _ r h => by simp [impl_NameOk.l0] at h
  | k + 1 => by
    have ih0 := impl_NameOk.mono_l k
    · intro y0 y1 y2
      unfold impl_NameOk.l0
      repeat' first | (with_reducible first | exact ih0 _ _ _ | exact LeO.refl _ | exact LeO.none _ | refine LeO.ite ?_ ?_ | refine LeO.bind ?_ (fun _ => ?_)) | exact ih0 _ _ _ | exact LeO.none _ | refine LeO.ite ?_ ?_ | refine LeO.bind ?_ (fun _ => ?_)
theorem impl_NameOk.mono : ∀ a0 k, LeO (impl_NameOk.f k a0) (impl_NameOk.f (k + 1) a0) := by
  intro a0 k; have ih0 := impl_NameOk.mono_l k
  unfold impl_NameOk.f
  repeat' first
      | (with_reducible exact ih0 _ _ _)
      | (with_reducible exact LeO.refl _)
      | (with_reducible exact LeO.none _)
      | (with_reducible refine LeO.ite ?_ ?_)
      | (with_reducible refine LeO.bind ?_ (fun _ => ?_))
      | exact ih0 _ _ _
      | exact LeO.none _
      | refine LeO.ite ?_ ?_
      | refine LeO.bind ?_ (fun _ => ?_)
set_option maxHeartbeats 8000000 in
set_option maxRecDepth 100000 in
theorem impl_NameOk.calls (k : Nat) (a0 : ByteArray) (r : Bool) (w : World) (h : impl_NameOk.f k a0 = some r) :
    Calls Try.prog 144 #[.string a0] w fun e w' => e = .returned (.bool r) ∧ Drawn0 w w' := by
  have H : (impl_NameOk.l0 k a0 (a0.size : Int) 0) = some r := h; clear h; have H' := ak H; clear H
  go_enter Try.func144, Try.ntmps144
  go_wp2
  go_loopg [6] k (fun kq v6 w' => ∃ (x6_1 : Int), v6 = .int .i64 x6_1 ∧ Aside0 (impl_NameOk.l0 kq a0 (a0.size : Int) x6_1 = some r) ∧ Aside0 (kq ≤ k) ∧ Drawn0 w w')
  case atStart => exact ⟨(0), (by first | rfl | (simp; done) | (simp [*]; done)), H', ⟨Nat.le_refl _⟩, by repeat (first | exact Drawn0.refl _ | apply Drawn0.step)⟩
  case round =>
    clear H'; (try clear c1); obtain ⟨x6_1, rfl, HA, HK1, ⟨m1, rfl⟩⟩ := hrel
    cases gk with
    | zero => exact absurd HA.out (by simp [impl_NameOk.l0])
    | succ k1 =>
      have H := HA.out; clear HA
      simp only [impl_NameOk.l0] at H
      by_cases c2 : x6_1 < (a0.size : Int)
      · rw [if_pos c2] at H; have c2b0 := decide_eq_true c2; clear c2
        by_cases c3 : 0 ≤ x6_1
        · rw [if_pos c3] at H; have c3b0 := decide_eq_true c3; clear c3
          by_cases c4 : x6_1 < (a0.size : Int)
          · rw [if_pos c4] at H; have c4b0 := decide_eq_true c4; clear c4; replace H := Option.bind_eq_some_iff.mp H; obtain ⟨t272, A60, H⟩ := H; have A6 := ak A60; clear A60
            by_cases c7 : t272 = true
            · subst c7; rw [if_pos rfl] at H; have H' := ak H; clear H; have p5 : 0 ≤ (x6_1 : Int) := as_; have q5 : x6_1 < (a0.size : Int) := as_; have hx5 := bt_at a0 x6_1; replace p5 := eq_true p5; replace q5 := eq_true q5
              go_wp2_with (first | ((with_reducible refine gate_callee (f := 169) rfl ?_); refine goesM_ (some 12) rfl rfl Try.func169 (by kernel_rfl) rfl #[.int .u8 (bt a0 x6_1)] rfl ?_; (with_reducible refine (impl_isSmall.calls (bt a0 x6_1) true _ A6.out).mono ?_); rintro e w' ⟨rfl, ⟨nd, rfl⟩⟩; refine ⟨_, rfl, ?_⟩))
              go_roundg k1
              case measure => have := HK1.out; omega
              case rel => exact ⟨(wrap64 (x6_1 + 1)), (by first | rfl | (simp; done) | (simp [*]; done)), H', ⟨by have := HK1.out; omega⟩, by repeat (first | exact Drawn0.refl _ | apply Drawn0.step)⟩
            replace c7 := Bool.eq_false_iff.mpr c7; subst c7; rw [if_neg (show ¬ (false = true) by decide)] at H; replace H := Option.bind_eq_some_iff.mp H; obtain ⟨t273, A90, H⟩ := H; have A9 := ak A90; clear A90
            by_cases c10 : t273 = true
            · subst c10; rw [if_pos rfl] at H; have H' := ak H; clear H; have p5 : 0 ≤ (x6_1 : Int) := as_; have q5 : x6_1 < (a0.size : Int) := as_; have hx5 := bt_at a0 x6_1; replace p5 := eq_true p5; replace q5 := eq_true q5
              go_wp2_with (first | ((with_reducible refine gate_callee (f := 169) rfl ?_); refine goesM_ (some 12) rfl rfl Try.func169 (by kernel_rfl) rfl #[.int .u8 (bt a0 x6_1)] rfl ?_; (with_reducible refine (impl_isSmall.calls (bt a0 x6_1) false _ A6.out).mono ?_); rintro e w' ⟨rfl, ⟨nd, rfl⟩⟩; refine ⟨_, rfl, ?_⟩; have p8 : 0 ≤ (x6_1 : Int) := as_; have q8 : x6_1 < (a0.size : Int) := as_; have hx8 := bt_at a0 x6_1; replace p8 := eq_true p8; replace q8 := eq_true q8) | (go_at_call 170; (with_reducible refine (impl_isDigit.calls (bt a0 x6_1) true _ A9.out).mono ?_); rintro e w' ⟨rfl, ⟨nd, rfl⟩⟩))
              go_roundg k1
              case measure => have := HK1.out; omega
              case rel => exact ⟨(wrap64 (x6_1 + 1)), (by first | rfl | (simp; done) | (simp [*]; done)), H', ⟨by have := HK1.out; omega⟩, by repeat (first | exact Drawn0.refl _ | apply Drawn0.step)⟩
            replace c10 := Bool.eq_false_iff.mpr c10; subst c10; rw [if_neg (show ¬ (false = true) by decide)] at H; obtain rfl := Option.some.inj H; have p5 : 0 ≤ (x6_1 : Int) := as_; have q5 : x6_1 < (a0.size : Int) := as_; have hx5 := bt_at a0 x6_1; replace p5 := eq_true p5; replace q5 := eq_true q5
            go_wp2_with (first | ((with_reducible refine gate_callee (f := 169) rfl ?_); refine goesM_ (some 12) rfl rfl Try.func169 (by kernel_rfl) rfl #[.int .u8 (bt a0 x6_1)] rfl ?_; (with_reducible refine (impl_isSmall.calls (bt a0 x6_1) false _ A6.out).mono ?_); rintro e w' ⟨rfl, ⟨nd, rfl⟩⟩; refine ⟨_, rfl, ?_⟩; have p8 : 0 ≤ (x6_1 : Int) := as_; have q8 : x6_1 < (a0.size : Int) := as_; have hx8 := bt_at a0 x6_1; replace p8 := eq_true p8; replace q8 := eq_true q8) | (go_at_call 170; (with_reducible refine (impl_isDigit.calls (bt a0 x6_1) false _ A9.out).mono ?_); rintro e w' ⟨rfl, ⟨nd, rfl⟩⟩))
            go_ret
            exact ⟨by first | rfl | (simp; done) | (simp [*]; done), by repeat (first | exact Drawn0.refl _ | apply Drawn0.step)⟩
          rw [if_neg c4] at H; exact absurd H (by simp)
        rw [if_neg c3] at H; exact absurd H (by simp)
      rw [if_neg c2] at H; have c2b0 := decide_eq_false c2; clear c2; replace H := Option.bind_eq_some_iff.mp H; obtain ⟨t270, A110, H⟩ := H; have A11 := ak A110; clear A110
      by_cases c12 : t270 = true
      · subst c12; rw [if_pos rfl] at H
        by_cases c13 : 0 < (a0.size : Int)
        · rw [if_pos c13] at H; have c13b0 := decide_eq_true c13; have c13b1 : decide (0 < a0.size) = true := decide_eq_true (by omega); clear c13; replace H := Option.bind_eq_some_iff.mp H; obtain ⟨t271, A150, H⟩ := H; have A15 := ak A150; clear A150; obtain rfl := Option.some.inj H
          go_wp2_with (first | ((with_reducible refine gate_callee (f := 87) rfl ?_); refine goesM_ (some 24) rfl rfl Try.func87 (by kernel_rfl) rfl #[.int .i64 (a0.size : Int), .int .i64 1, .int .i64 8] rfl ?_; (with_reducible refine (impl_from.calls (a0.size : Int) 1 8 true _ A11.out).mono ?_); rintro e w' ⟨rfl, ⟨nd, rfl⟩⟩; refine ⟨_, rfl, ?_⟩; have p14 : 0 ≤ (0 : Int) := (by omega); have q14 : 0 < a0.size := (by have : (0 : Int) < (a0.size : Int) := as_; omega); have hx14 : ∀ h : 0 < a0.size, ((a0[0]'h).toNat : Int) = bt a0 0 := bt_at a0 0; clear p14; have qi14 : (0 < (a0.size : Int)) = True := eq_true (as_); replace q14 := eq_true q14) | (go_at_call 169; (with_reducible refine (impl_isSmall.calls (bt a0 0) t271 _ A15.out).mono ?_); rintro e w' ⟨rfl, ⟨nd, rfl⟩⟩))
          go_ret
          exact ⟨by first | rfl | (simp; done) | (simp [*]; done), by repeat (first | exact Drawn0.refl _ | apply Drawn0.step)⟩
        rw [if_neg c13] at H; exact absurd H (by simp)
      replace c12 := Bool.eq_false_iff.mpr c12; subst c12; rw [if_neg (show ¬ (false = true) by decide)] at H; obtain rfl := Option.some.inj H
      go_wp2_with (first | ((with_reducible refine gate_callee (f := 87) rfl ?_); refine goesM_ (some 24) rfl rfl Try.func87 (by kernel_rfl) rfl #[.int .i64 (a0.size : Int), .int .i64 1, .int .i64 8] rfl ?_; (with_reducible refine (impl_from.calls (a0.size : Int) 1 8 false _ A11.out).mono ?_); rintro e w' ⟨rfl, ⟨nd, rfl⟩⟩; refine ⟨_, rfl, ?_⟩))
      go_ret
      exact ⟨by first | rfl | (simp; done) | (simp [*]; done), by repeat (first | exact Drawn0.refl _ | apply Drawn0.step)⟩

/-! ### impl_SymOf_1: function 172 -/
def impl_SymOf_1.f (a0_0 : ByteArray) (a0_1 : Int) (a0_2 : Bool) (a1_0 : ByteArray) : Option (Bool) := some (a0_0.toList == a1_0.toList)
set_option maxHeartbeats 8000000 in
set_option maxRecDepth 100000 in
theorem impl_SymOf_1.calls (a0_0 : ByteArray) (a0_1 : Int) (a0_2 : Bool) (G1 : Nat) (a1_0 : ByteArray) (r : Bool) (w : World) (hG1 : w.heap[G1]? = some (.cells #[.string a1_0] 9 (0, 0))) (h : impl_SymOf_1.f a0_0 a0_1 a0_2 a1_0 = some r) :
    Calls Try.prog 172 #[.agg #[.string a0_0, .int .i64 a0_1, .bool a0_2], .pointer (some ⟨G1, 0, none⟩)] w fun e w' => e = .returned (.bool r) ∧ Below w.heap.size w w' := by
  have hu99 := Try.underlying99; have BK1 := ak hG1; clear hG1; have HB := ak (Below.refl w.heap.size w); have H : (some (a0_0.toList == a1_0.toList)) = some r := h; clear h; obtain rfl := Option.some.inj H
  go_enter Try.func172, Try.ntmps172
  go_wp2_with (first | ((with_reducible refine gate_dst (N := 2) rfl ?_); refine bxe_ (N := 2) (cs := #[.string a0_0, .int .i64 a0_1, .bool a0_2]) (t := 99) ?_; intro gb274 hg w3 hbox hb; have BK274 := ak (hbox); have GW274 := ak (lg_ hg (bl_ HB.out)); have GE274 := ak (lg_ hg (bl_ HB.out)); replace HB := ak (below_step (bl_ HB.out) hb); have NB1_274 := ak (nl_ hg (bk_ BK1.out)); have NB274_1 := ak (ng_ hg (bk_ BK1.out)); replace BK1 := ak (blk_below (bk_ BK1.out) hb); clear hb hbox hg; have hnb4 := NB274_1.out; have hnc4 := NB1_274.out; have hcz5_0 := bc_ BK274.out 0; have hcz5_1 := bc_ BK274.out 1; have hcz5_2 := bc_ BK274.out 2; have hfz5_0 := blk_frozen BK274.out 0; have hfz5_1 := blk_frozen BK274.out 1; have hfz5_2 := blk_frozen BK274.out 2; have hcz6_0 := bc_ BK1.out 0; have hfz6_0 := blk_frozen BK1.out 0))
  go_ret
  exact fin_ (bs1_ HB.out GE274.out)

/-! ### impl_Sym__with_impl_SymOf_1: function 192 -/
def impl_Sym__with_impl_SymOf_1.l0 : Nat → List (I_Sym) → Int → Int → ByteArray → Option (Int)
  | 0, _, _, _, _ => none
  | k + 1, x0, x7, x8, x3000 => if x8 < x7 then (if 0 ≤ x8 then (if x8 < (x0.length : Int) then ((impl_SymOf_1.f ((rd_I_Sym x0 x8).f0) ((rd_I_Sym x0 x8).f1) ((rd_I_Sym x0 x8).f2) x3000).bind fun t276 => (if t276 = true then (some x8) else (impl_Sym__with_impl_SymOf_1.l0 k x0 x7 (wrap64 (x8 + 1)) x3000))) else (none)) else (none)) else (some (-1))
def impl_Sym__with_impl_SymOf_1.f (k : Nat) (l0 : List (I_Sym))  (a2_0 : ByteArray) : Option (Int) := impl_Sym__with_impl_SymOf_1.l0 k l0 (l0.length : Int) 0 a2_0
theorem impl_Sym__with_impl_SymOf_1.mono_l : ∀ k, (∀ y0 y1 y2 y3, LeO (impl_Sym__with_impl_SymOf_1.l0 k y0 y1 y2 y3) (impl_Sym__with_impl_SymOf_1.l0 (k + 1) y0 y1 y2 y3))
  | 0 => fun _ _ _ _ r h => by simp [impl_Sym__with_impl_SymOf_1.l0] at h
  | k + 1 => by
    have ih0 := impl_Sym__with_impl_SymOf_1.mono_l k
    · intro y0 y1 y2 y3
      unfold impl_Sym__with_impl_SymOf_1.l0
      repeat' first | (with_reducible first | exact ih0 _ _ _ _ | exact LeO.refl _ | exact LeO.none _ | refine LeO.ite ?_ ?_ | refine LeO.bind ?_ (fun _ => ?_)) | exact ih0 _ _ _ _ | exact LeO.none _ | refine LeO.ite ?_ ?_ | refine LeO.bind ?_ (fun _ => ?_)
theorem impl_Sym__with_impl_SymOf_1.mono : ∀ a0 a1 k, LeO (impl_Sym__with_impl_SymOf_1.f k a0 a1) (impl_Sym__with_impl_SymOf_1.f (k + 1) a0 a1) := by
  intro a0 a1 k; have ih0 := impl_Sym__with_impl_SymOf_1.mono_l k
  unfold impl_Sym__with_impl_SymOf_1.f
  repeat' first
      | (with_reducible exact ih0 _ _ _ _)
      | (with_reducible exact LeO.refl _)
      | (with_reducible exact LeO.none _)
      | (with_reducible refine LeO.ite ?_ ?_)
      | (with_reducible refine LeO.bind ?_ (fun _ => ?_))
      | exact ih0 _ _ _ _
      | exact LeO.none _
      | refine LeO.ite ?_ ?_
      | refine LeO.bind ?_ (fun _ => ?_)
set_option maxHeartbeats 8000000 in
set_option maxRecDepth 100000 in
theorem impl_Sym__with_impl_SymOf_1.calls (k : Nat) (A0 : Option Addr) (c0 : Nat) (l0 : List (I_Sym))  (G2 : Nat) (a2_0 : ByteArray) (r : Int) (w : World) (hr0 : Kd.C k99 w A0 l0.length l0) (hc0 : l0.length ≤ c0) (hG2 : w.heap[G2]? = some (.cells #[.string a2_0] 9 (0, 0))) (h : impl_Sym__with_impl_SymOf_1.f k l0 a2_0 = some r) :
    Calls Try.prog 171 #[.slice A0 l0.length c0, .func (.func 172) #[] #[.pointer (some ⟨G2, 0, none⟩)]] w fun e w' => e = .returned (.int .i64 r) ∧ Below w.heap.size w w' := by
  have hu99 := Try.underlying99; have HR0 := ak hr0; have HC0 := ak hc0; clear hr0 hc0; have BK2 := ak hG2; clear hG2; have HB := ak (Below.refl w.heap.size w); have H : (impl_Sym__with_impl_SymOf_1.l0 k l0 (l0.length : Int) 0 a2_0) = some r := h; clear h; have H' := ak H; clear H
  go_enter Try.func171, Try.ntmps171
  go_wp2
  go_loopg [8] k (fun kq v8 w' => ∃ (x8_1 : Int), v8 = .int .i64 x8_1 ∧ Aside0 (impl_Sym__with_impl_SymOf_1.l0 kq l0 (l0.length : Int) x8_1 a2_0 = some r) ∧ Aside0 (kq ≤ k) ∧ Aside0 (w'.heap[G2]? = some (.cells #[.string a2_0] 9 (0, 0))) ∧ Aside0 (Below w.heap.size w w'))
  case atStart => exact ⟨(0), (by first | rfl | (simp; done) | (simp [*]; done)), H', ⟨Nat.le_refl _⟩, ⟨bk_ BK2.out⟩, ⟨bl_ HB.out⟩⟩
  case round =>
    clear H'; (try clear c1); (try clear p2); obtain ⟨x8_1, rfl, HA, HK1, BK2, HB⟩ := hrel
    cases gk with
    | zero => exact absurd HA.out (by simp [impl_Sym__with_impl_SymOf_1.l0])
    | succ k1 =>
      have H := HA.out; clear HA
      simp only [impl_Sym__with_impl_SymOf_1.l0] at H
      by_cases c4 : x8_1 < (l0.length : Int)
      · rw [if_pos c4] at H; have c4b0 := decide_eq_true c4; clear c4
        by_cases c5 : 0 ≤ x8_1
        · rw [if_pos c5] at H; have c5b0 := decide_eq_true c5; clear c5
          by_cases c6 : x8_1 < (l0.length : Int)
          · rw [if_pos c6] at H; have c6b0 := decide_eq_true c6; clear c6; replace H := Option.bind_eq_some_iff.mp H; obtain ⟨t276, A70, H⟩ := H; have A7 := ak A70; clear A70
            by_cases c8 : t276 = true
            · subst c8; rw [if_pos rfl] at H; obtain rfl := Option.some.inj H; have p275 : 0 ≤ (x8_1 : Int) := as_; have q275 : x8_1 < (l0.length : Int) := as_; obtain ⟨ad275, e275, hx275_0, hx275_1, hx275_2⟩ := at_T99 HR0.out x8_1 p275 q275
              cases e275
              replace hx275_0 := hbc_ HB.out hx275_0; replace hx275_1 := hbc_ HB.out hx275_1; replace hx275_2 := hbc_ HB.out hx275_2; replace p275 := eq_true p275; replace q275 := eq_true q275
              go_wp2_with (first | ((with_reducible refine Go.Proofs.Ytcboagkbcoihjaa.XOpens.gate_calleeV (t := 11) rfl ?_); refine Go.Proofs.Ytcboagkbcoihjaa.XOpens.goesV_ (some 16) rfl rfl Try.func172 (by kernel_rfl) rfl #[.agg #[.string ((rd_I_Sym l0 x8_1).f0), .int .i64 ((rd_I_Sym l0 x8_1).f1), .bool ((rd_I_Sym l0 x8_1).f2)], .pointer (some ⟨G2, 0, none⟩)] rfl rfl (by (try simp only [List.map_toArray, List.map_cons, List.map_nil]); first | done | rfl | (simp only [List.length_drop, List.length_take]; rfl)) ?_; (with_reducible refine (impl_SymOf_1.calls ((rd_I_Sym l0 x8_1).f0) ((rd_I_Sym l0 x8_1).f1) ((rd_I_Sym l0 x8_1).f2) G2 a2_0 true _ ?side1 A7.out).mono ?_); (case side1 => exact (bk_ BK2.out)); rintro e w9 ⟨rfl, hb⟩; refine ⟨_, rfl, ?_⟩; replace BK2 := ak (blk_below (bk_ BK2.out) hb); replace HB := ak (below_step (bl_ HB.out) hb); (try clear hb); (try clear hb2); (try clear hk); (try clear hi)))
              go_ret
              exact fin_ (bl_ HB.out)
            replace c8 := Bool.eq_false_iff.mpr c8; subst c8; rw [if_neg (show ¬ (false = true) by decide)] at H; have H' := ak H; clear H; have p275 : 0 ≤ (x8_1 : Int) := as_; have q275 : x8_1 < (l0.length : Int) := as_; obtain ⟨ad275, e275, hx275_0, hx275_1, hx275_2⟩ := at_T99 HR0.out x8_1 p275 q275
            cases e275
            replace hx275_0 := hbc_ HB.out hx275_0; replace hx275_1 := hbc_ HB.out hx275_1; replace hx275_2 := hbc_ HB.out hx275_2; replace p275 := eq_true p275; replace q275 := eq_true q275
            go_wp2_with (first | ((with_reducible refine Go.Proofs.Ytcboagkbcoihjaa.XOpens.gate_calleeV (t := 11) rfl ?_); refine Go.Proofs.Ytcboagkbcoihjaa.XOpens.goesV_ (some 16) rfl rfl Try.func172 (by kernel_rfl) rfl #[.agg #[.string ((rd_I_Sym l0 x8_1).f0), .int .i64 ((rd_I_Sym l0 x8_1).f1), .bool ((rd_I_Sym l0 x8_1).f2)], .pointer (some ⟨G2, 0, none⟩)] rfl rfl (by (try simp only [List.map_toArray, List.map_cons, List.map_nil]); first | done | rfl | (simp only [List.length_drop, List.length_take]; rfl)) ?_; (with_reducible refine (impl_SymOf_1.calls ((rd_I_Sym l0 x8_1).f0) ((rd_I_Sym l0 x8_1).f1) ((rd_I_Sym l0 x8_1).f2) G2 a2_0 false _ ?side1 A7.out).mono ?_); (case side1 => exact (bk_ BK2.out)); rintro e w10 ⟨rfl, hb⟩; refine ⟨_, rfl, ?_⟩; replace BK2 := ak (blk_below (bk_ BK2.out) hb); replace HB := ak (below_step (bl_ HB.out) hb); (try clear hb); (try clear hb2); (try clear hk); (try clear hi)))
            go_roundg k1
            case measure => have := HK1.out; omega
            case rel => exact ⟨(wrap64 (x8_1 + 1)), (by first | rfl | (simp; done) | (simp [*]; done)), H', ⟨by have := HK1.out; omega⟩, ⟨bk_ BK2.out⟩, ⟨bl_ HB.out⟩⟩
          rw [if_neg c6] at H; exact absurd H (by simp)
        rw [if_neg c5] at H; exact absurd H (by simp)
      rw [if_neg c4] at H; have c4b0 := decide_eq_false c4; clear c4; obtain rfl := Option.some.inj H
      go_wp2
      go_ret
      exact fin_ (bl_ HB.out)

end Go.Proofs.Ytcboagkbcoihjaa.XValue
