-- printed by a program of this session (xprint, turned from the kit's print) for this claim
import Derived.Test.YtcboagkbcoihjaaXRenamedx0
import Derived.Test.YtcboagkbcoihjaaXRenamedx6
namespace Go.Proofs.Ytcboagkbcoihjaa.XRenamed
open Go.RowKit Go.Proofs.Ytcboagkbcoihjaa.XOpens Go.Proofs.YtcboagkbcoihjaaW.PrintWords Go.Proofs.YtcboagkbcoihjaaW.PrintLast Go.Proofs.YtcboagkbcoihjaaW.PrintMore
attribute [local go_sem] max2_int min2_int max_two min_two max_three min_three max_four min_four   -- for this text's walks alone
set_option linter.unusedVariables false
set_option linter.unusedSimpArgs false

/-! ### impl_SigOk: function 86 -/
def impl_SigOk.l0 : Nat → List (I_Sym) → List (I_Sym) → Int → Int → Option (Bool)
  | 0, _, _, _, _ => none
  | k + 1, x0, x5, x6, x7 => if x7 < x6 then (if 0 ≤ x7 then (if x7 < (x5.length : Int) then ((impl_NameOk.f k ((rd_I_Sym x5 x7).f0)).bind fun t239 => (if t239 = true then ((impl_SymOf.f k x0 ((rd_I_Sym x5 x7).f0)).bind fun t240 => (if t240 = x7 then ((impl_from.f ((rd_I_Sym x5 x7).f1) 0 3).bind fun t241 => (if t241 = true then (if (rd_I_Sym x5 x7).f2 = true then (if ((rd_I_Sym x5 x7).f1) = 2 then (impl_SigOk.l0 k x0 x5 x6 (wrap64 (x7 + 1))) else (some false)) else (impl_SigOk.l0 k x0 x5 x6 (wrap64 (x7 + 1)))) else (some false))) else (some false))) else (some false))) else (none)) else (none)) else ((impl_from.f (x0.length : Int) 1 8).bind fun t234 => (if t234 = true then (if 0 < (x0.length : Int) then (if ((rd_I_Sym x0 0).f0).toList = ([116, 116] : List UInt8) then (some (((rd_I_Sym x0 0).f1) == 0)) else (some false)) else (none)) else (some false)))
def impl_SigOk.f (k : Nat) (l0 : List (I_Sym)) : Option (Bool) := impl_SigOk.l0 k l0 l0 (l0.length : Int) 0
theorem impl_SigOk.mono_l : ∀ k, (∀ y0 y1 y2 y3, LeO (impl_SigOk.l0 k y0 y1 y2 y3) (impl_SigOk.l0 (k + 1) y0 y1 y2 y3))
  | 0 => fun _ _ _ _ r h => by simp [impl_SigOk.l0] at h
  | k + 1 => by
    have ih0 := impl_SigOk.mono_l k
    · intro y0 y1 y2 y3
      unfold impl_SigOk.l0
      repeat' first | (with_reducible first | exact ih0 _ _ _ _ | exact impl_NameOk.mono _ _ | exact impl_SymOf.mono _ _ _ | exact LeO.refl _ | exact LeO.none _ | refine LeO.ite ?_ ?_ | refine LeO.bind ?_ (fun _ => ?_)) | exact ih0 _ _ _ _ | exact impl_NameOk.mono _ _ | exact impl_SymOf.mono _ _ _ | exact LeO.none _ | refine LeO.ite ?_ ?_ | refine LeO.bind ?_ (fun _ => ?_)
theorem impl_SigOk.mono : ∀ a0 k, LeO (impl_SigOk.f k a0) (impl_SigOk.f (k + 1) a0) := by
  intro a0 k; have ih0 := impl_SigOk.mono_l k
  unfold impl_SigOk.f
  repeat' first
      | (with_reducible exact ih0 _ _ _ _)
      | (with_reducible exact impl_NameOk.mono _ _)
      | (with_reducible exact impl_SymOf.mono _ _ _)
      | (with_reducible exact LeO.refl _)
      | (with_reducible exact LeO.none _)
      | (with_reducible refine LeO.ite ?_ ?_)
      | (with_reducible refine LeO.bind ?_ (fun _ => ?_))
      | exact ih0 _ _ _ _
      | exact impl_NameOk.mono _ _
      | exact impl_SymOf.mono _ _ _
      | exact LeO.none _
      | refine LeO.ite ?_ ?_
      | refine LeO.bind ?_ (fun _ => ?_)
set_option maxHeartbeats 8000000 in
set_option maxRecDepth 100000 in
theorem impl_SigOk.calls (k : Nat) (A0 : Option Addr) (c0 : Nat) (l0 : List (I_Sym)) (r : Bool) (w : World) (hr0 : Kd.C k99 w A0 l0.length l0) (hc0 : l0.length ≤ c0) (h : impl_SigOk.f k l0 = some r) :
    Calls Try.prog 86 #[.slice A0 l0.length c0] w fun e w' => e = .returned (.bool r) ∧ Below w.heap.size w w' := by
  have hu99 := Try.underlying99; have HR0 := ak hr0; have HC0 := ak hc0; clear hr0 hc0; have HB := ak (Below.refl w.heap.size w); have H : (impl_SigOk.l0 k l0 l0 (l0.length : Int) 0) = some r := h; clear h; have H' := ak H; clear H
  go_enter Try.func86, Try.ntmps86
  go_wp2
  go_loopg [7] k (fun kq v7 w' => ∃ (x7_1 : Int), v7 = .int .i64 x7_1 ∧ Aside0 (impl_SigOk.l0 kq l0 l0 (l0.length : Int) x7_1 = some r) ∧ Aside0 (kq ≤ k) ∧ Aside0 (Below w.heap.size w w'))
  case atStart => exact ⟨(0), (by first | rfl | (simp; done) | (simp [*]; done)), H', ⟨Nat.le_refl _⟩, ⟨by repeat (first | (with_reducible first | exact HB.out | apply below_alloc | apply pw_below_drewN | apply below_drew1) | exact HB.out)⟩⟩
  case round =>
    clear H'; obtain ⟨x7_1, rfl, HA, HK1, HB⟩ := hrel
    cases gk with
    | zero => exact absurd HA.out (by simp [impl_SigOk.l0])
    | succ k1 =>
      have H := HA.out; clear HA
      simp only [impl_SigOk.l0] at H
      by_cases c2 : x7_1 < (l0.length : Int)
      · rw [if_pos c2] at H; have c2b0 := decide_eq_true c2; clear c2
        by_cases c3 : 0 ≤ x7_1
        · rw [if_pos c3] at H; have c3b0 := decide_eq_true c3; clear c3
          by_cases c4 : x7_1 < (l0.length : Int)
          · rw [if_pos c4] at H; have c4b0 := decide_eq_true c4; clear c4; replace H := Option.bind_eq_some_iff.mp H; obtain ⟨t239, A50, H⟩ := H; have A5 := ak A50; clear A50
            by_cases c6 : t239 = true
            · subst c6; rw [if_pos rfl] at H; replace H := Option.bind_eq_some_iff.mp H; obtain ⟨t240, A70, H⟩ := H; have A7 := ak A70; clear A70
              by_cases c8 : t240 = x7_1
              · rw [if_pos c8] at H; have c8b0 : (t240 == x7_1) = true := beq_iff_eq.mpr c8; have c8b1 : (t240 != x7_1) = false := bne_eq_false_iff_eq.mpr c8; clear c8; replace H := Option.bind_eq_some_iff.mp H; obtain ⟨t241, A90, H⟩ := H; have A9 := ak A90; clear A90
                by_cases c10 : t241 = true
                · subst c10; rw [if_pos rfl] at H; obtain ⟨bq11, hbq11⟩ : ∃ b_ : Bool, b_ = ((rd_I_Sym l0 x7_1).f2) := ⟨_, rfl⟩; replace H : (if bq11 = true then (if ((rd_I_Sym l0 x7_1).f1) = 2 then (impl_SigOk.l0 k1 l0 l0 (l0.length : Int) (wrap64 (x7_1 + 1))) else (some false)) else (impl_SigOk.l0 k1 l0 l0 (l0.length : Int) (wrap64 (x7_1 + 1)))) = some r := by rw [← hbq11] at H; exact H
                  have Nbq11 := ak hbq11; clear hbq11
                  by_cases c12 : bq11 = true
                  · subst c12; rw [if_pos rfl] at H
                    by_cases c13 : ((rd_I_Sym l0 x7_1).f1) = 2
                    · rw [if_pos c13] at H; have c13b0 : (((rd_I_Sym l0 x7_1).f1) == 2) = true := beq_iff_eq.mpr c13; have c13b1 : (((rd_I_Sym l0 x7_1).f1) != 2) = false := bne_eq_false_iff_eq.mpr c13; clear c13; have H' := ak H; clear H; have p237 : 0 ≤ (x7_1 : Int) := as_; have q237 : x7_1 < (l0.length : Int) := as_; obtain ⟨ad237, e237, hx237_0, hx237_1, hx237_2⟩ := at_T99 HR0.out x7_1 p237 q237; (try rw [← Nbq11.out] at hx237_2); (try rw [← Nbq11.out] at hw237_2)
                      cases e237
                      replace hx237_0 := hbc_ HB.out hx237_0; replace hx237_1 := hbc_ HB.out hx237_1; replace hx237_2 := hbc_ HB.out hx237_2; replace p237 := eq_true p237; replace q237 := eq_true q237
                      go_wp2_with (first | ((with_reducible refine gate_dst (N := 4) rfl ?_); refine bxe_ (N := 4) (cs := #[.string (⟨#[]⟩ : ByteArray), .int .i64 0, .bool false]) (t := 99) ?_; intro gb238 hg w14 hbox hb; have BK238 := ak (hbox); have GW238 := ak (lg_ hg (bl_ HB.out)); have GE238 := ak (lg_ hg (bl_ HB.out)); replace HB := ak (below_step (bl_ HB.out) hb); clear hb hbox hg; have hcz15_0 := bc_ BK238.out 0; have hcz15_1 := bc_ BK238.out 1; have hcz15_2 := bc_ BK238.out 2; have hfz15_0 := blk_frozen BK238.out 0; have hfz15_1 := blk_frozen BK238.out 1; have hfz15_2 := blk_frozen BK238.out 2) | ((with_reducible refine gate_callee (f := 144) rfl ?_); refine goesM_ (some 14) rfl rfl Try.func144 (by kernel_rfl) rfl #[.string ((rd_I_Sym l0 x7_1).f0)] rfl ?_; (with_reducible refine (impl_NameOk.calls k1 ((rd_I_Sym l0 x7_1).f0) true _ A5.out).mono ?_); rintro e w' ⟨rfl, ⟨nd, rfl⟩⟩; refine ⟨_, rfl, ?_⟩) | (go_at_call 145; (with_reducible refine (impl_SymOf.calls k1 _ _ l0 ((rd_I_Sym l0 x7_1).f0) t240 _ ?side1 ?side2 A7.out).mono ?_); (case side1 => exact Kd.C_below HR0.out (bs1_ HB.out GE238.out)); (case side2 => exact HC0.out); rintro e w16 ⟨rfl, hb⟩; replace BK238 := ak (blk_below (g := gb238) (o := .cells #[.string ((rd_I_Sym l0 x7_1).f0), .int .i64 ((rd_I_Sym l0 x7_1).f1), .bool true] 99 (0, 0)) (by (with_reducible repeat (first | refine blk_drewN ?_ _ | refine blk_drew ?_ | refine blk_alloc ?_ _)); refine blk_put (cs := #[.string ((rd_I_Sym l0 x7_1).f0), .int .i64 ((rd_I_Sym l0 x7_1).f1), .bool false]) ?_ 2 _ rfl; (with_reducible repeat (first | refine blk_drewN ?_ _ | refine blk_drew ?_ | refine blk_alloc ?_ _)); refine blk_put (cs := #[.string ((rd_I_Sym l0 x7_1).f0), .int .i64 0, .bool false]) ?_ 1 _ rfl; (with_reducible repeat (first | refine blk_drewN ?_ _ | refine blk_drew ?_ | refine blk_alloc ?_ _)); refine blk_put (cs := #[.string (⟨#[]⟩ : ByteArray), .int .i64 0, .bool false]) ?_ 0 _ rfl; (with_reducible repeat (first | refine blk_drewN ?_ _ | refine blk_drew ?_ | refine blk_alloc ?_ _)); exact BK238.out) hb); replace HB := ak (below_step (bs1_ HB.out GE238.out) hb); (try clear hb); (try clear hb2); (try clear hk); (try clear hi); have hcz17_0 := bc_ BK238.out 0; have hcz17_1 := bc_ BK238.out 1; have hcz17_2 := bc_ BK238.out 2; have hfz17_0 := blk_frozen BK238.out 0; have hfz17_1 := blk_frozen BK238.out 1; have hfz17_2 := blk_frozen BK238.out 2) | (go_at_call 87; (with_reducible refine (impl_from.calls ((rd_I_Sym l0 x7_1).f1) 0 3 true _ A9.out).mono ?_); rintro e w' ⟨rfl, ⟨nd, rfl⟩⟩))
                      go_roundg k1
                      case measure => have := HK1.out; omega
                      case rel => exact ⟨(wrap64 (x7_1 + 1)), (by first | rfl | (simp; done) | (simp [*]; done)), H', ⟨by have := HK1.out; omega⟩, ⟨bs1_ HB.out GE238.out⟩⟩
                    rw [if_neg c13] at H; have c13b0 : (((rd_I_Sym l0 x7_1).f1) == 2) = false := beq_eq_false_iff_ne.mpr c13; have c13b1 : (((rd_I_Sym l0 x7_1).f1) != 2) = true := bne_iff_ne.mpr c13; obtain rfl := Option.some.inj H; have p237 : 0 ≤ (x7_1 : Int) := as_; have q237 : x7_1 < (l0.length : Int) := as_; obtain ⟨ad237, e237, hx237_0, hx237_1, hx237_2⟩ := at_T99 HR0.out x7_1 p237 q237; (try rw [← Nbq11.out] at hx237_2); (try rw [← Nbq11.out] at hw237_2)
                    cases e237
                    replace hx237_0 := hbc_ HB.out hx237_0; replace hx237_1 := hbc_ HB.out hx237_1; replace hx237_2 := hbc_ HB.out hx237_2; replace p237 := eq_true p237; replace q237 := eq_true q237
                    go_wp2_with (first | ((with_reducible refine gate_dst (N := 4) rfl ?_); refine bxe_ (N := 4) (cs := #[.string (⟨#[]⟩ : ByteArray), .int .i64 0, .bool false]) (t := 99) ?_; intro gb238 hg w18 hbox hb; have BK238 := ak (hbox); have GW238 := ak (lg_ hg (bl_ HB.out)); have GE238 := ak (lg_ hg (bl_ HB.out)); replace HB := ak (below_step (bl_ HB.out) hb); clear hb hbox hg; have hcz19_0 := bc_ BK238.out 0; have hcz19_1 := bc_ BK238.out 1; have hcz19_2 := bc_ BK238.out 2; have hfz19_0 := blk_frozen BK238.out 0; have hfz19_1 := blk_frozen BK238.out 1; have hfz19_2 := blk_frozen BK238.out 2) | ((with_reducible refine gate_callee (f := 144) rfl ?_); refine goesM_ (some 14) rfl rfl Try.func144 (by kernel_rfl) rfl #[.string ((rd_I_Sym l0 x7_1).f0)] rfl ?_; (with_reducible refine (impl_NameOk.calls k1 ((rd_I_Sym l0 x7_1).f0) true _ A5.out).mono ?_); rintro e w' ⟨rfl, ⟨nd, rfl⟩⟩; refine ⟨_, rfl, ?_⟩) | (go_at_call 145; (with_reducible refine (impl_SymOf.calls k1 _ _ l0 ((rd_I_Sym l0 x7_1).f0) t240 _ ?side1 ?side2 A7.out).mono ?_); (case side1 => exact Kd.C_below HR0.out (bs1_ HB.out GE238.out)); (case side2 => exact HC0.out); rintro e w20 ⟨rfl, hb⟩; replace BK238 := ak (blk_below (g := gb238) (o := .cells #[.string ((rd_I_Sym l0 x7_1).f0), .int .i64 ((rd_I_Sym l0 x7_1).f1), .bool true] 99 (0, 0)) (by (with_reducible repeat (first | refine blk_drewN ?_ _ | refine blk_drew ?_ | refine blk_alloc ?_ _)); refine blk_put (cs := #[.string ((rd_I_Sym l0 x7_1).f0), .int .i64 ((rd_I_Sym l0 x7_1).f1), .bool false]) ?_ 2 _ rfl; (with_reducible repeat (first | refine blk_drewN ?_ _ | refine blk_drew ?_ | refine blk_alloc ?_ _)); refine blk_put (cs := #[.string ((rd_I_Sym l0 x7_1).f0), .int .i64 0, .bool false]) ?_ 1 _ rfl; (with_reducible repeat (first | refine blk_drewN ?_ _ | refine blk_drew ?_ | refine blk_alloc ?_ _)); refine blk_put (cs := #[.string (⟨#[]⟩ : ByteArray), .int .i64 0, .bool false]) ?_ 0 _ rfl; (with_reducible repeat (first | refine blk_drewN ?_ _ | refine blk_drew ?_ | refine blk_alloc ?_ _)); exact BK238.out) hb); replace HB := ak (below_step (bs1_ HB.out GE238.out) hb); (try clear hb); (try clear hb2); (try clear hk); (try clear hi); have hcz21_0 := bc_ BK238.out 0; have hcz21_1 := bc_ BK238.out 1; have hcz21_2 := bc_ BK238.out 2; have hfz21_0 := blk_frozen BK238.out 0; have hfz21_1 := blk_frozen BK238.out 1; have hfz21_2 := blk_frozen BK238.out 2) | (go_at_call 87; (with_reducible refine (impl_from.calls ((rd_I_Sym l0 x7_1).f1) 0 3 true _ A9.out).mono ?_); rintro e w' ⟨rfl, ⟨nd, rfl⟩⟩))
                    go_ret
                    exact fin_ (bs1_ HB.out GE238.out)
                  replace c12 := Bool.eq_false_iff.mpr c12; subst c12; rw [if_neg (show ¬ (false = true) by decide)] at H; have H' := ak H; clear H; have p237 : 0 ≤ (x7_1 : Int) := as_; have q237 : x7_1 < (l0.length : Int) := as_; obtain ⟨ad237, e237, hx237_0, hx237_1, hx237_2⟩ := at_T99 HR0.out x7_1 p237 q237; (try rw [← Nbq11.out] at hx237_2); (try rw [← Nbq11.out] at hw237_2)
                  cases e237
                  replace hx237_0 := hbc_ HB.out hx237_0; replace hx237_1 := hbc_ HB.out hx237_1; replace hx237_2 := hbc_ HB.out hx237_2; replace p237 := eq_true p237; replace q237 := eq_true q237
                  go_wp2_with (first | ((with_reducible refine gate_dst (N := 4) rfl ?_); refine bxe_ (N := 4) (cs := #[.string (⟨#[]⟩ : ByteArray), .int .i64 0, .bool false]) (t := 99) ?_; intro gb238 hg w22 hbox hb; have BK238 := ak (hbox); have GW238 := ak (lg_ hg (bl_ HB.out)); have GE238 := ak (lg_ hg (bl_ HB.out)); replace HB := ak (below_step (bl_ HB.out) hb); clear hb hbox hg; have hcz23_0 := bc_ BK238.out 0; have hcz23_1 := bc_ BK238.out 1; have hcz23_2 := bc_ BK238.out 2; have hfz23_0 := blk_frozen BK238.out 0; have hfz23_1 := blk_frozen BK238.out 1; have hfz23_2 := blk_frozen BK238.out 2) | ((with_reducible refine gate_callee (f := 144) rfl ?_); refine goesM_ (some 14) rfl rfl Try.func144 (by kernel_rfl) rfl #[.string ((rd_I_Sym l0 x7_1).f0)] rfl ?_; (with_reducible refine (impl_NameOk.calls k1 ((rd_I_Sym l0 x7_1).f0) true _ A5.out).mono ?_); rintro e w' ⟨rfl, ⟨nd, rfl⟩⟩; refine ⟨_, rfl, ?_⟩) | (go_at_call 145; (with_reducible refine (impl_SymOf.calls k1 _ _ l0 ((rd_I_Sym l0 x7_1).f0) t240 _ ?side1 ?side2 A7.out).mono ?_); (case side1 => exact Kd.C_below HR0.out (bs1_ HB.out GE238.out)); (case side2 => exact HC0.out); rintro e w24 ⟨rfl, hb⟩; replace BK238 := ak (blk_below (g := gb238) (o := .cells #[.string ((rd_I_Sym l0 x7_1).f0), .int .i64 ((rd_I_Sym l0 x7_1).f1), .bool false] 99 (0, 0)) (by (with_reducible repeat (first | refine blk_drewN ?_ _ | refine blk_drew ?_ | refine blk_alloc ?_ _)); refine blk_put (cs := #[.string ((rd_I_Sym l0 x7_1).f0), .int .i64 ((rd_I_Sym l0 x7_1).f1), .bool false]) ?_ 2 _ rfl; (with_reducible repeat (first | refine blk_drewN ?_ _ | refine blk_drew ?_ | refine blk_alloc ?_ _)); refine blk_put (cs := #[.string ((rd_I_Sym l0 x7_1).f0), .int .i64 0, .bool false]) ?_ 1 _ rfl; (with_reducible repeat (first | refine blk_drewN ?_ _ | refine blk_drew ?_ | refine blk_alloc ?_ _)); refine blk_put (cs := #[.string (⟨#[]⟩ : ByteArray), .int .i64 0, .bool false]) ?_ 0 _ rfl; (with_reducible repeat (first | refine blk_drewN ?_ _ | refine blk_drew ?_ | refine blk_alloc ?_ _)); exact BK238.out) hb); replace HB := ak (below_step (bs1_ HB.out GE238.out) hb); (try clear hb); (try clear hb2); (try clear hk); (try clear hi); have hcz25_0 := bc_ BK238.out 0; have hcz25_1 := bc_ BK238.out 1; have hcz25_2 := bc_ BK238.out 2; have hfz25_0 := blk_frozen BK238.out 0; have hfz25_1 := blk_frozen BK238.out 1; have hfz25_2 := blk_frozen BK238.out 2) | (go_at_call 87; (with_reducible refine (impl_from.calls ((rd_I_Sym l0 x7_1).f1) 0 3 true _ A9.out).mono ?_); rintro e w' ⟨rfl, ⟨nd, rfl⟩⟩))
                  go_roundg k1
                  case measure => have := HK1.out; omega
                  case rel => exact ⟨(wrap64 (x7_1 + 1)), (by first | rfl | (simp; done) | (simp [*]; done)), H', ⟨by have := HK1.out; omega⟩, ⟨bs1_ HB.out GE238.out⟩⟩
                replace c10 := Bool.eq_false_iff.mpr c10; subst c10; rw [if_neg (show ¬ (false = true) by decide)] at H; obtain rfl := Option.some.inj H; have p237 : 0 ≤ (x7_1 : Int) := as_; have q237 : x7_1 < (l0.length : Int) := as_; obtain ⟨ad237, e237, hx237_0, hx237_1, hx237_2⟩ := at_T99 HR0.out x7_1 p237 q237
                cases e237
                replace hx237_0 := hbc_ HB.out hx237_0; replace hx237_1 := hbc_ HB.out hx237_1; replace hx237_2 := hbc_ HB.out hx237_2; replace p237 := eq_true p237; replace q237 := eq_true q237
                go_wp2_with (first | ((with_reducible refine gate_dst (N := 4) rfl ?_); refine bxe_ (N := 4) (cs := #[.string (⟨#[]⟩ : ByteArray), .int .i64 0, .bool false]) (t := 99) ?_; intro gb238 hg w26 hbox hb; have BK238 := ak (hbox); have GW238 := ak (lg_ hg (bl_ HB.out)); have GE238 := ak (lg_ hg (bl_ HB.out)); replace HB := ak (below_step (bl_ HB.out) hb); clear hb hbox hg; have hcz27_0 := bc_ BK238.out 0; have hcz27_1 := bc_ BK238.out 1; have hcz27_2 := bc_ BK238.out 2; have hfz27_0 := blk_frozen BK238.out 0; have hfz27_1 := blk_frozen BK238.out 1; have hfz27_2 := blk_frozen BK238.out 2) | ((with_reducible refine gate_callee (f := 144) rfl ?_); refine goesM_ (some 14) rfl rfl Try.func144 (by kernel_rfl) rfl #[.string ((rd_I_Sym l0 x7_1).f0)] rfl ?_; (with_reducible refine (impl_NameOk.calls k1 ((rd_I_Sym l0 x7_1).f0) true _ A5.out).mono ?_); rintro e w' ⟨rfl, ⟨nd, rfl⟩⟩; refine ⟨_, rfl, ?_⟩) | (go_at_call 145; (with_reducible refine (impl_SymOf.calls k1 _ _ l0 ((rd_I_Sym l0 x7_1).f0) t240 _ ?side1 ?side2 A7.out).mono ?_); (case side1 => exact Kd.C_below HR0.out (bs1_ HB.out GE238.out)); (case side2 => exact HC0.out); rintro e w28 ⟨rfl, hb⟩; replace BK238 := ak (blk_below (g := gb238) (o := .cells #[.string ((rd_I_Sym l0 x7_1).f0), .int .i64 ((rd_I_Sym l0 x7_1).f1), .bool ((rd_I_Sym l0 x7_1).f2)] 99 (0, 0)) (by (with_reducible repeat (first | refine blk_drewN ?_ _ | refine blk_drew ?_ | refine blk_alloc ?_ _)); refine blk_put (cs := #[.string ((rd_I_Sym l0 x7_1).f0), .int .i64 ((rd_I_Sym l0 x7_1).f1), .bool false]) ?_ 2 _ rfl; (with_reducible repeat (first | refine blk_drewN ?_ _ | refine blk_drew ?_ | refine blk_alloc ?_ _)); refine blk_put (cs := #[.string ((rd_I_Sym l0 x7_1).f0), .int .i64 0, .bool false]) ?_ 1 _ rfl; (with_reducible repeat (first | refine blk_drewN ?_ _ | refine blk_drew ?_ | refine blk_alloc ?_ _)); refine blk_put (cs := #[.string (⟨#[]⟩ : ByteArray), .int .i64 0, .bool false]) ?_ 0 _ rfl; (with_reducible repeat (first | refine blk_drewN ?_ _ | refine blk_drew ?_ | refine blk_alloc ?_ _)); exact BK238.out) hb); replace HB := ak (below_step (bs1_ HB.out GE238.out) hb); (try clear hb); (try clear hb2); (try clear hk); (try clear hi); have hcz29_0 := bc_ BK238.out 0; have hcz29_1 := bc_ BK238.out 1; have hcz29_2 := bc_ BK238.out 2; have hfz29_0 := blk_frozen BK238.out 0; have hfz29_1 := blk_frozen BK238.out 1; have hfz29_2 := blk_frozen BK238.out 2) | (go_at_call 87; (with_reducible refine (impl_from.calls ((rd_I_Sym l0 x7_1).f1) 0 3 false _ A9.out).mono ?_); rintro e w' ⟨rfl, ⟨nd, rfl⟩⟩))
                go_ret
                exact fin_ (bs1_ HB.out GE238.out)
              rw [if_neg c8] at H; have c8b0 : (t240 == x7_1) = false := beq_eq_false_iff_ne.mpr c8; have c8b1 : (t240 != x7_1) = true := bne_iff_ne.mpr c8; obtain rfl := Option.some.inj H; have p237 : 0 ≤ (x7_1 : Int) := as_; have q237 : x7_1 < (l0.length : Int) := as_; obtain ⟨ad237, e237, hx237_0, hx237_1, hx237_2⟩ := at_T99 HR0.out x7_1 p237 q237
              cases e237
              replace hx237_0 := hbc_ HB.out hx237_0; replace hx237_1 := hbc_ HB.out hx237_1; replace hx237_2 := hbc_ HB.out hx237_2; replace p237 := eq_true p237; replace q237 := eq_true q237
              go_wp2_with (first | ((with_reducible refine gate_dst (N := 4) rfl ?_); refine bxe_ (N := 4) (cs := #[.string (⟨#[]⟩ : ByteArray), .int .i64 0, .bool false]) (t := 99) ?_; intro gb238 hg w30 hbox hb; have BK238 := ak (hbox); have GW238 := ak (lg_ hg (bl_ HB.out)); have GE238 := ak (lg_ hg (bl_ HB.out)); replace HB := ak (below_step (bl_ HB.out) hb); clear hb hbox hg; have hcz31_0 := bc_ BK238.out 0; have hcz31_1 := bc_ BK238.out 1; have hcz31_2 := bc_ BK238.out 2; have hfz31_0 := blk_frozen BK238.out 0; have hfz31_1 := blk_frozen BK238.out 1; have hfz31_2 := blk_frozen BK238.out 2) | ((with_reducible refine gate_callee (f := 144) rfl ?_); refine goesM_ (some 14) rfl rfl Try.func144 (by kernel_rfl) rfl #[.string ((rd_I_Sym l0 x7_1).f0)] rfl ?_; (with_reducible refine (impl_NameOk.calls k1 ((rd_I_Sym l0 x7_1).f0) true _ A5.out).mono ?_); rintro e w' ⟨rfl, ⟨nd, rfl⟩⟩; refine ⟨_, rfl, ?_⟩) | (go_at_call 145; (with_reducible refine (impl_SymOf.calls k1 _ _ l0 ((rd_I_Sym l0 x7_1).f0) t240 _ ?side1 ?side2 A7.out).mono ?_); (case side1 => exact Kd.C_below HR0.out (bs1_ HB.out GE238.out)); (case side2 => exact HC0.out); rintro e w32 ⟨rfl, hb⟩; replace BK238 := ak (blk_below (g := gb238) (o := .cells #[.string ((rd_I_Sym l0 x7_1).f0), .int .i64 ((rd_I_Sym l0 x7_1).f1), .bool ((rd_I_Sym l0 x7_1).f2)] 99 (0, 0)) (by (with_reducible repeat (first | refine blk_drewN ?_ _ | refine blk_drew ?_ | refine blk_alloc ?_ _)); refine blk_put (cs := #[.string ((rd_I_Sym l0 x7_1).f0), .int .i64 ((rd_I_Sym l0 x7_1).f1), .bool false]) ?_ 2 _ rfl; (with_reducible repeat (first | refine blk_drewN ?_ _ | refine blk_drew ?_ | refine blk_alloc ?_ _)); refine blk_put (cs := #[.string ((rd_I_Sym l0 x7_1).f0), .int .i64 0, .bool false]) ?_ 1 _ rfl; (with_reducible repeat (first | refine blk_drewN ?_ _ | refine blk_drew ?_ | refine blk_alloc ?_ _)); refine blk_put (cs := #[.string (⟨#[]⟩ : ByteArray), .int .i64 0, .bool false]) ?_ 0 _ rfl; (with_reducible repeat (first | refine blk_drewN ?_ _ | refine blk_drew ?_ | refine blk_alloc ?_ _)); exact BK238.out) hb); replace HB := ak (below_step (bs1_ HB.out GE238.out) hb); (try clear hb); (try clear hb2); (try clear hk); (try clear hi)))
              go_ret
              exact fin_ (bs1_ HB.out GE238.out)
            replace c6 := Bool.eq_false_iff.mpr c6; subst c6; rw [if_neg (show ¬ (false = true) by decide)] at H; obtain rfl := Option.some.inj H; have p237 : 0 ≤ (x7_1 : Int) := as_; have q237 : x7_1 < (l0.length : Int) := as_; obtain ⟨ad237, e237, hx237_0, hx237_1, hx237_2⟩ := at_T99 HR0.out x7_1 p237 q237
            cases e237
            replace hx237_0 := hbc_ HB.out hx237_0; replace hx237_1 := hbc_ HB.out hx237_1; replace hx237_2 := hbc_ HB.out hx237_2; replace p237 := eq_true p237; replace q237 := eq_true q237
            go_wp2_with (first | ((with_reducible refine gate_dst (N := 4) rfl ?_); refine bxe_ (N := 4) (cs := #[.string (⟨#[]⟩ : ByteArray), .int .i64 0, .bool false]) (t := 99) ?_; intro gb238 hg w33 hbox hb; have BK238 := ak (hbox); have GW238 := ak (lg_ hg (bl_ HB.out)); have GE238 := ak (lg_ hg (bl_ HB.out)); replace HB := ak (below_step (bl_ HB.out) hb); clear hb hbox hg; have hcz34_0 := bc_ BK238.out 0; have hcz34_1 := bc_ BK238.out 1; have hcz34_2 := bc_ BK238.out 2; have hfz34_0 := blk_frozen BK238.out 0; have hfz34_1 := blk_frozen BK238.out 1; have hfz34_2 := blk_frozen BK238.out 2) | ((with_reducible refine gate_callee (f := 144) rfl ?_); refine goesM_ (some 14) rfl rfl Try.func144 (by kernel_rfl) rfl #[.string ((rd_I_Sym l0 x7_1).f0)] rfl ?_; (with_reducible refine (impl_NameOk.calls k1 ((rd_I_Sym l0 x7_1).f0) false _ A5.out).mono ?_); rintro e w' ⟨rfl, ⟨nd, rfl⟩⟩; refine ⟨_, rfl, ?_⟩))
            go_ret
            exact fin_ (bs1_ HB.out GE238.out)
          rw [if_neg c4] at H; exact absurd H (by simp)
        rw [if_neg c3] at H; exact absurd H (by simp)
      rw [if_neg c2] at H; have c2b0 := decide_eq_false c2; clear c2; replace H := Option.bind_eq_some_iff.mp H; obtain ⟨t234, A350, H⟩ := H; have A35 := ak A350; clear A350
      by_cases c36 : t234 = true
      · subst c36; rw [if_pos rfl] at H
        by_cases c37 : 0 < (l0.length : Int)
        · rw [if_pos c37] at H; have c37b0 := decide_eq_true c37; have c37b1 : decide (0 < l0.length) = true := decide_eq_true (by omega); clear c37
          by_cases c38 : ((rd_I_Sym l0 0).f0).toList = ([116, 116] : List UInt8)
          · rw [if_pos c38] at H; have c38b0 : (((rd_I_Sym l0 0).f0).toList == ([116, 116] : List UInt8)) = true := beq_iff_eq.mpr c38; have c38b1 : (((rd_I_Sym l0 0).f0).toList != ([116, 116] : List UInt8)) = false := bne_eq_false_iff_eq.mpr c38; clear c38; obtain rfl := Option.some.inj H
            go_wp2_with (first | ((with_reducible refine gate_callee (f := 87) rfl ?_); refine goesM_ (some 42) rfl rfl Try.func87 (by kernel_rfl) rfl #[.int .i64 (l0.length : Int), .int .i64 1, .int .i64 8] rfl ?_; (with_reducible refine (impl_from.calls (l0.length : Int) 1 8 true _ A35.out).mono ?_); rintro e w' ⟨rfl, ⟨nd, rfl⟩⟩; refine ⟨_, rfl, ?_⟩; have p235 : 0 ≤ (0 : Int) := (by omega); have q235 : 0 < (l0.length : Int) := as_; obtain ⟨ad235, e235, hx235_0, hx235_1, hx235_2⟩ := at_T99 HR0.out 0 p235 q235; cases e235; have qi235 : (0 < l0.length) = True := eq_true (by omega); (try rw [show ((0 : Int)).toNat = 0 from rfl] at hx235_0); (try rw [show 0 * 3 = 0 from rfl] at hx235_0); (try rw [Addr.add_zero'] at hx235_0); (try rw [show ((0 : Int)).toNat = 0 from rfl] at hx235_1); (try rw [show 0 * 3 = 0 from rfl] at hx235_1); (try rw [Addr.add_zero'] at hx235_1); (try rw [show ((0 : Int)).toNat = 0 from rfl] at hx235_2); (try rw [show 0 * 3 = 0 from rfl] at hx235_2); (try rw [Addr.add_zero'] at hx235_2); replace hx235_0 := hbc_ HB.out hx235_0; replace hx235_1 := hbc_ HB.out hx235_1; replace hx235_2 := hbc_ HB.out hx235_2; replace p235 := eq_true p235; replace q235 := eq_true q235; have p236 : 0 ≤ (0 : Int) := (by omega); have q236 : 0 < (l0.length : Int) := as_; obtain ⟨ad236, e236, hx236_0, hx236_1, hx236_2⟩ := at_T99 HR0.out 0 p236 q236; obtain rfl : ad235 = ad236 := (by injection e236); have qi236 : (0 < l0.length) = True := eq_true (by omega); (try rw [show ((0 : Int)).toNat = 0 from rfl] at hx236_0); (try rw [show 0 * 3 = 0 from rfl] at hx236_0); (try rw [Addr.add_zero'] at hx236_0); (try rw [show ((0 : Int)).toNat = 0 from rfl] at hx236_1); (try rw [show 0 * 3 = 0 from rfl] at hx236_1); (try rw [Addr.add_zero'] at hx236_1); (try rw [show ((0 : Int)).toNat = 0 from rfl] at hx236_2); (try rw [show 0 * 3 = 0 from rfl] at hx236_2); (try rw [Addr.add_zero'] at hx236_2); replace hx236_0 := hbc_ HB.out hx236_0; replace hx236_1 := hbc_ HB.out hx236_1; replace hx236_2 := hbc_ HB.out hx236_2; replace p236 := eq_true p236; replace q236 := eq_true q236))
            go_ret
            exact fin_ (bl_ HB.out)
          rw [if_neg c38] at H; have c38b0 : (((rd_I_Sym l0 0).f0).toList == ([116, 116] : List UInt8)) = false := beq_eq_false_iff_ne.mpr c38; have c38b1 : (((rd_I_Sym l0 0).f0).toList != ([116, 116] : List UInt8)) = true := bne_iff_ne.mpr c38; obtain rfl := Option.some.inj H
          go_wp2_with (first | ((with_reducible refine gate_callee (f := 87) rfl ?_); refine goesM_ (some 42) rfl rfl Try.func87 (by kernel_rfl) rfl #[.int .i64 (l0.length : Int), .int .i64 1, .int .i64 8] rfl ?_; (with_reducible refine (impl_from.calls (l0.length : Int) 1 8 true _ A35.out).mono ?_); rintro e w' ⟨rfl, ⟨nd, rfl⟩⟩; refine ⟨_, rfl, ?_⟩; have p235 : 0 ≤ (0 : Int) := (by omega); have q235 : 0 < (l0.length : Int) := as_; obtain ⟨ad235, e235, hx235_0, hx235_1, hx235_2⟩ := at_T99 HR0.out 0 p235 q235; cases e235; have qi235 : (0 < l0.length) = True := eq_true (by omega); (try rw [show ((0 : Int)).toNat = 0 from rfl] at hx235_0); (try rw [show 0 * 3 = 0 from rfl] at hx235_0); (try rw [Addr.add_zero'] at hx235_0); (try rw [show ((0 : Int)).toNat = 0 from rfl] at hx235_1); (try rw [show 0 * 3 = 0 from rfl] at hx235_1); (try rw [Addr.add_zero'] at hx235_1); (try rw [show ((0 : Int)).toNat = 0 from rfl] at hx235_2); (try rw [show 0 * 3 = 0 from rfl] at hx235_2); (try rw [Addr.add_zero'] at hx235_2); replace hx235_0 := hbc_ HB.out hx235_0; replace hx235_1 := hbc_ HB.out hx235_1; replace hx235_2 := hbc_ HB.out hx235_2; replace p235 := eq_true p235; replace q235 := eq_true q235))
          go_ret
          exact fin_ (bl_ HB.out)
        rw [if_neg c37] at H; exact absurd H (by simp)
      replace c36 := Bool.eq_false_iff.mpr c36; subst c36; rw [if_neg (show ¬ (false = true) by decide)] at H; obtain rfl := Option.some.inj H
      go_wp2_with (first | ((with_reducible refine gate_callee (f := 87) rfl ?_); refine goesM_ (some 42) rfl rfl Try.func87 (by kernel_rfl) rfl #[.int .i64 (l0.length : Int), .int .i64 1, .int .i64 8] rfl ?_; (with_reducible refine (impl_from.calls (l0.length : Int) 1 8 false _ A35.out).mono ?_); rintro e w' ⟨rfl, ⟨nd, rfl⟩⟩; refine ⟨_, rfl, ?_⟩))
      go_ret
      exact fin_ (bl_ HB.out)

/-! ### impl_placesOf: function 88 -/
def impl_placesOf.l0 : Nat → Int → Int → Int → Int → Option (Int)
  | 0, _, _, _, _ => none
  | k + 1, x0, x5, x6, x7 => if x7 < x6 then (impl_placesOf.l0 k x0 (wrap64 (x5 * x0)) x6 (wrap64 (x7 + 1))) else (some x5)
def impl_placesOf.f (k : Nat) (a0 : Int) (a1 : Int) : Option (Int) := impl_placesOf.l0 k a0 1 a1 0
theorem impl_placesOf.mono_l : ∀ k, (∀ y0 y1 y2 y3, LeO (impl_placesOf.l0 k y0 y1 y2 y3) (impl_placesOf.l0 (k + 1) y0 y1 y2 y3))
  | 0 => fun _ _ _ _ r h => by simp [impl_placesOf.l0] at h
  | k + 1 => by
    have ih0 := impl_placesOf.mono_l k
    · intro y0 y1 y2 y3
      unfold impl_placesOf.l0
      repeat' first | (with_reducible first | exact ih0 _ _ _ _ | exact LeO.refl _ | exact LeO.none _ | refine LeO.ite ?_ ?_ | refine LeO.bind ?_ (fun _ => ?_)) | exact ih0 _ _ _ _ | exact LeO.none _ | refine LeO.ite ?_ ?_ | refine LeO.bind ?_ (fun _ => ?_)
theorem impl_placesOf.mono : ∀ a0 a1 k, LeO (impl_placesOf.f k a0 a1) (impl_placesOf.f (k + 1) a0 a1) := by
  intro a0 a1 k; have ih0 := impl_placesOf.mono_l k
  unfold impl_placesOf.f
  repeat' first
      | (with_reducible exact ih0 _ _ _ _)
      | (with_reducible exact LeO.refl _)
      | (with_reducible exact LeO.none _)
      | (with_reducible refine LeO.ite ?_ ?_)
      | (with_reducible refine LeO.bind ?_ (fun _ => ?_))
      | exact ih0 _ _ _ _
      | exact LeO.none _
      | refine LeO.ite ?_ ?_
      | refine LeO.bind ?_ (fun _ => ?_)
set_option maxHeartbeats 8000000 in
set_option maxRecDepth 100000 in
theorem impl_placesOf.calls (k : Nat) (a0 : Int) (a1 : Int) (r : Int) (w : World) (h : impl_placesOf.f k a0 a1 = some r) :
    Calls Try.prog 88 #[.int .i64 a0, .int .i64 a1] w fun e w' => e = .returned (.int .i64 r) ∧ Drawn0 w w' := by
  have H : (impl_placesOf.l0 k a0 1 a1 0) = some r := h; clear h; have H' := ak H; clear H
  go_enter Try.func88, Try.ntmps88
  go_wp2
  go_loopg [5, 7] k (fun kq v5 v7 w' => ∃ (x5_1 : Int) (x7_1 : Int), v5 = .int .i64 x5_1 ∧ v7 = .int .i64 x7_1 ∧ Aside0 (impl_placesOf.l0 kq a0 x5_1 a1 x7_1 = some r) ∧ Aside0 (kq ≤ k) ∧ Drawn0 w w')
  case atStart => exact ⟨(1), (0), (by first | rfl | (simp; done) | (simp [*]; done)), (by first | rfl | (simp; done) | (simp [*]; done)), H', ⟨Nat.le_refl _⟩, by repeat (first | exact Drawn0.refl _ | apply Drawn0.step)⟩
  case round =>
    clear H'; (try clear p2); obtain ⟨x5_1, x7_1, rfl, rfl, HA, HK1, ⟨m1, rfl⟩⟩ := hrel
    cases gk with
    | zero => exact absurd HA.out (by simp [impl_placesOf.l0])
    | succ k1 =>
      have H := HA.out; clear HA
      simp only [impl_placesOf.l0] at H
      by_cases c3 : x7_1 < a1
      · rw [if_pos c3] at H; have c3b0 := decide_eq_true c3; clear c3; have H' := ak H; clear H
        go_wp2
        go_roundg k1
        case measure => have := HK1.out; omega
        case rel => exact ⟨(wrap64 (x5_1 * a0)), (wrap64 (x7_1 + 1)), (by first | rfl | (simp; done) | (simp [*]; done)), (by first | rfl | (simp; done) | (simp [*]; done)), H', ⟨by have := HK1.out; omega⟩, by repeat (first | exact Drawn0.refl _ | apply Drawn0.step)⟩
      rw [if_neg c3] at H; have c3b0 := decide_eq_false c3; clear c3; obtain rfl := Option.some.inj H
      go_wp2
      go_ret
      exact ⟨by first | rfl | (simp; done) | (simp [*]; done), by repeat (first | exact Drawn0.refl _ | apply Drawn0.step)⟩

/-! ### impl_WorldOk_1: function 90 -/
def impl_WorldOk_1.f (a0 : Int) (a1_0 : Int) (l1_1 : List (List Int)) : Option (Bool) := (impl_from.f a0 0 (wrap64 (a1_0 - 1))).bind fun t242 => (some (!t242))
set_option maxHeartbeats 8000000 in
set_option maxRecDepth 100000 in
theorem impl_WorldOk_1.calls (a0 : Int) (G1 : Nat) (a1_0 : Int) (A1_1 : Option Addr) (c1_1 : Nat) (l1_1 : List (List Int)) (r : Bool) (w : World) (hG1 : w.heap[G1]? = some (.cells #[.int .i64 a1_0, .slice A1_1 l1_1.length c1_1] 51 (0, 0))) (hr1_1 : Kd.C (Kd.slice 3 (Kd.int .i64)) w A1_1 l1_1.length l1_1) (hc1_1 : l1_1.length ≤ c1_1) (h : impl_WorldOk_1.f a0 a1_0 l1_1 = some r) :
    Calls Try.prog 90 #[.int .i64 a0, .pointer (some ⟨G1, 0, none⟩)] w fun e w' => e = .returned (.bool r) ∧ Drawn0 w w' := by
  have HR1_1 := ak hr1_1; have HC1_1 := ak hc1_1; clear hr1_1 hc1_1; have BK1 := ak hG1; clear hG1; have H : ((impl_from.f a0 0 (wrap64 (a1_0 - 1))).bind fun t242 => (some (!t242))) = some r := h; clear h; replace H := Option.bind_eq_some_iff.mp H; obtain ⟨t242, A30, H⟩ := H; have A3 := ak A30; clear A30; obtain rfl := Option.some.inj H; have hcz4_0 := bc_ BK1.out 0; have hcz4_1 := bc_ BK1.out 1; have hfz4_0 := blk_frozen BK1.out 0; have hfz4_1 := blk_frozen BK1.out 1
  go_enter Try.func90, Try.ntmps90
  go_wp2_with (first | ((with_reducible refine gate_callee (f := 87) rfl ?_); refine goesM_ (some 8) rfl rfl Try.func87 (by kernel_rfl) rfl #[.int .i64 a0, .int .i64 0, .int .i64 (wrap64 (a1_0 - 1))] rfl ?_; (with_reducible refine (impl_from.calls a0 0 (wrap64 (a1_0 - 1)) t242 _ A3.out).mono ?_); rintro e w' ⟨rfl, ⟨nd, rfl⟩⟩; refine ⟨_, rfl, ?_⟩))
  go_ret
  exact ⟨by first | rfl | (simp; done) | (simp [*]; done), by repeat (first | exact Drawn0.refl _ | apply Drawn0.step)⟩

/-! ### impl_indifferent_1: function 147 -/
def impl_indifferent_1.f (a0 : Int) (a1 : Int) (l2_0 : List Int) (a3_0 : Int) : Option (Int) := if 0 ≤ (wrap64 (a0 + (wrap64 (a3_0 * a1)))) then (if (wrap64 (a0 + (wrap64 (a3_0 * a1)))) < (l2_0.length : Int) then (some (rd l2_0 (wrap64 (a0 + (wrap64 (a3_0 * a1)))))) else (none)) else (none)
set_option maxHeartbeats 8000000 in
set_option maxRecDepth 100000 in
theorem impl_indifferent_1.calls (a0 : Int) (a1 : Int) (G2 : Nat) (A2_0 : Option Addr) (c2_0 : Nat) (l2_0 : List Int) (G3 : Nat) (a3_0 : Int) (r : Int) (w : World) (hG2 : w.heap[G2]? = some (.cells #[.slice A2_0 l2_0.length c2_0] 75 (0, 0))) (hr2_0 : Kd.C (Kd.int .i64) w A2_0 l2_0.length l2_0) (hc2_0 : l2_0.length ≤ c2_0) (hG3 : w.heap[G3]? = some (.cells #[.int .i64 a3_0] 3 (0, 0))) (hN2_3 : G2 ≠ G3) (h : impl_indifferent_1.f a0 a1 l2_0 a3_0 = some r) :
    Calls Try.prog 147 #[.int .i64 a0, .int .i64 a1, .pointer (some ⟨G2, 0, none⟩), .pointer (some ⟨G3, 0, none⟩)] w fun e w' => e = .returned (.int .i64 r) ∧ Drawn0 w w' := by
  have HR2_0 := ak hr2_0; have HC2_0 := ak hc2_0; clear hr2_0 hc2_0; have BK2 := ak hG2; clear hG2; have BK3 := ak hG3; clear hG3; have NB2_3 := ak hN2_3; have NB3_2 := ak (Ne.symm hN2_3); clear hN2_3; have H : (if 0 ≤ (wrap64 (a0 + (wrap64 (a3_0 * a1)))) then (if (wrap64 (a0 + (wrap64 (a3_0 * a1)))) < (l2_0.length : Int) then (some (rd l2_0 (wrap64 (a0 + (wrap64 (a3_0 * a1)))))) else (none)) else (none)) = some r := h; clear h; obtain ⟨ji5, hji5⟩ : ∃ j_ : Int, (wrap64 (a0 + (wrap64 (a3_0 * a1)))) = j_ := ⟨_, rfl⟩; replace H : (if 0 ≤ (ji5) then (if (ji5) < (l2_0.length : Int) then (some (rd l2_0 (ji5))) else (none)) else (none)) = some r := by first | (rw [hji5] at H; exact H) | (simp only [hji5] at H ⊢; exact H)
  have hji5w : (IntKind.i64.wrap (a0 + (wrap64 (a3_0 * a1)))) = ji5 := (i64_w _).trans hji5
  by_cases c6 : 0 ≤ (ji5)
  · rw [if_pos c6] at H; have c6b0 := decide_eq_true c6; clear c6
    by_cases c7 : (ji5) < (l2_0.length : Int)
    · rw [if_pos c7] at H; have c7b0 := decide_eq_true c7; clear c7; obtain rfl := Option.some.inj H; have hnb8 := NB2_3.out; have hnc8 := NB3_2.out; have hcz9_0 := bc_ BK2.out 0; have hfz9_0 := blk_frozen BK2.out 0; have hcz10_0 := bc_ BK3.out 0; have hfz10_0 := blk_frozen BK3.out 0; have p243 : 0 ≤ ((ji5) : Int) := as_; have q243 : (ji5) < (l2_0.length : Int) := as_; obtain ⟨ad243, e243, hx243_0⟩ := Kd.at_int HR2_0.out (ji5) p243 q243
      cases e243
      replace p243 := eq_true p243; replace q243 := eq_true q243
      go_enter Try.func147, Try.ntmps147
      go_wp2
      go_ret
      exact ⟨by first | rfl | (simp; done) | (simp only [← hji5] <;> (first | rfl | simp)) | (simp [*]; done), by repeat (first | exact Drawn0.refl _ | apply Drawn0.step)⟩
    rw [if_neg c7] at H; exact absurd H (by simp)
  rw [if_neg c6] at H; exact absurd H (by simp)

/-! ### impl_indifferent: function 91 -/
mutual
def impl_indifferent.l0 : Nat → Int → Int → Int → List Int → Option (Bool)
  | 0, _, _, _, _ => none
  | k + 1, x10, x11, x245000, x246000 => if x11 < x10 then (impl_indifferent.l1 k x11 x10 x11 x245000 0 x245000 x246000) else (some true)
def impl_indifferent.l1 : Nat → Int → Int → Int → Int → Int → Int → List Int → Option (Bool)
  | 0, _, _, _, _, _, _, _ => none
  | k + 1, x6, x10, x11, x14, x15, x245000, x246000 => if x15 < x14 then (impl_indifferent.l2 k x6 x15 x10 x11 x14 x15 x245000 0 x245000 x246000) else (impl_indifferent.l0 k x10 (wrap64 (x11 + 1)) x245000 x246000)
def impl_indifferent.l2 : Nat → Int → Int → Int → Int → Int → Int → Int → Int → Int → List Int → Option (Bool)
  | 0, _, _, _, _, _, _, _, _, _, _ => none
  | k + 1, x6, x7, x10, x11, x14, x15, x18, x19, x245000, x246000 => if x19 < x18 then ((impl_indifferent_1.f x6 x7 x246000 x245000).bind fun t246 => ((impl_indifferent_1.f x7 x6 x246000 x245000).bind fun t247 => (if t246 = t247 then ((impl_indifferent_1.f x6 x7 x246000 x245000).bind fun t248 => ((impl_indifferent_1.f t248 x19 x246000 x245000).bind fun t249 => ((impl_indifferent_1.f x7 x19 x246000 x245000).bind fun t250 => ((impl_indifferent_1.f x6 t250 x246000 x245000).bind fun t251 => (if t249 = t251 then (impl_indifferent.l2 k x6 x7 x10 x11 x14 x15 x18 (wrap64 (x19 + 1)) x245000 x246000) else (some false)))))) else (some false)))) else (impl_indifferent.l1 k x6 x10 x11 x14 (wrap64 (x15 + 1)) x245000 x246000)
end
def impl_indifferent.f (k : Nat) (a0 : Int) (l1 : List Int) : Option (Bool) := impl_indifferent.l0 k a0 0 a0 l1
theorem impl_indifferent.mono_l : ∀ k, (∀ y0 y1 y2 y3, LeO (impl_indifferent.l0 k y0 y1 y2 y3) (impl_indifferent.l0 (k + 1) y0 y1 y2 y3)) ∧ (∀ y0 y1 y2 y3 y4 y5 y6, LeO (impl_indifferent.l1 k y0 y1 y2 y3 y4 y5 y6) (impl_indifferent.l1 (k + 1) y0 y1 y2 y3 y4 y5 y6)) ∧ (∀ y0 y1 y2 y3 y4 y5 y6 y7 y8 y9, LeO (impl_indifferent.l2 k y0 y1 y2 y3 y4 y5 y6 y7 y8 y9) (impl_indifferent.l2 (k + 1) y0 y1 y2 y3 y4 y5 y6 y7 y8 y9))
  | 0 => ⟨fun _ _ _ _ r h => by simp [impl_indifferent.l0] at h, fun _ _ _ _ _ _ _ r h => by simp [impl_indifferent.l1] at h, fun _ _ _ _ _ _ _ _ _ _ r h => by simp [impl_indifferent.l2] at h⟩
  | k + 1 => by
    obtain ⟨ih0, ih1, ih2⟩ := impl_indifferent.mono_l k; refine ⟨?_, ?_, ?_⟩
    · intro y0 y1 y2 y3
      unfold impl_indifferent.l0
      repeat' first | (with_reducible first | exact ih0 _ _ _ _ | exact ih1 _ _ _ _ _ _ _ | exact ih2 _ _ _ _ _ _ _ _ _ _ | exact LeO.refl _ | exact LeO.none _ | refine LeO.ite ?_ ?_ | refine LeO.bind ?_ (fun _ => ?_)) | exact ih0 _ _ _ _ | exact ih1 _ _ _ _ _ _ _ | exact ih2 _ _ _ _ _ _ _ _ _ _ | exact LeO.none _ | refine LeO.ite ?_ ?_ | refine LeO.bind ?_ (fun _ => ?_)
    · intro y0 y1 y2 y3 y4 y5 y6
      unfold impl_indifferent.l1
      repeat' first | (with_reducible first | exact ih0 _ _ _ _ | exact ih1 _ _ _ _ _ _ _ | exact ih2 _ _ _ _ _ _ _ _ _ _ | exact LeO.refl _ | exact LeO.none _ | refine LeO.ite ?_ ?_ | refine LeO.bind ?_ (fun _ => ?_)) | exact ih0 _ _ _ _ | exact ih1 _ _ _ _ _ _ _ | exact ih2 _ _ _ _ _ _ _ _ _ _ | exact LeO.none _ | refine LeO.ite ?_ ?_ | refine LeO.bind ?_ (fun _ => ?_)
    · intro y0 y1 y2 y3 y4 y5 y6 y7 y8 y9
      unfold impl_indifferent.l2
      repeat' first | (with_reducible first | exact ih0 _ _ _ _ | exact ih1 _ _ _ _ _ _ _ | exact ih2 _ _ _ _ _ _ _ _ _ _ | exact LeO.refl _ | exact LeO.none _ | refine LeO.ite ?_ ?_ | refine LeO.bind ?_ (fun _ => ?_)) | exact ih0 _ _ _ _ | exact ih1 _ _ _ _ _ _ _ | exact ih2 _ _ _ _ _ _ _ _ _ _ | exact LeO.none _ | refine LeO.ite ?_ ?_ | refine LeO.bind ?_ (fun _ => ?_)
theorem impl_indifferent.mono : ∀ a0 a1 k, LeO (impl_indifferent.f k a0 a1) (impl_indifferent.f (k + 1) a0 a1) := by
  intro a0 a1 k; obtain ⟨ih0, ih1, ih2⟩ := impl_indifferent.mono_l k
  unfold impl_indifferent.f
  repeat' first
      | (with_reducible exact ih0 _ _ _ _)
      | (with_reducible exact ih1 _ _ _ _ _ _ _)
      | (with_reducible exact ih2 _ _ _ _ _ _ _ _ _ _)
      | (with_reducible exact LeO.refl _)
      | (with_reducible exact LeO.none _)
      | (with_reducible refine LeO.ite ?_ ?_)
      | (with_reducible refine LeO.bind ?_ (fun _ => ?_))
      | exact ih0 _ _ _ _
      | exact ih1 _ _ _ _ _ _ _
      | exact ih2 _ _ _ _ _ _ _ _ _ _
      | exact LeO.none _
      | refine LeO.ite ?_ ?_
      | refine LeO.bind ?_ (fun _ => ?_)
set_option maxHeartbeats 8000000 in
set_option maxRecDepth 100000 in
theorem impl_indifferent.calls (k : Nat) (a0 : Int) (A1 : Option Addr) (c1 : Nat) (l1 : List Int) (r : Bool) (w : World) (hr1 : Kd.C (Kd.int .i64) w A1 l1.length l1) (hc1 : l1.length ≤ c1) (h : impl_indifferent.f k a0 l1 = some r) :
    Calls Try.prog 91 #[.int .i64 a0, .slice A1 l1.length c1] w fun e w' => e = .returned (.bool r) ∧ Below w.heap.size w w' := by
  have HR1 := ak hr1; have HC1 := ak hc1; clear hr1 hc1; have HB := ak (Below.refl w.heap.size w); have H : (impl_indifferent.l0 k a0 0 a0 l1) = some r := h; clear h; have H' := ak H; clear H
  go_enter Try.func91, Try.ntmps91
  go_wp2_with (first | ((with_reducible refine gate_dst (N := 2) rfl ?_); refine bxe_ (N := 2) (cs := #[.int .i64 a0]) (t := 3) ?_; intro gb244 hg w3 hbox hb; have BK244 := ak (hbox); have GW244 := ak (lg_ hg (bl_ HB.out)); have GE244 := ak (lg_ hg (bl_ HB.out)); replace HB := ak (below_step (bl_ HB.out) hb); clear hb hbox hg) | ((with_reducible refine gate_dst (N := 3) rfl ?_); refine bxe_ (N := 3) (cs := #[.slice A1 l1.length c1]) (t := 75) ?_; intro gb245 hg w4 hbox hb; have BK245 := ak (hbox); have GW245 := ak (lg_ hg (bs1_ HB.out GE244.out)); have GE245 := ak (lg_ hg (bs1_ HB.out GE244.out)); replace HB := ak (below_step (bs1_ HB.out GE244.out) hb); have NB244_245 := ak (nl_ hg (bk_ BK244.out)); have NB245_244 := ak (ng_ hg (bk_ BK244.out)); replace BK244 := ak (blk_below (bk_ BK244.out) hb); clear hb hbox hg; have hnb5 := NB244_245.out; have hnc5 := NB245_244.out; have hcz6_0 := bc_ BK244.out 0; have hfz6_0 := blk_frozen BK244.out 0))
  go_loopg [11] k (fun kq v11 w' => ∃ (x11_1 : Int), v11 = .int .i64 x11_1 ∧ Aside0 (impl_indifferent.l0 kq a0 x11_1 a0 l1 = some r) ∧ Aside0 (kq ≤ k) ∧ Aside0 (w'.heap[gb244]? = some (.cells #[.int .i64 a0] 3 (0, 0))) ∧ Aside0 (w'.heap[gb245]? = some (.cells #[(.slice A1 l1.length c1)] 75 (0, 0))) ∧ Aside0 (Below w.heap.size w w'))
  case atStart => exact ⟨(0), (by first | rfl | (simp; done) | (simp [*]; done)), H', ⟨Nat.le_refl _⟩, ⟨bk_ BK244.out⟩, ⟨bk_ BK245.out⟩, ⟨bs2_ HB.out GE244.out GE245.out⟩⟩
  case round =>
    clear H'; (try clear c1); (try clear p2); (try clear c5); (try clear hcz6_0 hfz6_0); obtain ⟨x11_1, rfl, HA, HK1, BK244, BK245, HB⟩ := hrel
    cases gk with
    | zero => exact absurd HA.out (by simp [impl_indifferent.l0])
    | succ k1 =>
      have H := HA.out; clear HA
      simp only [impl_indifferent.l0] at H
      by_cases c7 : x11_1 < a0
      · rw [if_pos c7] at H; have c7b0 := decide_eq_true c7; clear c7; have H' := ak H; clear H; have hnb8 := NB244_245.out; have hnc8 := NB245_244.out; have hcz9_0 := bc_ BK244.out 0; have hfz9_0 := blk_frozen BK244.out 0
        go_wp2
        go_loopg [15] k1 (fun kq v15 w' => ∃ (x15_2 : Int), v15 = .int .i64 x15_2 ∧ Aside0 (impl_indifferent.l1 kq x11_1 a0 x11_1 a0 x15_2 a0 l1 = some r) ∧ Aside0 (kq ≤ k1) ∧ Aside0 (w'.heap[gb244]? = some (.cells #[.int .i64 a0] 3 (0, 0))) ∧ Aside0 (w'.heap[gb245]? = some (.cells #[(.slice A1 l1.length c1)] 75 (0, 0))) ∧ Aside0 (Below w.heap.size w w'))
        case atStart => exact ⟨(0), (by first | rfl | (simp; done) | (simp [*]; done)), H', ⟨Nat.le_refl _⟩, ⟨bk_ BK244.out⟩, ⟨bk_ BK245.out⟩, ⟨bs2_ HB.out GE244.out GE245.out⟩⟩
        case round =>
          clear H'; (try clear c1); (try clear p2); (try clear c5); (try clear c7); (try clear c7b0); (try clear c8); (try clear c9); (try clear hcz6_0); (try clear hcz9_0); (try clear hfz6_0); (try clear hfz9_0); (try clear p2); obtain ⟨x15_2, rfl, HA, HK2, BK244, BK245, HB⟩ := hrel
          cases gk with
          | zero => exact absurd HA.out (by simp [impl_indifferent.l1])
          | succ k2 =>
            have H := HA.out; clear HA
            simp only [impl_indifferent.l1] at H
            by_cases c10 : x15_2 < a0
            · rw [if_pos c10] at H; have c10b0 := decide_eq_true c10; clear c10; have H' := ak H; clear H; have hnb11 := NB244_245.out; have hnc11 := NB245_244.out; have hcz12_0 := bc_ BK244.out 0; have hfz12_0 := blk_frozen BK244.out 0
              go_wp2
              go_loopg [19] k2 (fun kq v19 w' => ∃ (x19_3 : Int), v19 = .int .i64 x19_3 ∧ Aside0 (impl_indifferent.l2 kq x11_1 x15_2 a0 x11_1 a0 x15_2 a0 x19_3 a0 l1 = some r) ∧ Aside0 (kq ≤ k2) ∧ Aside0 (w'.heap[gb244]? = some (.cells #[.int .i64 a0] 3 (0, 0))) ∧ Aside0 (w'.heap[gb245]? = some (.cells #[(.slice A1 l1.length c1)] 75 (0, 0))) ∧ Aside0 (Below w.heap.size w w'))
              case atStart => exact ⟨(0), (by first | rfl | (simp; done) | (simp [*]; done)), H', ⟨Nat.le_refl _⟩, ⟨bk_ BK244.out⟩, ⟨bk_ BK245.out⟩, ⟨bs2_ HB.out GE244.out GE245.out⟩⟩
              case round =>
                clear H'; (try clear c1); (try clear p2); (try clear c5); (try clear c7); (try clear c7b0); (try clear c8); (try clear c9); (try clear c10); (try clear c10b0); (try clear c11); (try clear hcz12_0); (try clear hcz6_0); (try clear hcz9_0); (try clear hfz12_0); (try clear hfz6_0); (try clear hfz9_0); (try clear p2); obtain ⟨x19_3, rfl, HA, HK3, BK244, BK245, HB⟩ := hrel
                cases gk with
                | zero => exact absurd HA.out (by simp [impl_indifferent.l2])
                | succ k3 =>
                  have H := HA.out; clear HA
                  simp only [impl_indifferent.l2] at H
                  by_cases c13 : x19_3 < a0
                  · rw [if_pos c13] at H; have c13b0 := decide_eq_true c13; clear c13; replace H := Option.bind_eq_some_iff.mp H; obtain ⟨t246, A140, H⟩ := H; have A14 := ak A140; clear A140; replace H := Option.bind_eq_some_iff.mp H; obtain ⟨t247, A150, H⟩ := H; have A15 := ak A150; clear A150
                    by_cases c16 : t246 = t247
                    · rw [if_pos c16] at H; have c16b0 : (t246 == t247) = true := beq_iff_eq.mpr c16; have c16b1 : (t246 != t247) = false := bne_eq_false_iff_eq.mpr c16; clear c16; replace H := Option.bind_eq_some_iff.mp H; obtain ⟨t248, A170, H⟩ := H; have A17 := ak A170; clear A170; replace H := Option.bind_eq_some_iff.mp H; obtain ⟨t249, A180, H⟩ := H; have A18 := ak A180; clear A180; replace H := Option.bind_eq_some_iff.mp H; obtain ⟨t250, A190, H⟩ := H; have A19 := ak A190; clear A190; replace H := Option.bind_eq_some_iff.mp H; obtain ⟨t251, A200, H⟩ := H; have A20 := ak A200; clear A200
                      by_cases c21 : t249 = t251
                      · rw [if_pos c21] at H; have c21b0 : (t249 == t251) = true := beq_iff_eq.mpr c21; have c21b1 : (t249 != t251) = false := bne_eq_false_iff_eq.mpr c21; clear c21; have H' := ak H; clear H
                        go_wp2_with (first | ((with_reducible refine Go.Proofs.Ytcboagkbcoihjaa.XOpens.gate_calleeV (t := 22) rfl ?_); refine Go.Proofs.Ytcboagkbcoihjaa.XOpens.goesV_ (some 25) rfl rfl Try.func147 (by kernel_rfl) rfl #[.int .i64 x11_1, .int .i64 x15_2, .pointer (some ⟨gb245, 0, none⟩), .pointer (some ⟨gb244, 0, none⟩)] rfl rfl (by (try simp only [List.map_toArray, List.map_cons, List.map_nil]); first | done | rfl | (simp only [List.length_drop, List.length_take]; rfl)) ?_; (with_reducible refine (impl_indifferent_1.calls x11_1 x15_2 gb245 A1 c1 l1 gb244 a0 t246 _ ?side1 ?side2 ?side3 ?side4 ?side5 A14.out).mono ?_); (case side1 => exact (bk_ BK245.out)); (case side2 => exact cb_ HR1.out HB.out); (case side3 => exact HC1.out); (case side4 => exact (bk_ BK244.out)); (case side5 => exact NB245_244.out); rintro e w' ⟨rfl, ⟨nd, rfl⟩⟩; refine ⟨_, rfl, ?_⟩) | ((with_reducible refine Go.Proofs.Ytcboagkbcoihjaa.XOpens.gate_calleeV (t := 26) rfl ?_); refine Go.Proofs.Ytcboagkbcoihjaa.XOpens.goesV_ (some 29) rfl rfl Try.func147 (by kernel_rfl) rfl #[.int .i64 x15_2, .int .i64 x11_1, .pointer (some ⟨gb245, 0, none⟩), .pointer (some ⟨gb244, 0, none⟩)] rfl rfl (by (try simp only [List.map_toArray, List.map_cons, List.map_nil]); first | done | rfl | (simp only [List.length_drop, List.length_take]; rfl)) ?_; (with_reducible refine (impl_indifferent_1.calls x15_2 x11_1 gb245 A1 c1 l1 gb244 a0 t247 _ ?side1 ?side2 ?side3 ?side4 ?side5 A15.out).mono ?_); (case side1 => exact (bk_ BK245.out)); (case side2 => exact ca_ (Kd.C_below HR1.out (bs2_ HB.out GE244.out GE245.out))); (case side3 => exact HC1.out); (case side4 => exact (bk_ BK244.out)); (case side5 => exact NB245_244.out); rintro e w' ⟨rfl, ⟨nd, rfl⟩⟩; refine ⟨_, rfl, ?_⟩) | (go_at_call 147; (with_reducible refine (impl_indifferent_1.calls x11_1 x15_2 gb245 A1 c1 l1 gb244 a0 t248 _ ?side1 ?side2 ?side3 ?side4 ?side5 A17.out).mono ?_); (case side1 => exact (bk_ BK245.out)); (case side2 => exact ca_ (Kd.C_below HR1.out (bs2_ HB.out GE244.out GE245.out))); (case side3 => exact HC1.out); (case side4 => exact (bk_ BK244.out)); (case side5 => exact NB245_244.out); rintro e w' ⟨rfl, ⟨nd, rfl⟩⟩) | (go_at_call 147; (with_reducible refine (impl_indifferent_1.calls t248 x19_3 gb245 A1 c1 l1 gb244 a0 t249 _ ?side1 ?side2 ?side3 ?side4 ?side5 A18.out).mono ?_); (case side1 => exact (bk_ BK245.out)); (case side2 => exact ca_ (Kd.C_below HR1.out (bs2_ HB.out GE244.out GE245.out))); (case side3 => exact HC1.out); (case side4 => exact (bk_ BK244.out)); (case side5 => exact NB245_244.out); rintro e w' ⟨rfl, ⟨nd, rfl⟩⟩) | (go_at_call 147; (with_reducible refine (impl_indifferent_1.calls x15_2 x19_3 gb245 A1 c1 l1 gb244 a0 t250 _ ?side1 ?side2 ?side3 ?side4 ?side5 A19.out).mono ?_); (case side1 => exact (bk_ BK245.out)); (case side2 => exact ca_ (Kd.C_below HR1.out (bs2_ HB.out GE244.out GE245.out))); (case side3 => exact HC1.out); (case side4 => exact (bk_ BK244.out)); (case side5 => exact NB245_244.out); rintro e w' ⟨rfl, ⟨nd, rfl⟩⟩) | (go_at_call 147; (with_reducible refine (impl_indifferent_1.calls x11_1 t250 gb245 A1 c1 l1 gb244 a0 t251 _ ?side1 ?side2 ?side3 ?side4 ?side5 A20.out).mono ?_); (case side1 => exact (bk_ BK245.out)); (case side2 => exact ca_ (Kd.C_below HR1.out (bs2_ HB.out GE244.out GE245.out))); (case side3 => exact HC1.out); (case side4 => exact (bk_ BK244.out)); (case side5 => exact NB245_244.out); rintro e w' ⟨rfl, ⟨nd, rfl⟩⟩))
                        go_roundg k3
                        case measure => have := HK1.out; have := HK2.out; have := HK3.out; omega
                        case rel => exact ⟨(wrap64 (x19_3 + 1)), (by first | rfl | (simp; done) | (simp [*]; done)), H', ⟨by have := HK1.out; have := HK2.out; have := HK3.out; omega⟩, ⟨bk_ BK244.out⟩, ⟨bk_ BK245.out⟩, ⟨bs2_ HB.out GE244.out GE245.out⟩⟩
                      rw [if_neg c21] at H; have c21b0 : (t249 == t251) = false := beq_eq_false_iff_ne.mpr c21; have c21b1 : (t249 != t251) = true := bne_iff_ne.mpr c21; obtain rfl := Option.some.inj H
                      go_wp2_with (first | ((with_reducible refine Go.Proofs.Ytcboagkbcoihjaa.XOpens.gate_calleeV (t := 22) rfl ?_); refine Go.Proofs.Ytcboagkbcoihjaa.XOpens.goesV_ (some 25) rfl rfl Try.func147 (by kernel_rfl) rfl #[.int .i64 x11_1, .int .i64 x15_2, .pointer (some ⟨gb245, 0, none⟩), .pointer (some ⟨gb244, 0, none⟩)] rfl rfl (by (try simp only [List.map_toArray, List.map_cons, List.map_nil]); first | done | rfl | (simp only [List.length_drop, List.length_take]; rfl)) ?_; (with_reducible refine (impl_indifferent_1.calls x11_1 x15_2 gb245 A1 c1 l1 gb244 a0 t246 _ ?side1 ?side2 ?side3 ?side4 ?side5 A14.out).mono ?_); (case side1 => exact (bk_ BK245.out)); (case side2 => exact cb_ HR1.out HB.out); (case side3 => exact HC1.out); (case side4 => exact (bk_ BK244.out)); (case side5 => exact NB245_244.out); rintro e w' ⟨rfl, ⟨nd, rfl⟩⟩; refine ⟨_, rfl, ?_⟩) | ((with_reducible refine Go.Proofs.Ytcboagkbcoihjaa.XOpens.gate_calleeV (t := 26) rfl ?_); refine Go.Proofs.Ytcboagkbcoihjaa.XOpens.goesV_ (some 29) rfl rfl Try.func147 (by kernel_rfl) rfl #[.int .i64 x15_2, .int .i64 x11_1, .pointer (some ⟨gb245, 0, none⟩), .pointer (some ⟨gb244, 0, none⟩)] rfl rfl (by (try simp only [List.map_toArray, List.map_cons, List.map_nil]); first | done | rfl | (simp only [List.length_drop, List.length_take]; rfl)) ?_; (with_reducible refine (impl_indifferent_1.calls x15_2 x11_1 gb245 A1 c1 l1 gb244 a0 t247 _ ?side1 ?side2 ?side3 ?side4 ?side5 A15.out).mono ?_); (case side1 => exact (bk_ BK245.out)); (case side2 => exact ca_ (Kd.C_below HR1.out (bs2_ HB.out GE244.out GE245.out))); (case side3 => exact HC1.out); (case side4 => exact (bk_ BK244.out)); (case side5 => exact NB245_244.out); rintro e w' ⟨rfl, ⟨nd, rfl⟩⟩; refine ⟨_, rfl, ?_⟩) | (go_at_call 147; (with_reducible refine (impl_indifferent_1.calls x11_1 x15_2 gb245 A1 c1 l1 gb244 a0 t248 _ ?side1 ?side2 ?side3 ?side4 ?side5 A17.out).mono ?_); (case side1 => exact (bk_ BK245.out)); (case side2 => exact ca_ (Kd.C_below HR1.out (bs2_ HB.out GE244.out GE245.out))); (case side3 => exact HC1.out); (case side4 => exact (bk_ BK244.out)); (case side5 => exact NB245_244.out); rintro e w' ⟨rfl, ⟨nd, rfl⟩⟩) | (go_at_call 147; (with_reducible refine (impl_indifferent_1.calls t248 x19_3 gb245 A1 c1 l1 gb244 a0 t249 _ ?side1 ?side2 ?side3 ?side4 ?side5 A18.out).mono ?_); (case side1 => exact (bk_ BK245.out)); (case side2 => exact ca_ (Kd.C_below HR1.out (bs2_ HB.out GE244.out GE245.out))); (case side3 => exact HC1.out); (case side4 => exact (bk_ BK244.out)); (case side5 => exact NB245_244.out); rintro e w' ⟨rfl, ⟨nd, rfl⟩⟩) | (go_at_call 147; (with_reducible refine (impl_indifferent_1.calls x15_2 x19_3 gb245 A1 c1 l1 gb244 a0 t250 _ ?side1 ?side2 ?side3 ?side4 ?side5 A19.out).mono ?_); (case side1 => exact (bk_ BK245.out)); (case side2 => exact ca_ (Kd.C_below HR1.out (bs2_ HB.out GE244.out GE245.out))); (case side3 => exact HC1.out); (case side4 => exact (bk_ BK244.out)); (case side5 => exact NB245_244.out); rintro e w' ⟨rfl, ⟨nd, rfl⟩⟩) | (go_at_call 147; (with_reducible refine (impl_indifferent_1.calls x11_1 t250 gb245 A1 c1 l1 gb244 a0 t251 _ ?side1 ?side2 ?side3 ?side4 ?side5 A20.out).mono ?_); (case side1 => exact (bk_ BK245.out)); (case side2 => exact ca_ (Kd.C_below HR1.out (bs2_ HB.out GE244.out GE245.out))); (case side3 => exact HC1.out); (case side4 => exact (bk_ BK244.out)); (case side5 => exact NB245_244.out); rintro e w' ⟨rfl, ⟨nd, rfl⟩⟩))
                      go_ret
                      exact fin_ (bs2_ HB.out GE244.out GE245.out)
                    rw [if_neg c16] at H; have c16b0 : (t246 == t247) = false := beq_eq_false_iff_ne.mpr c16; have c16b1 : (t246 != t247) = true := bne_iff_ne.mpr c16; obtain rfl := Option.some.inj H
                    go_wp2_with (first | ((with_reducible refine Go.Proofs.Ytcboagkbcoihjaa.XOpens.gate_calleeV (t := 22) rfl ?_); refine Go.Proofs.Ytcboagkbcoihjaa.XOpens.goesV_ (some 25) rfl rfl Try.func147 (by kernel_rfl) rfl #[.int .i64 x11_1, .int .i64 x15_2, .pointer (some ⟨gb245, 0, none⟩), .pointer (some ⟨gb244, 0, none⟩)] rfl rfl (by (try simp only [List.map_toArray, List.map_cons, List.map_nil]); first | done | rfl | (simp only [List.length_drop, List.length_take]; rfl)) ?_; (with_reducible refine (impl_indifferent_1.calls x11_1 x15_2 gb245 A1 c1 l1 gb244 a0 t246 _ ?side1 ?side2 ?side3 ?side4 ?side5 A14.out).mono ?_); (case side1 => exact (bk_ BK245.out)); (case side2 => exact cb_ HR1.out HB.out); (case side3 => exact HC1.out); (case side4 => exact (bk_ BK244.out)); (case side5 => exact NB245_244.out); rintro e w' ⟨rfl, ⟨nd, rfl⟩⟩; refine ⟨_, rfl, ?_⟩) | ((with_reducible refine Go.Proofs.Ytcboagkbcoihjaa.XOpens.gate_calleeV (t := 26) rfl ?_); refine Go.Proofs.Ytcboagkbcoihjaa.XOpens.goesV_ (some 29) rfl rfl Try.func147 (by kernel_rfl) rfl #[.int .i64 x15_2, .int .i64 x11_1, .pointer (some ⟨gb245, 0, none⟩), .pointer (some ⟨gb244, 0, none⟩)] rfl rfl (by (try simp only [List.map_toArray, List.map_cons, List.map_nil]); first | done | rfl | (simp only [List.length_drop, List.length_take]; rfl)) ?_; (with_reducible refine (impl_indifferent_1.calls x15_2 x11_1 gb245 A1 c1 l1 gb244 a0 t247 _ ?side1 ?side2 ?side3 ?side4 ?side5 A15.out).mono ?_); (case side1 => exact (bk_ BK245.out)); (case side2 => exact ca_ (Kd.C_below HR1.out (bs2_ HB.out GE244.out GE245.out))); (case side3 => exact HC1.out); (case side4 => exact (bk_ BK244.out)); (case side5 => exact NB245_244.out); rintro e w' ⟨rfl, ⟨nd, rfl⟩⟩; refine ⟨_, rfl, ?_⟩))
                    go_ret
                    exact fin_ (bs2_ HB.out GE244.out GE245.out)
                  rw [if_neg c13] at H; have c13b0 := decide_eq_false c13; clear c13; have H' := ak H; clear H
                  go_wp2
                  go_roundg k3
                  case measure => have := HK1.out; have := HK2.out; have := HK3.out; omega
                  case rel => exact ⟨(wrap64 (x15_2 + 1)), (by first | rfl | (simp; done) | (simp [*]; done)), H', ⟨by have := HK1.out; have := HK2.out; have := HK3.out; omega⟩, ⟨bk_ BK244.out⟩, ⟨bk_ BK245.out⟩, ⟨bs2_ HB.out GE244.out GE245.out⟩⟩
            rw [if_neg c10] at H; have c10b0 := decide_eq_false c10; clear c10; have H' := ak H; clear H
            go_wp2
            go_roundg k2
            case measure => have := HK1.out; have := HK2.out; omega
            case rel => exact ⟨(wrap64 (x11_1 + 1)), (by first | rfl | (simp; done) | (simp [*]; done)), H', ⟨by have := HK1.out; have := HK2.out; omega⟩, ⟨bk_ BK244.out⟩, ⟨bk_ BK245.out⟩, ⟨bs2_ HB.out GE244.out GE245.out⟩⟩
      rw [if_neg c7] at H; have c7b0 := decide_eq_false c7; clear c7; obtain rfl := Option.some.inj H
      go_wp2
      go_ret
      exact fin_ (bs2_ HB.out GE244.out GE245.out)

/-! ### slices_IndexFunc_int_int__with_impl_WorldOk_1: function 194 -/
def slices_IndexFunc_int_int__with_impl_WorldOk_1.l0 : Nat → List Int → Int → Int → Int → List (List Int) → Option (Int)
  | 0, _, _, _, _, _ => none
  | k + 1, x0, x7, x8, x3000, x3001 => if x8 < x7 then (if 0 ≤ x8 then (if x8 < (x0.length : Int) then ((impl_WorldOk_1.f (rd x0 x8) x3000 x3001).bind fun t253 => (if t253 = true then (some x8) else (slices_IndexFunc_int_int__with_impl_WorldOk_1.l0 k x0 x7 (wrap64 (x8 + 1)) x3000 x3001))) else (none)) else (none)) else (some (-1))
def slices_IndexFunc_int_int__with_impl_WorldOk_1.f (k : Nat) (l0 : List Int)  (a2_0 : Int) (l2_1 : List (List Int)) : Option (Int) := slices_IndexFunc_int_int__with_impl_WorldOk_1.l0 k l0 (l0.length : Int) 0 a2_0 l2_1
theorem slices_IndexFunc_int_int__with_impl_WorldOk_1.mono_l : ∀ k, (∀ y0 y1 y2 y3 y4, LeO (slices_IndexFunc_int_int__with_impl_WorldOk_1.l0 k y0 y1 y2 y3 y4) (slices_IndexFunc_int_int__with_impl_WorldOk_1.l0 (k + 1) y0 y1 y2 y3 y4))
  | 0 => fun _ _ _ _ _ r h => by simp [slices_IndexFunc_int_int__with_impl_WorldOk_1.l0] at h
  | k + 1 => by
    have ih0 := slices_IndexFunc_int_int__with_impl_WorldOk_1.mono_l k
    · intro y0 y1 y2 y3 y4
      unfold slices_IndexFunc_int_int__with_impl_WorldOk_1.l0
      repeat' first | (with_reducible first | exact ih0 _ _ _ _ _ | exact LeO.refl _ | exact LeO.none _ | refine LeO.ite ?_ ?_ | refine LeO.bind ?_ (fun _ => ?_)) | exact ih0 _ _ _ _ _ | exact LeO.none _ | refine LeO.ite ?_ ?_ | refine LeO.bind ?_ (fun _ => ?_)
theorem slices_IndexFunc_int_int__with_impl_WorldOk_1.mono : ∀ a0 a1 a2 k, LeO (slices_IndexFunc_int_int__with_impl_WorldOk_1.f k a0 a1 a2) (slices_IndexFunc_int_int__with_impl_WorldOk_1.f (k + 1) a0 a1 a2) := by
  intro a0 a1 a2 k; have ih0 := slices_IndexFunc_int_int__with_impl_WorldOk_1.mono_l k
  unfold slices_IndexFunc_int_int__with_impl_WorldOk_1.f
  repeat' first
      | (with_reducible exact ih0 _ _ _ _ _)
      | (with_reducible exact LeO.refl _)
      | (with_reducible exact LeO.none _)
      | (with_reducible refine LeO.ite ?_ ?_)
      | (with_reducible refine LeO.bind ?_ (fun _ => ?_))
      | exact ih0 _ _ _ _ _
      | exact LeO.none _
      | refine LeO.ite ?_ ?_
      | refine LeO.bind ?_ (fun _ => ?_)
set_option maxHeartbeats 8000000 in
set_option maxRecDepth 100000 in
theorem slices_IndexFunc_int_int__with_impl_WorldOk_1.calls (k : Nat) (A0 : Option Addr) (c0 : Nat) (l0 : List Int)  (G2 : Nat) (a2_0 : Int) (A2_1 : Option Addr) (c2_1 : Nat) (l2_1 : List (List Int)) (r : Int) (w : World) (hr0 : Kd.C (Kd.int .i64) w A0 l0.length l0) (hc0 : l0.length ≤ c0) (hG2 : w.heap[G2]? = some (.cells #[.int .i64 a2_0, .slice A2_1 l2_1.length c2_1] 51 (0, 0))) (hr2_1 : Kd.C (Kd.slice 3 (Kd.int .i64)) w A2_1 l2_1.length l2_1) (hc2_1 : l2_1.length ≤ c2_1) (h : slices_IndexFunc_int_int__with_impl_WorldOk_1.f k l0 a2_0 l2_1 = some r) :
    Calls Try.prog 146 #[.slice A0 l0.length c0, .func (.func 90) #[] #[.pointer (some ⟨G2, 0, none⟩)]] w fun e w' => e = .returned (.int .i64 r) ∧ Drawn0 w w' := by
  have HR0 := ak hr0; have HC0 := ak hc0; clear hr0 hc0; have HR2_1 := ak hr2_1; have HC2_1 := ak hc2_1; clear hr2_1 hc2_1; have BK2 := ak hG2; clear hG2; have H : (slices_IndexFunc_int_int__with_impl_WorldOk_1.l0 k l0 (l0.length : Int) 0 a2_0 l2_1) = some r := h; clear h; have H' := ak H; clear H
  go_enter Try.func146, Try.ntmps146
  go_wp2
  go_loopg [8] k (fun kq v8 w' => ∃ (x8_1 : Int), v8 = .int .i64 x8_1 ∧ Aside0 (slices_IndexFunc_int_int__with_impl_WorldOk_1.l0 kq l0 (l0.length : Int) x8_1 a2_0 l2_1 = some r) ∧ Aside0 (kq ≤ k) ∧ Aside0 (w'.heap[G2]? = some (.cells #[.int .i64 a2_0, (.slice A2_1 l2_1.length c2_1)] 51 (0, 0))) ∧ Drawn0 w w')
  case atStart => exact ⟨(0), (by first | rfl | (simp; done) | (simp [*]; done)), H', ⟨Nat.le_refl _⟩, ⟨bk_ BK2.out⟩, by repeat (first | exact Drawn0.refl _ | apply Drawn0.step)⟩
  case round =>
    clear H'; (try clear c1); (try clear c2); (try clear p2); obtain ⟨x8_1, rfl, HA, HK1, BK2, ⟨m1, rfl⟩⟩ := hrel
    cases gk with
    | zero => exact absurd HA.out (by simp [slices_IndexFunc_int_int__with_impl_WorldOk_1.l0])
    | succ k1 =>
      have H := HA.out; clear HA
      simp only [slices_IndexFunc_int_int__with_impl_WorldOk_1.l0] at H
      by_cases c4 : x8_1 < (l0.length : Int)
      · rw [if_pos c4] at H; have c4b0 := decide_eq_true c4; clear c4
        by_cases c5 : 0 ≤ x8_1
        · rw [if_pos c5] at H; have c5b0 := decide_eq_true c5; clear c5
          by_cases c6 : x8_1 < (l0.length : Int)
          · rw [if_pos c6] at H; have c6b0 := decide_eq_true c6; clear c6; replace H := Option.bind_eq_some_iff.mp H; obtain ⟨t253, A70, H⟩ := H; have A7 := ak A70; clear A70
            by_cases c8 : t253 = true
            · subst c8; rw [if_pos rfl] at H; obtain rfl := Option.some.inj H; have p252 : 0 ≤ (x8_1 : Int) := as_; have q252 : x8_1 < (l0.length : Int) := as_; obtain ⟨ad252, e252, hx252_0⟩ := Kd.at_int HR0.out x8_1 p252 q252
              cases e252
              replace p252 := eq_true p252; replace q252 := eq_true q252
              go_wp2_with (first | ((with_reducible refine Go.Proofs.Ytcboagkbcoihjaa.XOpens.gate_calleeV (t := 11) rfl ?_); refine Go.Proofs.Ytcboagkbcoihjaa.XOpens.goesV_ (some 16) rfl rfl Try.func90 (by kernel_rfl) rfl #[.int .i64 (rd l0 x8_1), .pointer (some ⟨G2, 0, none⟩)] rfl rfl (by (try simp only [List.map_toArray, List.map_cons, List.map_nil]); first | done | rfl | (simp only [List.length_drop, List.length_take]; rfl)) ?_; (with_reducible refine (impl_WorldOk_1.calls (rd l0 x8_1) G2 a2_0 A2_1 c2_1 l2_1 true _ ?side1 ?side2 ?side3 A7.out).mono ?_); (case side1 => exact (bk_ BK2.out)); (case side2 => exact ca_ HR2_1.out); (case side3 => exact HC2_1.out); rintro e w' ⟨rfl, ⟨nd, rfl⟩⟩; refine ⟨_, rfl, ?_⟩))
              go_ret
              exact ⟨by first | rfl | (simp; done) | (simp [*]; done), by repeat (first | exact Drawn0.refl _ | apply Drawn0.step)⟩
            replace c8 := Bool.eq_false_iff.mpr c8; subst c8; rw [if_neg (show ¬ (false = true) by decide)] at H; have H' := ak H; clear H; have p252 : 0 ≤ (x8_1 : Int) := as_; have q252 : x8_1 < (l0.length : Int) := as_; obtain ⟨ad252, e252, hx252_0⟩ := Kd.at_int HR0.out x8_1 p252 q252
            cases e252
            replace p252 := eq_true p252; replace q252 := eq_true q252
            go_wp2_with (first | ((with_reducible refine Go.Proofs.Ytcboagkbcoihjaa.XOpens.gate_calleeV (t := 11) rfl ?_); refine Go.Proofs.Ytcboagkbcoihjaa.XOpens.goesV_ (some 16) rfl rfl Try.func90 (by kernel_rfl) rfl #[.int .i64 (rd l0 x8_1), .pointer (some ⟨G2, 0, none⟩)] rfl rfl (by (try simp only [List.map_toArray, List.map_cons, List.map_nil]); first | done | rfl | (simp only [List.length_drop, List.length_take]; rfl)) ?_; (with_reducible refine (impl_WorldOk_1.calls (rd l0 x8_1) G2 a2_0 A2_1 c2_1 l2_1 false _ ?side1 ?side2 ?side3 A7.out).mono ?_); (case side1 => exact (bk_ BK2.out)); (case side2 => exact ca_ HR2_1.out); (case side3 => exact HC2_1.out); rintro e w' ⟨rfl, ⟨nd, rfl⟩⟩; refine ⟨_, rfl, ?_⟩))
            go_roundg k1
            case measure => have := HK1.out; omega
            case rel => exact ⟨(wrap64 (x8_1 + 1)), (by first | rfl | (simp; done) | (simp [*]; done)), H', ⟨by have := HK1.out; omega⟩, ⟨bk_ BK2.out⟩, by repeat (first | exact Drawn0.refl _ | apply Drawn0.step)⟩
          rw [if_neg c6] at H; exact absurd H (by simp)
        rw [if_neg c5] at H; exact absurd H (by simp)
      rw [if_neg c4] at H; have c4b0 := decide_eq_false c4; clear c4; obtain rfl := Option.some.inj H
      go_wp2
      go_ret
      exact ⟨by first | rfl | (simp; done) | (simp [*]; done), by repeat (first | exact Drawn0.refl _ | apply Drawn0.step)⟩

/-! ### slices_ContainsFunc_int_int__with_impl_WorldOk_1: function 193 -/
def slices_ContainsFunc_int_int__with_impl_WorldOk_1.f (k : Nat) (l0 : List Int)  (a2_0 : Int) (l2_1 : List (List Int)) : Option (Bool) := (slices_IndexFunc_int_int__with_impl_WorldOk_1.f k l0 a2_0 l2_1).bind fun t254 => (some (decide (t254 ≥ 0)))
theorem slices_ContainsFunc_int_int__with_impl_WorldOk_1.mono : ∀ a0 a1 a2 k, LeO (slices_ContainsFunc_int_int__with_impl_WorldOk_1.f k a0 a1 a2) (slices_ContainsFunc_int_int__with_impl_WorldOk_1.f (k + 1) a0 a1 a2) := by
  intro a0 a1 a2 k
  unfold slices_ContainsFunc_int_int__with_impl_WorldOk_1.f
  repeat' first
      | (with_reducible exact slices_IndexFunc_int_int__with_impl_WorldOk_1.mono _ _ _ _)
      | (with_reducible exact LeO.refl _)
      | (with_reducible exact LeO.none _)
      | (with_reducible refine LeO.ite ?_ ?_)
      | (with_reducible refine LeO.bind ?_ (fun _ => ?_))
      | exact slices_IndexFunc_int_int__with_impl_WorldOk_1.mono _ _ _ _
      | exact LeO.none _
      | refine LeO.ite ?_ ?_
      | refine LeO.bind ?_ (fun _ => ?_)
set_option maxHeartbeats 8000000 in
set_option maxRecDepth 100000 in
theorem slices_ContainsFunc_int_int__with_impl_WorldOk_1.calls (k : Nat) (A0 : Option Addr) (c0 : Nat) (l0 : List Int)  (G2 : Nat) (a2_0 : Int) (A2_1 : Option Addr) (c2_1 : Nat) (l2_1 : List (List Int)) (r : Bool) (w : World) (hr0 : Kd.C (Kd.int .i64) w A0 l0.length l0) (hc0 : l0.length ≤ c0) (hG2 : w.heap[G2]? = some (.cells #[.int .i64 a2_0, .slice A2_1 l2_1.length c2_1] 51 (0, 0))) (hr2_1 : Kd.C (Kd.slice 3 (Kd.int .i64)) w A2_1 l2_1.length l2_1) (hc2_1 : l2_1.length ≤ c2_1) (h : slices_ContainsFunc_int_int__with_impl_WorldOk_1.f k l0 a2_0 l2_1 = some r) :
    Calls Try.prog 89 #[.slice A0 l0.length c0, .func (.func 90) #[] #[.pointer (some ⟨G2, 0, none⟩)]] w fun e w' => e = .returned (.bool r) ∧ Drawn0 w w' := by
  have HR0 := ak hr0; have HC0 := ak hc0; clear hr0 hc0; have HR2_1 := ak hr2_1; have HC2_1 := ak hc2_1; clear hr2_1 hc2_1; have BK2 := ak hG2; clear hG2; have H : ((slices_IndexFunc_int_int__with_impl_WorldOk_1.f k l0 a2_0 l2_1).bind fun t254 => (some (decide (t254 ≥ 0)))) = some r := h; clear h; replace H := Option.bind_eq_some_iff.mp H; obtain ⟨t254, A40, H⟩ := H; have A4 := ak A40; clear A40; obtain rfl := Option.some.inj H
  go_enter Try.func89, Try.ntmps89
  go_wp2_with (first | ((with_reducible refine gate_callee (f := 146) rfl ?_); refine goesM_ (some 7) rfl rfl Try.func146 (by kernel_rfl) rfl #[.slice A0 l0.length c0, .func (.func 90) #[] #[.pointer (some ⟨G2, 0, none⟩)]] rfl ?_; (with_reducible refine (slices_IndexFunc_int_int__with_impl_WorldOk_1.calls k _ _ l0  G2 a2_0 A2_1 c2_1 l2_1 t254 _ ?side1 ?side2 ?side3 ?side4 ?side5 A4.out).mono ?_); (case side1 => exact ca_ HR0.out); (case side2 => exact HC0.out); (case side3 => exact (bk_ BK2.out)); (case side4 => exact ca_ HR2_1.out); (case side5 => exact HC2_1.out); rintro e w' ⟨rfl, ⟨nd, rfl⟩⟩; refine ⟨_, rfl, ?_⟩))
  go_ret
  exact ⟨by first | rfl | (simp; done) | (simp [*]; done), by repeat (first | exact Drawn0.refl _ | apply Drawn0.step)⟩

end Go.Proofs.Ytcboagkbcoihjaa.XRenamed
