-- printed by a program of this session (xprint, turned from the kit's print) for this claim
import Derived.Test.YtcboagkbcoihjaaXRenamedx0
import Derived.Test.YtcboagkbcoihjaaXRenamedx1
namespace Go.Proofs.Ytcboagkbcoihjaa.XRenamed
open Go.RowKit Go.Proofs.Ytcboagkbcoihjaa.XOpens Go.Proofs.YtcboagkbcoihjaaW.PrintWords Go.Proofs.YtcboagkbcoihjaaW.PrintLast Go.Proofs.YtcboagkbcoihjaaW.PrintMore
attribute [local go_sem] max2_int min2_int max_two min_two max_three min_three max_four min_four   -- for this text's walks alone
set_option linter.unusedVariables false
set_option linter.unusedSimpArgs false

attribute [local go_sem high] eqA99
/-! ### spec_l1In: function 79 -/
def spec_l1In.f (a0 : Int) (a1 : Int) (a2 : Int) : Option (Bool) := if a0 ≥ a1 then (some (decide (a0 ≤ a2))) else (some false)
set_option maxHeartbeats 8000000 in
set_option maxRecDepth 100000 in
theorem spec_l1In.calls (a0 : Int) (a1 : Int) (a2 : Int) (r : Bool) (w : World) (h : spec_l1In.f a0 a1 a2 = some r) :
    Calls Try.prog 79 #[.int .i64 a0, .int .i64 a1, .int .i64 a2] w fun e w' => e = .returned (.bool r) ∧ Drawn0 w w' := by
  have H : (if a0 ≥ a1 then (some (decide (a0 ≤ a2))) else (some false)) = some r := h; clear h
  by_cases c4 : a0 ≥ a1
  · rw [if_pos c4] at H; have c4b0 := decide_eq_true c4; clear c4; obtain rfl := Option.some.inj H
    go_enter Try.func79, Try.ntmps79
    go_wp2
    go_ret
    exact ⟨by first | rfl | (simp; done) | (simp [*]; done), by repeat (first | exact Drawn0.refl _ | apply Drawn0.step)⟩
  rw [if_neg c4] at H; have c4b0 := decide_eq_false c4; clear c4; obtain rfl := Option.some.inj H
  go_enter Try.func79, Try.ntmps79
  go_wp2
  go_ret
  exact ⟨by first | rfl | (simp; done) | (simp [*]; done), by repeat (first | exact Drawn0.refl _ | apply Drawn0.step)⟩

/-! ### spec_NameOk: function 140 -/
def spec_NameOk.l0 : Nat → ByteArray → Int → Option (Bool)
  | 0, _, _ => none
  | k + 1, x0, x3 => if x3 < (x0.size : Int) then (if 0 ≤ x3 then (if (bt x0 x3) ≥ 97 then (if (bt x0 x3) ≤ 122 then (spec_NameOk.l0 k x0 (wrap64 (x3 + 1))) else (if x3 > 0 then (if (bt x0 x3) ≥ 48 then (if ((bt x0 x3) ≤ 57) then (spec_NameOk.l0 k x0 (wrap64 (x3 + 1))) else (some false)) else (some false)) else (some false))) else (if x3 > 0 then (if (bt x0 x3) ≥ 48 then (if ((bt x0 x3) ≤ 57) then (spec_NameOk.l0 k x0 (wrap64 (x3 + 1))) else (some false)) else (some false)) else (some false))) else (none)) else ((spec_l1In.f (x0.size : Int) 1 8).bind fun t164 => (some t164))
def spec_NameOk.f (k : Nat) (a0 : ByteArray) : Option (Bool) := spec_NameOk.l0 k a0 0
theorem spec_NameOk.mono_l : ∀ k, (∀ y0 y1, LeO (spec_NameOk.l0 k y0 y1) (spec_NameOk.l0 (k + 1) y0 y1))
  | 0 => fun _ _ r h => by simp [spec_NameOk.l0] at h
  | k + 1 => by
    have ih0 := spec_NameOk.mono_l k
    · intro y0 y1
      unfold spec_NameOk.l0
      repeat' first | (with_reducible first | exact ih0 _ _ | exact LeO.refl _ | exact LeO.none _ | refine LeO.ite ?_ ?_ | refine LeO.bind ?_ (fun _ => ?_)) | exact ih0 _ _ | exact LeO.none _ | refine LeO.ite ?_ ?_ | refine LeO.bind ?_ (fun _ => ?_)
theorem spec_NameOk.mono : ∀ a0 k, LeO (spec_NameOk.f k a0) (spec_NameOk.f (k + 1) a0) := by
  intro a0 k; have ih0 := spec_NameOk.mono_l k
  unfold spec_NameOk.f
  repeat' first
      | (with_reducible exact ih0 _ _)
      | (with_reducible exact LeO.refl _)
      | (with_reducible exact LeO.none _)
      | (with_reducible refine LeO.ite ?_ ?_)
      | (with_reducible refine LeO.bind ?_ (fun _ => ?_))
      | exact ih0 _ _
      | exact LeO.none _
      | refine LeO.ite ?_ ?_
      | refine LeO.bind ?_ (fun _ => ?_)
set_option maxHeartbeats 8000000 in
set_option maxRecDepth 100000 in
theorem spec_NameOk.calls (k : Nat) (a0 : ByteArray) (r : Bool) (w : World) (h : spec_NameOk.f k a0 = some r) :
    Calls Try.prog 140 #[.string a0] w fun e w' => e = .returned (.bool r) ∧ Drawn0 w w' := by
  have H : (spec_NameOk.l0 k a0 0) = some r := h; clear h; have H' := ak H; clear H
  go_enter Try.func140, Try.ntmps140
  go_wp2
  go_loopg [3] k (fun kq v3 w' => ∃ (x3_1 : Int), v3 = .int .i64 x3_1 ∧ Aside0 (spec_NameOk.l0 kq a0 x3_1 = some r) ∧ Aside0 (kq ≤ k) ∧ Drawn0 w w')
  case atStart => exact ⟨(0), (by first | rfl | (simp; done) | (simp [*]; done)), H', ⟨Nat.le_refl _⟩, by repeat (first | exact Drawn0.refl _ | apply Drawn0.step)⟩
  case round =>
    clear H'; (try clear c1); obtain ⟨x3_1, rfl, HA, HK1, ⟨m1, rfl⟩⟩ := hrel
    cases gk with
    | zero => exact absurd HA.out (by simp [spec_NameOk.l0])
    | succ k1 =>
      have H := HA.out; clear HA
      simp only [spec_NameOk.l0] at H
      by_cases c2 : x3_1 < (a0.size : Int)
      · rw [if_pos c2] at H; have c2b0 := decide_eq_true c2; clear c2
        by_cases c3 : 0 ≤ x3_1
        · rw [if_pos c3] at H; have c3b0 := decide_eq_true c3; clear c3
          by_cases c5 : (bt a0 x3_1) ≥ 97
          · rw [if_pos c5] at H; have c5b0 := decide_eq_true c5; clear c5
            by_cases c7 : (bt a0 x3_1) ≤ 122
            · rw [if_pos c7] at H; have c7b0 := decide_eq_true c7; clear c7; have H' := ak H; clear H; have p4 : 0 ≤ (x3_1 : Int) := as_; have q4 : x3_1 < (a0.size : Int) := as_; have hx4 := bt_at a0 x3_1; replace p4 := eq_true p4; replace q4 := eq_true q4; have p6 : 0 ≤ (x3_1 : Int) := as_; have q6 : x3_1 < (a0.size : Int) := as_; have hx6 := bt_at a0 x3_1; replace p6 := eq_true p6; replace q6 := eq_true q6
              go_wp2
              go_roundg k1
              case measure => have := HK1.out; omega
              case rel => exact ⟨(wrap64 (x3_1 + 1)), (by first | rfl | (simp; done) | (simp [*]; done)), H', ⟨by have := HK1.out; omega⟩, by repeat (first | exact Drawn0.refl _ | apply Drawn0.step)⟩
            rw [if_neg c7] at H; have c7b0 := decide_eq_false c7; clear c7
            by_cases c8 : x3_1 > 0
            · rw [if_pos c8] at H; have c8b0 := decide_eq_true c8; clear c8
              by_cases c10 : (bt a0 x3_1) ≥ 48
              · rw [if_pos c10] at H; have c10b0 := decide_eq_true c10; clear c10
                by_cases c12 : ((bt a0 x3_1) ≤ 57)
                · rw [if_pos c12] at H; have c12b0 := decide_eq_true c12; clear c12; have H' := ak H; clear H; have p4 : 0 ≤ (x3_1 : Int) := as_; have q4 : x3_1 < (a0.size : Int) := as_; have hx4 := bt_at a0 x3_1; replace p4 := eq_true p4; replace q4 := eq_true q4; have p6 : 0 ≤ (x3_1 : Int) := as_; have q6 : x3_1 < (a0.size : Int) := as_; have hx6 := bt_at a0 x3_1; replace p6 := eq_true p6; replace q6 := eq_true q6; have p9 : 0 ≤ (x3_1 : Int) := as_; have q9 : x3_1 < (a0.size : Int) := as_; have hx9 := bt_at a0 x3_1; replace p9 := eq_true p9; replace q9 := eq_true q9; have p11 : 0 ≤ (x3_1 : Int) := as_; have q11 : x3_1 < (a0.size : Int) := as_; have hx11 := bt_at a0 x3_1; replace p11 := eq_true p11; replace q11 := eq_true q11
                  go_wp2
                  go_roundg k1
                  case measure => have := HK1.out; omega
                  case rel => exact ⟨(wrap64 (x3_1 + 1)), (by first | rfl | (simp; done) | (simp [*]; done)), H', ⟨by have := HK1.out; omega⟩, by repeat (first | exact Drawn0.refl _ | apply Drawn0.step)⟩
                rw [if_neg c12] at H; have c12b0 := decide_eq_false c12; clear c12; obtain rfl := Option.some.inj H; have p4 : 0 ≤ (x3_1 : Int) := as_; have q4 : x3_1 < (a0.size : Int) := as_; have hx4 := bt_at a0 x3_1; replace p4 := eq_true p4; replace q4 := eq_true q4; have p6 : 0 ≤ (x3_1 : Int) := as_; have q6 : x3_1 < (a0.size : Int) := as_; have hx6 := bt_at a0 x3_1; replace p6 := eq_true p6; replace q6 := eq_true q6; have p9 : 0 ≤ (x3_1 : Int) := as_; have q9 : x3_1 < (a0.size : Int) := as_; have hx9 := bt_at a0 x3_1; replace p9 := eq_true p9; replace q9 := eq_true q9; have p11 : 0 ≤ (x3_1 : Int) := as_; have q11 : x3_1 < (a0.size : Int) := as_; have hx11 := bt_at a0 x3_1; replace p11 := eq_true p11; replace q11 := eq_true q11
                go_wp2
                go_ret
                exact ⟨by first | rfl | (simp; done) | (simp [*]; done), by repeat (first | exact Drawn0.refl _ | apply Drawn0.step)⟩
              rw [if_neg c10] at H; have c10b0 := decide_eq_false c10; clear c10; obtain rfl := Option.some.inj H; have p4 : 0 ≤ (x3_1 : Int) := as_; have q4 : x3_1 < (a0.size : Int) := as_; have hx4 := bt_at a0 x3_1; replace p4 := eq_true p4; replace q4 := eq_true q4; have p6 : 0 ≤ (x3_1 : Int) := as_; have q6 : x3_1 < (a0.size : Int) := as_; have hx6 := bt_at a0 x3_1; replace p6 := eq_true p6; replace q6 := eq_true q6; have p9 : 0 ≤ (x3_1 : Int) := as_; have q9 : x3_1 < (a0.size : Int) := as_; have hx9 := bt_at a0 x3_1; replace p9 := eq_true p9; replace q9 := eq_true q9
              go_wp2
              go_ret
              exact ⟨by first | rfl | (simp; done) | (simp [*]; done), by repeat (first | exact Drawn0.refl _ | apply Drawn0.step)⟩
            rw [if_neg c8] at H; have c8b0 := decide_eq_false c8; clear c8; obtain rfl := Option.some.inj H; have p4 : 0 ≤ (x3_1 : Int) := as_; have q4 : x3_1 < (a0.size : Int) := as_; have hx4 := bt_at a0 x3_1; replace p4 := eq_true p4; replace q4 := eq_true q4; have p6 : 0 ≤ (x3_1 : Int) := as_; have q6 : x3_1 < (a0.size : Int) := as_; have hx6 := bt_at a0 x3_1; replace p6 := eq_true p6; replace q6 := eq_true q6
            go_wp2
            go_ret
            exact ⟨by first | rfl | (simp; done) | (simp [*]; done), by repeat (first | exact Drawn0.refl _ | apply Drawn0.step)⟩
          rw [if_neg c5] at H; have c5b0 := decide_eq_false c5; clear c5
          by_cases c13 : x3_1 > 0
          · rw [if_pos c13] at H; have c13b0 := decide_eq_true c13; clear c13
            by_cases c15 : (bt a0 x3_1) ≥ 48
            · rw [if_pos c15] at H; have c15b0 := decide_eq_true c15; clear c15
              by_cases c17 : ((bt a0 x3_1) ≤ 57)
              · rw [if_pos c17] at H; have c17b0 := decide_eq_true c17; clear c17; have H' := ak H; clear H; have p4 : 0 ≤ (x3_1 : Int) := as_; have q4 : x3_1 < (a0.size : Int) := as_; have hx4 := bt_at a0 x3_1; replace p4 := eq_true p4; replace q4 := eq_true q4; have p14 : 0 ≤ (x3_1 : Int) := as_; have q14 : x3_1 < (a0.size : Int) := as_; have hx14 := bt_at a0 x3_1; replace p14 := eq_true p14; replace q14 := eq_true q14; have p16 : 0 ≤ (x3_1 : Int) := as_; have q16 : x3_1 < (a0.size : Int) := as_; have hx16 := bt_at a0 x3_1; replace p16 := eq_true p16; replace q16 := eq_true q16
                go_wp2
                go_roundg k1
                case measure => have := HK1.out; omega
                case rel => exact ⟨(wrap64 (x3_1 + 1)), (by first | rfl | (simp; done) | (simp [*]; done)), H', ⟨by have := HK1.out; omega⟩, by repeat (first | exact Drawn0.refl _ | apply Drawn0.step)⟩
              rw [if_neg c17] at H; have c17b0 := decide_eq_false c17; clear c17; obtain rfl := Option.some.inj H; have p4 : 0 ≤ (x3_1 : Int) := as_; have q4 : x3_1 < (a0.size : Int) := as_; have hx4 := bt_at a0 x3_1; replace p4 := eq_true p4; replace q4 := eq_true q4; have p14 : 0 ≤ (x3_1 : Int) := as_; have q14 : x3_1 < (a0.size : Int) := as_; have hx14 := bt_at a0 x3_1; replace p14 := eq_true p14; replace q14 := eq_true q14; have p16 : 0 ≤ (x3_1 : Int) := as_; have q16 : x3_1 < (a0.size : Int) := as_; have hx16 := bt_at a0 x3_1; replace p16 := eq_true p16; replace q16 := eq_true q16
              go_wp2
              go_ret
              exact ⟨by first | rfl | (simp; done) | (simp [*]; done), by repeat (first | exact Drawn0.refl _ | apply Drawn0.step)⟩
            rw [if_neg c15] at H; have c15b0 := decide_eq_false c15; clear c15; obtain rfl := Option.some.inj H; have p4 : 0 ≤ (x3_1 : Int) := as_; have q4 : x3_1 < (a0.size : Int) := as_; have hx4 := bt_at a0 x3_1; replace p4 := eq_true p4; replace q4 := eq_true q4; have p14 : 0 ≤ (x3_1 : Int) := as_; have q14 : x3_1 < (a0.size : Int) := as_; have hx14 := bt_at a0 x3_1; replace p14 := eq_true p14; replace q14 := eq_true q14
            go_wp2
            go_ret
            exact ⟨by first | rfl | (simp; done) | (simp [*]; done), by repeat (first | exact Drawn0.refl _ | apply Drawn0.step)⟩
          rw [if_neg c13] at H; have c13b0 := decide_eq_false c13; clear c13; obtain rfl := Option.some.inj H; have p4 : 0 ≤ (x3_1 : Int) := as_; have q4 : x3_1 < (a0.size : Int) := as_; have hx4 := bt_at a0 x3_1; replace p4 := eq_true p4; replace q4 := eq_true q4
          go_wp2
          go_ret
          exact ⟨by first | rfl | (simp; done) | (simp [*]; done), by repeat (first | exact Drawn0.refl _ | apply Drawn0.step)⟩
        rw [if_neg c3] at H; exact absurd H (by simp)
      rw [if_neg c2] at H; have c2b0 := decide_eq_false c2; clear c2; replace H := Option.bind_eq_some_iff.mp H; obtain ⟨t164, A180, H⟩ := H; have A18 := ak A180; clear A180; obtain rfl := Option.some.inj H
      go_wp2_with (first | ((with_reducible refine gate_callee (f := 79) rfl ?_); refine goesM_ (some 39) rfl rfl Try.func79 (by kernel_rfl) rfl #[.int .i64 (a0.size : Int), .int .i64 1, .int .i64 8] rfl ?_; (with_reducible refine (spec_l1In.calls (a0.size : Int) 1 8 t164 _ A18.out).mono ?_); rintro e w' ⟨rfl, ⟨nd, rfl⟩⟩; refine ⟨_, rfl, ?_⟩))
      go_ret
      exact ⟨by first | rfl | (simp; done) | (simp [*]; done), by repeat (first | exact Drawn0.refl _ | apply Drawn0.step)⟩

/-! ### spec_SymOf: function 141 -/
def spec_SymOf.l0 : Nat → List (I_Sym) → ByteArray → Int → Option (Int)
  | 0, _, _, _ => none
  | k + 1, x0, x1, x5 => if x5 < (x0.length : Int) then (if 0 ≤ x5 then (if ((rd_I_Sym x0 x5).f0).toList = x1.toList then (some x5) else (spec_SymOf.l0 k x0 x1 (wrap64 (x5 + 1)))) else (none)) else (some (-1))
def spec_SymOf.f (k : Nat) (l0 : List (I_Sym)) (a1 : ByteArray) : Option (Int) := spec_SymOf.l0 k l0 a1 0
theorem spec_SymOf.mono_l : ∀ k, (∀ y0 y1 y2, LeO (spec_SymOf.l0 k y0 y1 y2) (spec_SymOf.l0 (k + 1) y0 y1 y2))
  | 0 => fun _ _ _ r h => by simp [spec_SymOf.l0] at h
  | k + 1 => by
    have ih0 := spec_SymOf.mono_l k
    · intro y0 y1 y2
      unfold spec_SymOf.l0
      repeat' first | (with_reducible first | exact ih0 _ _ _ | exact LeO.refl _ | exact LeO.none _ | refine LeO.ite ?_ ?_ | refine LeO.bind ?_ (fun _ => ?_)) | exact ih0 _ _ _ | exact LeO.none _ | refine LeO.ite ?_ ?_ | refine LeO.bind ?_ (fun _ => ?_)
theorem spec_SymOf.mono : ∀ a0 a1 k, LeO (spec_SymOf.f k a0 a1) (spec_SymOf.f (k + 1) a0 a1) := by
  intro a0 a1 k; have ih0 := spec_SymOf.mono_l k
  unfold spec_SymOf.f
  repeat' first
      | (with_reducible exact ih0 _ _ _)
      | (with_reducible exact LeO.refl _)
      | (with_reducible exact LeO.none _)
      | (with_reducible refine LeO.ite ?_ ?_)
      | (with_reducible refine LeO.bind ?_ (fun _ => ?_))
      | exact ih0 _ _ _
      | exact LeO.none _
      | refine LeO.ite ?_ ?_
      | refine LeO.bind ?_ (fun _ => ?_)
set_option maxHeartbeats 8000000 in
set_option maxRecDepth 100000 in
theorem spec_SymOf.calls (k : Nat) (A0 : Option Addr) (c0 : Nat) (l0 : List (I_Sym)) (a1 : ByteArray) (r : Int) (w : World) (hr0 : Kd.C k99 w A0 l0.length l0) (hc0 : l0.length ≤ c0) (h : spec_SymOf.f k l0 a1 = some r) :
    Calls Try.prog 141 #[.slice A0 l0.length c0, .string a1] w fun e w' => e = .returned (.int .i64 r) ∧ Drawn0 w w' := by
  have HR0 := ak hr0; have HC0 := ak hc0; clear hr0 hc0; have H : (spec_SymOf.l0 k l0 a1 0) = some r := h; clear h; have H' := ak H; clear H
  go_enter Try.func141, Try.ntmps141
  go_wp2
  go_loopg [5] k (fun kq v5 w' => ∃ (x5_1 : Int), v5 = .int .i64 x5_1 ∧ Aside0 (spec_SymOf.l0 kq l0 a1 x5_1 = some r) ∧ Aside0 (kq ≤ k) ∧ Drawn0 w w')
  case atStart => exact ⟨(0), (by first | rfl | (simp; done) | (simp [*]; done)), H', ⟨Nat.le_refl _⟩, by repeat (first | exact Drawn0.refl _ | apply Drawn0.step)⟩
  case round =>
    clear H'; (try clear c1); (try clear p2); obtain ⟨x5_1, rfl, HA, HK1, ⟨m1, rfl⟩⟩ := hrel
    cases gk with
    | zero => exact absurd HA.out (by simp [spec_SymOf.l0])
    | succ k1 =>
      have H := HA.out; clear HA
      simp only [spec_SymOf.l0] at H
      by_cases c3 : x5_1 < (l0.length : Int)
      · rw [if_pos c3] at H; have c3b0 := decide_eq_true c3; clear c3
        by_cases c4 : 0 ≤ x5_1
        · rw [if_pos c4] at H; have c4b0 := decide_eq_true c4; clear c4
          by_cases c5 : ((rd_I_Sym l0 x5_1).f0).toList = a1.toList
          · rw [if_pos c5] at H; have c5b0 : (((rd_I_Sym l0 x5_1).f0).toList == a1.toList) = true := beq_iff_eq.mpr c5; have c5b1 : (((rd_I_Sym l0 x5_1).f0).toList != a1.toList) = false := bne_eq_false_iff_eq.mpr c5; clear c5; obtain rfl := Option.some.inj H; have p165 : 0 ≤ (x5_1 : Int) := as_; have q165 : x5_1 < (l0.length : Int) := as_; obtain ⟨ad165, e165, hx165_0, hx165_1, hx165_2⟩ := at_T99 HR0.out x5_1 p165 q165
            cases e165
            replace p165 := eq_true p165; replace q165 := eq_true q165
            go_wp2
            go_ret
            exact ⟨by first | rfl | (simp; done) | (simp [*]; done), by repeat (first | exact Drawn0.refl _ | apply Drawn0.step)⟩
          rw [if_neg c5] at H; have c5b0 : (((rd_I_Sym l0 x5_1).f0).toList == a1.toList) = false := beq_eq_false_iff_ne.mpr c5; have c5b1 : (((rd_I_Sym l0 x5_1).f0).toList != a1.toList) = true := bne_iff_ne.mpr c5; have H' := ak H; clear H; have p165 : 0 ≤ (x5_1 : Int) := as_; have q165 : x5_1 < (l0.length : Int) := as_; obtain ⟨ad165, e165, hx165_0, hx165_1, hx165_2⟩ := at_T99 HR0.out x5_1 p165 q165
          cases e165
          replace p165 := eq_true p165; replace q165 := eq_true q165
          go_wp2
          go_roundg k1
          case measure => have := HK1.out; omega
          case rel => exact ⟨(wrap64 (x5_1 + 1)), (by first | rfl | (simp; done) | (simp [*]; done)), H', ⟨by have := HK1.out; omega⟩, by repeat (first | exact Drawn0.refl _ | apply Drawn0.step)⟩
        rw [if_neg c4] at H; exact absurd H (by simp)
      rw [if_neg c3] at H; have c3b0 := decide_eq_false c3; clear c3; obtain rfl := Option.some.inj H
      go_wp2
      go_ret
      exact ⟨by first | rfl | (simp; done) | (simp [*]; done), by repeat (first | exact Drawn0.refl _ | apply Drawn0.step)⟩

/-! ### spec_SigOk: function 78 -/
def spec_SigOk.l0 : Nat → List (I_Sym) → Int → Option (Bool)
  | 0, _, _ => none
  | k + 1, x0, x3 => if x3 < (x0.length : Int) then (if 0 ≤ x3 then ((spec_NameOk.f k ((rd_I_Sym x0 x3).f0)).bind fun t169 => (if t169 = true then ((spec_SymOf.f k x0 ((rd_I_Sym x0 x3).f0)).bind fun t171 => (if t171 = x3 then ((spec_l1In.f ((rd_I_Sym x0 x3).f1) 0 3).bind fun t173 => (if t173 = true then (if (rd_I_Sym x0 x3).f2 = true then (if ((rd_I_Sym x0 x3).f1) = 2 then (spec_SigOk.l0 k x0 (wrap64 (x3 + 1))) else (some false)) else (spec_SigOk.l0 k x0 (wrap64 (x3 + 1)))) else (some false))) else (some false))) else (some false))) else (none)) else ((spec_l1In.f (x0.length : Int) 1 8).bind fun t166 => (if t166 = true then (if 0 < (x0.length : Int) then (some ((((rd_I_Sym x0 0).f0).toList) == ([116, 116] : List UInt8) && (((rd_I_Sym x0 0).f1) == 0 && (!((rd_I_Sym x0 0).f2))))) else (none)) else (some false)))
def spec_SigOk.f (k : Nat) (l0 : List (I_Sym)) : Option (Bool) := spec_SigOk.l0 k l0 0
theorem spec_SigOk.mono_l : ∀ k, (∀ y0 y1, LeO (spec_SigOk.l0 k y0 y1) (spec_SigOk.l0 (k + 1) y0 y1))
  | 0 => fun _ _ r h => by simp [spec_SigOk.l0] at h
  | k + 1 => by
    have ih0 := spec_SigOk.mono_l k
    · intro y0 y1
      unfold spec_SigOk.l0
      repeat' first | (with_reducible first | exact ih0 _ _ | exact spec_NameOk.mono _ _ | exact spec_SymOf.mono _ _ _ | exact LeO.refl _ | exact LeO.none _ | refine LeO.ite ?_ ?_ | refine LeO.bind ?_ (fun _ => ?_)) | exact ih0 _ _ | exact spec_NameOk.mono _ _ | exact spec_SymOf.mono _ _ _ | exact LeO.none _ | refine LeO.ite ?_ ?_ | refine LeO.bind ?_ (fun _ => ?_)
theorem spec_SigOk.mono : ∀ a0 k, LeO (spec_SigOk.f k a0) (spec_SigOk.f (k + 1) a0) := by
  intro a0 k; have ih0 := spec_SigOk.mono_l k
  unfold spec_SigOk.f
  repeat' first
      | (with_reducible exact ih0 _ _)
      | (with_reducible exact spec_NameOk.mono _ _)
      | (with_reducible exact spec_SymOf.mono _ _ _)
      | (with_reducible exact LeO.refl _)
      | (with_reducible exact LeO.none _)
      | (with_reducible refine LeO.ite ?_ ?_)
      | (with_reducible refine LeO.bind ?_ (fun _ => ?_))
      | exact ih0 _ _
      | exact spec_NameOk.mono _ _
      | exact spec_SymOf.mono _ _ _
      | exact LeO.none _
      | refine LeO.ite ?_ ?_
      | refine LeO.bind ?_ (fun _ => ?_)
set_option maxHeartbeats 8000000 in
set_option maxRecDepth 100000 in
theorem spec_SigOk.calls (k : Nat) (A0 : Option Addr) (c0 : Nat) (l0 : List (I_Sym)) (r : Bool) (w : World) (hr0 : Kd.C k99 w A0 l0.length l0) (hc0 : l0.length ≤ c0) (h : spec_SigOk.f k l0 = some r) :
    Calls Try.prog 78 #[.slice A0 l0.length c0] w fun e w' => e = .returned (.bool r) ∧ Drawn0 w w' := by
  have hu99 := Try.underlying99; have HR0 := ak hr0; have HC0 := ak hc0; clear hr0 hc0; have H : (spec_SigOk.l0 k l0 0) = some r := h; clear h; have H' := ak H; clear H
  go_enter Try.func78, Try.ntmps78
  go_wp2
  go_loopg [3] k (fun kq v3 w' => ∃ (x3_1 : Int), v3 = .int .i64 x3_1 ∧ Aside0 (spec_SigOk.l0 kq l0 x3_1 = some r) ∧ Aside0 (kq ≤ k) ∧ Drawn0 w w')
  case atStart => exact ⟨(0), (by first | rfl | (simp; done) | (simp [*]; done)), H', ⟨Nat.le_refl _⟩, by repeat (first | exact Drawn0.refl _ | apply Drawn0.step)⟩
  case round =>
    clear H'; obtain ⟨x3_1, rfl, HA, HK1, ⟨m1, rfl⟩⟩ := hrel
    cases gk with
    | zero => exact absurd HA.out (by simp [spec_SigOk.l0])
    | succ k1 =>
      have H := HA.out; clear HA
      simp only [spec_SigOk.l0] at H
      by_cases c2 : x3_1 < (l0.length : Int)
      · rw [if_pos c2] at H; have c2b0 := decide_eq_true c2; clear c2
        by_cases c3 : 0 ≤ x3_1
        · rw [if_pos c3] at H; have c3b0 := decide_eq_true c3; clear c3; replace H := Option.bind_eq_some_iff.mp H; obtain ⟨t169, A40, H⟩ := H; have A4 := ak A40; clear A40
          by_cases c5 : t169 = true
          · subst c5; rw [if_pos rfl] at H; replace H := Option.bind_eq_some_iff.mp H; obtain ⟨t171, A60, H⟩ := H; have A6 := ak A60; clear A60
            by_cases c7 : t171 = x3_1
            · rw [if_pos c7] at H; have c7b0 : (t171 == x3_1) = true := beq_iff_eq.mpr c7; have c7b1 : (t171 != x3_1) = false := bne_eq_false_iff_eq.mpr c7; clear c7; replace H := Option.bind_eq_some_iff.mp H; obtain ⟨t173, A80, H⟩ := H; have A8 := ak A80; clear A80
              by_cases c9 : t173 = true
              · subst c9; rw [if_pos rfl] at H; obtain ⟨bq10, hbq10⟩ : ∃ b_ : Bool, b_ = ((rd_I_Sym l0 x3_1).f2) := ⟨_, rfl⟩; replace H : (if bq10 = true then (if ((rd_I_Sym l0 x3_1).f1) = 2 then (spec_SigOk.l0 k1 l0 (wrap64 (x3_1 + 1))) else (some false)) else (spec_SigOk.l0 k1 l0 (wrap64 (x3_1 + 1)))) = some r := by rw [← hbq10] at H; exact H
                have Nbq10 := ak hbq10; clear hbq10
                by_cases c11 : bq10 = true
                · subst c11; rw [if_pos rfl] at H
                  by_cases c12 : ((rd_I_Sym l0 x3_1).f1) = 2
                  · rw [if_pos c12] at H; have c12b0 : (((rd_I_Sym l0 x3_1).f1) == 2) = true := beq_iff_eq.mpr c12; have c12b1 : (((rd_I_Sym l0 x3_1).f1) != 2) = false := bne_eq_false_iff_eq.mpr c12; clear c12; have H' := ak H; clear H; have p168 : 0 ≤ (x3_1 : Int) := as_; have q168 : x3_1 < (l0.length : Int) := as_; obtain ⟨ad168, e168, hx168_0, hx168_1, hx168_2⟩ := at_T99 HR0.out x3_1 p168 q168; (try rw [← Nbq10.out] at hx168_2); (try rw [← Nbq10.out] at hw168_2)
                    cases e168
                    replace p168 := eq_true p168; replace q168 := eq_true q168
                    go_wp2_with (first | ((with_reducible refine gate_callee (f := 140) rfl ?_); refine goesM_ (some 15) rfl rfl Try.func140 (by kernel_rfl) rfl #[.string ((rd_I_Sym l0 x3_1).f0)] rfl ?_; (with_reducible refine (spec_NameOk.calls k1 ((rd_I_Sym l0 x3_1).f0) true _ A4.out).mono ?_); rintro e w' ⟨rfl, ⟨nd, rfl⟩⟩; refine ⟨_, rfl, ?_⟩; have p170 : 0 ≤ (x3_1 : Int) := as_; have q170 : x3_1 < (l0.length : Int) := as_; obtain ⟨ad170, e170, hx170_0, hx170_1, hx170_2⟩ := at_T99 HR0.out x3_1 p170 q170; (try rw [← Nbq10.out] at hx170_2); obtain rfl : ad168 = ad170 := (by injection e170); replace p170 := eq_true p170; replace q170 := eq_true q170) | (go_at_call 141; (with_reducible refine (spec_SymOf.calls k1 _ _ l0 ((rd_I_Sym l0 x3_1).f0) t171 _ ?side1 ?side2 A6.out).mono ?_); (case side1 => exact ca_ HR0.out); (case side2 => exact HC0.out); rintro e w' ⟨rfl, ⟨nd, rfl⟩⟩; have p172 : 0 ≤ (x3_1 : Int) := as_; have q172 : x3_1 < (l0.length : Int) := as_; obtain ⟨ad172, e172, hx172_0, hx172_1, hx172_2⟩ := at_T99 HR0.out x3_1 p172 q172; (try rw [← Nbq10.out] at hx172_2); obtain rfl : ad168 = ad172 := (by injection e172); replace p172 := eq_true p172; replace q172 := eq_true q172) | (go_at_call 79; (with_reducible refine (spec_l1In.calls ((rd_I_Sym l0 x3_1).f1) 0 3 true _ A8.out).mono ?_); rintro e w' ⟨rfl, ⟨nd, rfl⟩⟩; have p174 : 0 ≤ (x3_1 : Int) := as_; have q174 : x3_1 < (l0.length : Int) := as_; obtain ⟨ad174, e174, hx174_0, hx174_1, hx174_2⟩ := at_T99 HR0.out x3_1 p174 q174; (try rw [← Nbq10.out] at hx174_2); obtain rfl : ad168 = ad174 := (by injection e174); replace p174 := eq_true p174; replace q174 := eq_true q174; have p175 : 0 ≤ (x3_1 : Int) := as_; have q175 : x3_1 < (l0.length : Int) := as_; obtain ⟨ad175, e175, hx175_0, hx175_1, hx175_2⟩ := at_T99 HR0.out x3_1 p175 q175; (try rw [← Nbq10.out] at hx175_2); obtain rfl : ad168 = ad175 := (by injection e175); replace p175 := eq_true p175; replace q175 := eq_true q175))
                    go_roundg k1
                    case measure => have := HK1.out; omega
                    case rel => exact ⟨(wrap64 (x3_1 + 1)), (by first | rfl | (simp; done) | (simp [*]; done)), H', ⟨by have := HK1.out; omega⟩, by repeat (first | exact Drawn0.refl _ | apply Drawn0.step)⟩
                  rw [if_neg c12] at H; have c12b0 : (((rd_I_Sym l0 x3_1).f1) == 2) = false := beq_eq_false_iff_ne.mpr c12; have c12b1 : (((rd_I_Sym l0 x3_1).f1) != 2) = true := bne_iff_ne.mpr c12; obtain rfl := Option.some.inj H; have p168 : 0 ≤ (x3_1 : Int) := as_; have q168 : x3_1 < (l0.length : Int) := as_; obtain ⟨ad168, e168, hx168_0, hx168_1, hx168_2⟩ := at_T99 HR0.out x3_1 p168 q168; (try rw [← Nbq10.out] at hx168_2); (try rw [← Nbq10.out] at hw168_2)
                  cases e168
                  replace p168 := eq_true p168; replace q168 := eq_true q168
                  go_wp2_with (first | ((with_reducible refine gate_callee (f := 140) rfl ?_); refine goesM_ (some 15) rfl rfl Try.func140 (by kernel_rfl) rfl #[.string ((rd_I_Sym l0 x3_1).f0)] rfl ?_; (with_reducible refine (spec_NameOk.calls k1 ((rd_I_Sym l0 x3_1).f0) true _ A4.out).mono ?_); rintro e w' ⟨rfl, ⟨nd, rfl⟩⟩; refine ⟨_, rfl, ?_⟩; have p170 : 0 ≤ (x3_1 : Int) := as_; have q170 : x3_1 < (l0.length : Int) := as_; obtain ⟨ad170, e170, hx170_0, hx170_1, hx170_2⟩ := at_T99 HR0.out x3_1 p170 q170; (try rw [← Nbq10.out] at hx170_2); obtain rfl : ad168 = ad170 := (by injection e170); replace p170 := eq_true p170; replace q170 := eq_true q170) | (go_at_call 141; (with_reducible refine (spec_SymOf.calls k1 _ _ l0 ((rd_I_Sym l0 x3_1).f0) t171 _ ?side1 ?side2 A6.out).mono ?_); (case side1 => exact ca_ HR0.out); (case side2 => exact HC0.out); rintro e w' ⟨rfl, ⟨nd, rfl⟩⟩; have p172 : 0 ≤ (x3_1 : Int) := as_; have q172 : x3_1 < (l0.length : Int) := as_; obtain ⟨ad172, e172, hx172_0, hx172_1, hx172_2⟩ := at_T99 HR0.out x3_1 p172 q172; (try rw [← Nbq10.out] at hx172_2); obtain rfl : ad168 = ad172 := (by injection e172); replace p172 := eq_true p172; replace q172 := eq_true q172) | (go_at_call 79; (with_reducible refine (spec_l1In.calls ((rd_I_Sym l0 x3_1).f1) 0 3 true _ A8.out).mono ?_); rintro e w' ⟨rfl, ⟨nd, rfl⟩⟩; have p174 : 0 ≤ (x3_1 : Int) := as_; have q174 : x3_1 < (l0.length : Int) := as_; obtain ⟨ad174, e174, hx174_0, hx174_1, hx174_2⟩ := at_T99 HR0.out x3_1 p174 q174; (try rw [← Nbq10.out] at hx174_2); obtain rfl : ad168 = ad174 := (by injection e174); replace p174 := eq_true p174; replace q174 := eq_true q174; have p175 : 0 ≤ (x3_1 : Int) := as_; have q175 : x3_1 < (l0.length : Int) := as_; obtain ⟨ad175, e175, hx175_0, hx175_1, hx175_2⟩ := at_T99 HR0.out x3_1 p175 q175; (try rw [← Nbq10.out] at hx175_2); obtain rfl : ad168 = ad175 := (by injection e175); replace p175 := eq_true p175; replace q175 := eq_true q175))
                  go_ret
                  exact ⟨by first | rfl | (simp; done) | (simp [*]; done), by repeat (first | exact Drawn0.refl _ | apply Drawn0.step)⟩
                replace c11 := Bool.eq_false_iff.mpr c11; subst c11; rw [if_neg (show ¬ (false = true) by decide)] at H; have H' := ak H; clear H; have p168 : 0 ≤ (x3_1 : Int) := as_; have q168 : x3_1 < (l0.length : Int) := as_; obtain ⟨ad168, e168, hx168_0, hx168_1, hx168_2⟩ := at_T99 HR0.out x3_1 p168 q168; (try rw [← Nbq10.out] at hx168_2); (try rw [← Nbq10.out] at hw168_2)
                cases e168
                replace p168 := eq_true p168; replace q168 := eq_true q168
                go_wp2_with (first | ((with_reducible refine gate_callee (f := 140) rfl ?_); refine goesM_ (some 15) rfl rfl Try.func140 (by kernel_rfl) rfl #[.string ((rd_I_Sym l0 x3_1).f0)] rfl ?_; (with_reducible refine (spec_NameOk.calls k1 ((rd_I_Sym l0 x3_1).f0) true _ A4.out).mono ?_); rintro e w' ⟨rfl, ⟨nd, rfl⟩⟩; refine ⟨_, rfl, ?_⟩; have p170 : 0 ≤ (x3_1 : Int) := as_; have q170 : x3_1 < (l0.length : Int) := as_; obtain ⟨ad170, e170, hx170_0, hx170_1, hx170_2⟩ := at_T99 HR0.out x3_1 p170 q170; (try rw [← Nbq10.out] at hx170_2); obtain rfl : ad168 = ad170 := (by injection e170); replace p170 := eq_true p170; replace q170 := eq_true q170) | (go_at_call 141; (with_reducible refine (spec_SymOf.calls k1 _ _ l0 ((rd_I_Sym l0 x3_1).f0) t171 _ ?side1 ?side2 A6.out).mono ?_); (case side1 => exact ca_ HR0.out); (case side2 => exact HC0.out); rintro e w' ⟨rfl, ⟨nd, rfl⟩⟩; have p172 : 0 ≤ (x3_1 : Int) := as_; have q172 : x3_1 < (l0.length : Int) := as_; obtain ⟨ad172, e172, hx172_0, hx172_1, hx172_2⟩ := at_T99 HR0.out x3_1 p172 q172; (try rw [← Nbq10.out] at hx172_2); obtain rfl : ad168 = ad172 := (by injection e172); replace p172 := eq_true p172; replace q172 := eq_true q172) | (go_at_call 79; (with_reducible refine (spec_l1In.calls ((rd_I_Sym l0 x3_1).f1) 0 3 true _ A8.out).mono ?_); rintro e w' ⟨rfl, ⟨nd, rfl⟩⟩; have p174 : 0 ≤ (x3_1 : Int) := as_; have q174 : x3_1 < (l0.length : Int) := as_; obtain ⟨ad174, e174, hx174_0, hx174_1, hx174_2⟩ := at_T99 HR0.out x3_1 p174 q174; (try rw [← Nbq10.out] at hx174_2); obtain rfl : ad168 = ad174 := (by injection e174); replace p174 := eq_true p174; replace q174 := eq_true q174))
                go_roundg k1
                case measure => have := HK1.out; omega
                case rel => exact ⟨(wrap64 (x3_1 + 1)), (by first | rfl | (simp; done) | (simp [*]; done)), H', ⟨by have := HK1.out; omega⟩, by repeat (first | exact Drawn0.refl _ | apply Drawn0.step)⟩
              replace c9 := Bool.eq_false_iff.mpr c9; subst c9; rw [if_neg (show ¬ (false = true) by decide)] at H; obtain rfl := Option.some.inj H; have p168 : 0 ≤ (x3_1 : Int) := as_; have q168 : x3_1 < (l0.length : Int) := as_; obtain ⟨ad168, e168, hx168_0, hx168_1, hx168_2⟩ := at_T99 HR0.out x3_1 p168 q168
              cases e168
              replace p168 := eq_true p168; replace q168 := eq_true q168
              go_wp2_with (first | ((with_reducible refine gate_callee (f := 140) rfl ?_); refine goesM_ (some 15) rfl rfl Try.func140 (by kernel_rfl) rfl #[.string ((rd_I_Sym l0 x3_1).f0)] rfl ?_; (with_reducible refine (spec_NameOk.calls k1 ((rd_I_Sym l0 x3_1).f0) true _ A4.out).mono ?_); rintro e w' ⟨rfl, ⟨nd, rfl⟩⟩; refine ⟨_, rfl, ?_⟩; have p170 : 0 ≤ (x3_1 : Int) := as_; have q170 : x3_1 < (l0.length : Int) := as_; obtain ⟨ad170, e170, hx170_0, hx170_1, hx170_2⟩ := at_T99 HR0.out x3_1 p170 q170; obtain rfl : ad168 = ad170 := (by injection e170); replace p170 := eq_true p170; replace q170 := eq_true q170) | (go_at_call 141; (with_reducible refine (spec_SymOf.calls k1 _ _ l0 ((rd_I_Sym l0 x3_1).f0) t171 _ ?side1 ?side2 A6.out).mono ?_); (case side1 => exact ca_ HR0.out); (case side2 => exact HC0.out); rintro e w' ⟨rfl, ⟨nd, rfl⟩⟩; have p172 : 0 ≤ (x3_1 : Int) := as_; have q172 : x3_1 < (l0.length : Int) := as_; obtain ⟨ad172, e172, hx172_0, hx172_1, hx172_2⟩ := at_T99 HR0.out x3_1 p172 q172; obtain rfl : ad168 = ad172 := (by injection e172); replace p172 := eq_true p172; replace q172 := eq_true q172) | (go_at_call 79; (with_reducible refine (spec_l1In.calls ((rd_I_Sym l0 x3_1).f1) 0 3 false _ A8.out).mono ?_); rintro e w' ⟨rfl, ⟨nd, rfl⟩⟩))
              go_ret
              exact ⟨by first | rfl | (simp; done) | (simp [*]; done), by repeat (first | exact Drawn0.refl _ | apply Drawn0.step)⟩
            rw [if_neg c7] at H; have c7b0 : (t171 == x3_1) = false := beq_eq_false_iff_ne.mpr c7; have c7b1 : (t171 != x3_1) = true := bne_iff_ne.mpr c7; obtain rfl := Option.some.inj H; have p168 : 0 ≤ (x3_1 : Int) := as_; have q168 : x3_1 < (l0.length : Int) := as_; obtain ⟨ad168, e168, hx168_0, hx168_1, hx168_2⟩ := at_T99 HR0.out x3_1 p168 q168
            cases e168
            replace p168 := eq_true p168; replace q168 := eq_true q168
            go_wp2_with (first | ((with_reducible refine gate_callee (f := 140) rfl ?_); refine goesM_ (some 15) rfl rfl Try.func140 (by kernel_rfl) rfl #[.string ((rd_I_Sym l0 x3_1).f0)] rfl ?_; (with_reducible refine (spec_NameOk.calls k1 ((rd_I_Sym l0 x3_1).f0) true _ A4.out).mono ?_); rintro e w' ⟨rfl, ⟨nd, rfl⟩⟩; refine ⟨_, rfl, ?_⟩; have p170 : 0 ≤ (x3_1 : Int) := as_; have q170 : x3_1 < (l0.length : Int) := as_; obtain ⟨ad170, e170, hx170_0, hx170_1, hx170_2⟩ := at_T99 HR0.out x3_1 p170 q170; obtain rfl : ad168 = ad170 := (by injection e170); replace p170 := eq_true p170; replace q170 := eq_true q170) | (go_at_call 141; (with_reducible refine (spec_SymOf.calls k1 _ _ l0 ((rd_I_Sym l0 x3_1).f0) t171 _ ?side1 ?side2 A6.out).mono ?_); (case side1 => exact ca_ HR0.out); (case side2 => exact HC0.out); rintro e w' ⟨rfl, ⟨nd, rfl⟩⟩))
            go_ret
            exact ⟨by first | rfl | (simp; done) | (simp [*]; done), by repeat (first | exact Drawn0.refl _ | apply Drawn0.step)⟩
          replace c5 := Bool.eq_false_iff.mpr c5; subst c5; rw [if_neg (show ¬ (false = true) by decide)] at H; obtain rfl := Option.some.inj H; have p168 : 0 ≤ (x3_1 : Int) := as_; have q168 : x3_1 < (l0.length : Int) := as_; obtain ⟨ad168, e168, hx168_0, hx168_1, hx168_2⟩ := at_T99 HR0.out x3_1 p168 q168
          cases e168
          replace p168 := eq_true p168; replace q168 := eq_true q168
          go_wp2_with (first | ((with_reducible refine gate_callee (f := 140) rfl ?_); refine goesM_ (some 15) rfl rfl Try.func140 (by kernel_rfl) rfl #[.string ((rd_I_Sym l0 x3_1).f0)] rfl ?_; (with_reducible refine (spec_NameOk.calls k1 ((rd_I_Sym l0 x3_1).f0) false _ A4.out).mono ?_); rintro e w' ⟨rfl, ⟨nd, rfl⟩⟩; refine ⟨_, rfl, ?_⟩))
          go_ret
          exact ⟨by first | rfl | (simp; done) | (simp [*]; done), by repeat (first | exact Drawn0.refl _ | apply Drawn0.step)⟩
        rw [if_neg c3] at H; exact absurd H (by simp)
      rw [if_neg c2] at H; have c2b0 := decide_eq_false c2; clear c2; replace H := Option.bind_eq_some_iff.mp H; obtain ⟨t166, A130, H⟩ := H; have A13 := ak A130; clear A130
      by_cases c14 : t166 = true
      · subst c14; rw [if_pos rfl] at H
        by_cases c15 : 0 < (l0.length : Int)
        · rw [if_pos c15] at H; have c15b0 := decide_eq_true c15; have c15b1 : decide (0 < l0.length) = true := decide_eq_true (by omega); clear c15; obtain rfl := Option.some.inj H
          go_wp2_with (first | ((with_reducible refine gate_callee (f := 79) rfl ?_); refine goesM_ (some 54) rfl rfl Try.func79 (by kernel_rfl) rfl #[.int .i64 (l0.length : Int), .int .i64 1, .int .i64 8] rfl ?_; (with_reducible refine (spec_l1In.calls (l0.length : Int) 1 8 true _ A13.out).mono ?_); rintro e w' ⟨rfl, ⟨nd, rfl⟩⟩; refine ⟨_, rfl, ?_⟩; have p167 : 0 ≤ (0 : Int) := (by omega); have q167 : 0 < (l0.length : Int) := as_; obtain ⟨ad167, e167, hx167_0, hx167_1, hx167_2⟩ := at_T99 HR0.out 0 p167 q167; cases e167; have qi167 : (0 < l0.length) = True := eq_true (by omega); (try rw [show ((0 : Int)).toNat = 0 from rfl] at hx167_0); (try rw [show 0 * 3 = 0 from rfl] at hx167_0); (try rw [Addr.add_zero'] at hx167_0); (try rw [show ((0 : Int)).toNat = 0 from rfl] at hx167_1); (try rw [show 0 * 3 = 0 from rfl] at hx167_1); (try rw [Addr.add_zero'] at hx167_1); (try rw [show ((0 : Int)).toNat = 0 from rfl] at hx167_2); (try rw [show 0 * 3 = 0 from rfl] at hx167_2); (try rw [Addr.add_zero'] at hx167_2); replace p167 := eq_true p167; replace q167 := eq_true q167))
          go_ret
          exact ⟨by first | rfl | (simp; done) | (simp [*]; done), by repeat (first | exact Drawn0.refl _ | apply Drawn0.step)⟩
        rw [if_neg c15] at H; exact absurd H (by simp)
      replace c14 := Bool.eq_false_iff.mpr c14; subst c14; rw [if_neg (show ¬ (false = true) by decide)] at H; obtain rfl := Option.some.inj H
      go_wp2_with (first | ((with_reducible refine gate_callee (f := 79) rfl ?_); refine goesM_ (some 54) rfl rfl Try.func79 (by kernel_rfl) rfl #[.int .i64 (l0.length : Int), .int .i64 1, .int .i64 8] rfl ?_; (with_reducible refine (spec_l1In.calls (l0.length : Int) 1 8 false _ A13.out).mono ?_); rintro e w' ⟨rfl, ⟨nd, rfl⟩⟩; refine ⟨_, rfl, ?_⟩))
      go_ret
      exact ⟨by first | rfl | (simp; done) | (simp [*]; done), by repeat (first | exact Drawn0.refl _ | apply Drawn0.step)⟩

/-! ### spec_l24Power: function 84 -/
def spec_l24Power.l0 : Nat → Int → Int → Int → Int → Option (Int)
  | 0, _, _, _, _ => none
  | k + 1, x0, x1, x5, x6 => if x6 < x1 then (spec_l24Power.l0 k x0 x1 (wrap64 (x5 * x0)) (wrap64 (x6 + 1))) else (some x5)
def spec_l24Power.f (k : Nat) (a0 : Int) (a1 : Int) : Option (Int) := spec_l24Power.l0 k a0 a1 1 0
theorem spec_l24Power.mono_l : ∀ k, (∀ y0 y1 y2 y3, LeO (spec_l24Power.l0 k y0 y1 y2 y3) (spec_l24Power.l0 (k + 1) y0 y1 y2 y3))
  | 0 => fun _ _ _ _ r h => by simp [spec_l24Power.l0] at h
  | k + 1 => by
    have ih0 := spec_l24Power.mono_l k
    · intro y0 y1 y2 y3
      unfold spec_l24Power.l0
      repeat' first | (with_reducible first | exact ih0 _ _ _ _ | exact LeO.refl _ | exact LeO.none _ | refine LeO.ite ?_ ?_ | refine LeO.bind ?_ (fun _ => ?_)) | exact ih0 _ _ _ _ | exact LeO.none _ | refine LeO.ite ?_ ?_ | refine LeO.bind ?_ (fun _ => ?_)
theorem spec_l24Power.mono : ∀ a0 a1 k, LeO (spec_l24Power.f k a0 a1) (spec_l24Power.f (k + 1) a0 a1) := by
  intro a0 a1 k; have ih0 := spec_l24Power.mono_l k
  unfold spec_l24Power.f
  repeat' first
      | (with_reducible exact ih0 _ _ _ _)
      | (with_reducible exact LeO.refl _)
      | (with_reducible exact LeO.none _)
      | (with_reducible refine LeO.ite ?_ ?_)
      | (with_reducible refine LeO.bind ?_ (fun _ => ?_))
      | exact ih0 _ _ _ _
      | exact LeO.none _
      | refine LeO.ite ?_ ?_
      | refine LeO.bind ?_ (fun _ => ?_)
set_option maxHeartbeats 8000000 in
set_option maxRecDepth 100000 in
theorem spec_l24Power.calls (k : Nat) (a0 : Int) (a1 : Int) (r : Int) (w : World) (h : spec_l24Power.f k a0 a1 = some r) :
    Calls Try.prog 84 #[.int .i64 a0, .int .i64 a1] w fun e w' => e = .returned (.int .i64 r) ∧ Drawn0 w w' := by
  have H : (spec_l24Power.l0 k a0 a1 1 0) = some r := h; clear h; have H' := ak H; clear H
  go_enter Try.func84, Try.ntmps84
  go_wp2
  go_loopg [5, 6] k (fun kq v5 v6 w' => ∃ (x5_1 : Int) (x6_1 : Int), v5 = .int .i64 x5_1 ∧ v6 = .int .i64 x6_1 ∧ Aside0 (spec_l24Power.l0 kq a0 a1 x5_1 x6_1 = some r) ∧ Aside0 (kq ≤ k) ∧ Drawn0 w w')
  case atStart => exact ⟨(1), (0), (by first | rfl | (simp; done) | (simp [*]; done)), (by first | rfl | (simp; done) | (simp [*]; done)), H', ⟨Nat.le_refl _⟩, by repeat (first | exact Drawn0.refl _ | apply Drawn0.step)⟩
  case round =>
    clear H'; (try clear p2); obtain ⟨x5_1, x6_1, rfl, rfl, HA, HK1, ⟨m1, rfl⟩⟩ := hrel
    cases gk with
    | zero => exact absurd HA.out (by simp [spec_l24Power.l0])
    | succ k1 =>
      have H := HA.out; clear HA
      simp only [spec_l24Power.l0] at H
      by_cases c3 : x6_1 < a1
      · rw [if_pos c3] at H; have c3b0 := decide_eq_true c3; clear c3; have H' := ak H; clear H
        go_wp2
        go_roundg k1
        case measure => have := HK1.out; omega
        case rel => exact ⟨(wrap64 (x5_1 * a0)), (wrap64 (x6_1 + 1)), (by first | rfl | (simp; done) | (simp [*]; done)), (by first | rfl | (simp; done) | (simp [*]; done)), H', ⟨by have := HK1.out; omega⟩, by repeat (first | exact Drawn0.refl _ | apply Drawn0.step)⟩
      rw [if_neg c3] at H; have c3b0 := decide_eq_false c3; clear c3; obtain rfl := Option.some.inj H
      go_wp2
      go_ret
      exact ⟨by first | rfl | (simp; done) | (simp [*]; done), by repeat (first | exact Drawn0.refl _ | apply Drawn0.step)⟩

/-! ### spec_l24Two: function 143 -/
def spec_l24Two.f (a0_0 : Int) (l0_1 : List (List Int)) (a1 : Int) (a2 : Int) (a3 : Int) : Option (Int) := if 0 ≤ a1 then (if a1 < (l0_1.length : Int) then (if 0 ≤ (wrap64 (a2 + (wrap64 (a0_0 * a3)))) then (if (wrap64 (a2 + (wrap64 (a0_0 * a3)))) < ((rd_Ls_i64 l0_1 a1).length : Int) then (some (rd (rd_Ls_i64 l0_1 a1) (wrap64 (a2 + (wrap64 (a0_0 * a3)))))) else (none)) else (none)) else (none)) else (none)
set_option maxHeartbeats 8000000 in
set_option maxRecDepth 100000 in
theorem spec_l24Two.calls (a0_0 : Int) (A0_1 : Option Addr) (c0_1 : Nat) (l0_1 : List (List Int)) (a1 : Int) (a2 : Int) (a3 : Int) (r : Int) (w : World) (hr0_1 : Kd.C (Kd.slice 3 (Kd.int .i64)) w A0_1 l0_1.length l0_1) (hc0_1 : l0_1.length ≤ c0_1) (h : spec_l24Two.f a0_0 l0_1 a1 a2 a3 = some r) :
    Calls Try.prog 143 #[.agg #[.int .i64 a0_0, .slice A0_1 l0_1.length c0_1], .int .i64 a1, .int .i64 a2, .int .i64 a3] w fun e w' => e = .returned (.int .i64 r) ∧ Below w.heap.size w w' := by
  have hu51 := Try.underlying51; have HR0_1 := ak hr0_1; have HC0_1 := ak hc0_1; clear hr0_1 hc0_1; have HB := ak (Below.refl w.heap.size w); have H : (if 0 ≤ a1 then (if a1 < (l0_1.length : Int) then (if 0 ≤ (wrap64 (a2 + (wrap64 (a0_0 * a3)))) then (if (wrap64 (a2 + (wrap64 (a0_0 * a3)))) < ((rd_Ls_i64 l0_1 a1).length : Int) then (some (rd (rd_Ls_i64 l0_1 a1) (wrap64 (a2 + (wrap64 (a0_0 * a3)))))) else (none)) else (none)) else (none)) else (none)) = some r := h; clear h
  by_cases c5 : 0 ≤ a1
  · rw [if_pos c5] at H; have c5b0 := decide_eq_true c5; clear c5
    by_cases c6 : a1 < (l0_1.length : Int)
    · rw [if_pos c6] at H; have c6b0 := decide_eq_true c6; clear c6; obtain ⟨ji7, hji7⟩ : ∃ j_ : Int, (wrap64 (a2 + (wrap64 (a0_0 * a3)))) = j_ := ⟨_, rfl⟩; replace H : (if 0 ≤ (ji7) then (if (ji7) < ((rd_Ls_i64 l0_1 a1).length : Int) then (some (rd (rd_Ls_i64 l0_1 a1) (ji7))) else (none)) else (none)) = some r := by first | (rw [hji7] at H; exact H) | (simp only [hji7] at H ⊢; exact H)
      have hji7w : (IntKind.i64.wrap (a2 + (wrap64 (a0_0 * a3)))) = ji7 := (i64_w _).trans hji7
      by_cases c8 : 0 ≤ (ji7)
      · rw [if_pos c8] at H; have c8b0 := decide_eq_true c8; clear c8
        by_cases c9 : (ji7) < ((rd_Ls_i64 l0_1 a1).length : Int)
        · rw [if_pos c9] at H; have c9b0 := decide_eq_true c9; clear c9; obtain rfl := Option.some.inj H
          go_enter Try.func143, Try.ntmps143
          go_wp2_with (first | ((with_reducible refine gate_dst (N := 4) rfl ?_); refine bxe_ (N := 4) (cs := #[.int .i64 a0_0, .slice A0_1 l0_1.length c0_1]) (t := 51) ?_; intro gb176 hg w10 hbox hb; have BK176 := ak (hbox); have GW176 := ak (lg_ hg (bl_ HB.out)); have GE176 := ak (lg_ hg (bl_ HB.out)); replace HB := ak (below_step (bl_ HB.out) hb); clear hb hbox hg; have hcz11_0 := bc_ BK176.out 0; have hcz11_1 := bc_ BK176.out 1; have hfz11_0 := blk_frozen BK176.out 0; have hfz11_1 := blk_frozen BK176.out 1; have p177 : 0 ≤ (a1 : Int) := as_; have q177 : a1 < (l0_1.length : Int) := as_; obtain ⟨ad177, A177_0, c177_0, e177, hx177_0, hl177_0, hi177_0⟩ := at_L5 HR0_1.out a1 p177 q177; cases e177; replace hx177_0 := hbc_ HB.out hx177_0; have HR177_0 := ak hi177_0; have HC177_0 := ak hl177_0; clear hi177_0 hl177_0; replace p177 := eq_true p177; replace q177 := eq_true q177; have p178 : 0 ≤ ((ji7) : Int) := as_; have q178 : (ji7) < ((rd_Ls_i64 l0_1 a1).length : Int) := as_; obtain ⟨ad178, e178, hx178_0⟩ := Kd.at_int HR177_0.out (ji7) p178 q178; cases e178; replace hx178_0 := hbc_ HB.out hx178_0; replace p178 := eq_true p178; replace q178 := eq_true q178))
          repeat (go_quiet (first | ((with_reducible refine gate_dst (N := 4) rfl ?_); refine bxe_ (N := 4) (cs := #[.int .i64 a0_0, .slice A0_1 l0_1.length c0_1]) (t := 51) ?_; intro gb176 hg w10 hbox hb; have BK176 := ak (hbox); have GW176 := ak (lg_ hg (bl_ HB.out)); have GE176 := ak (lg_ hg (bl_ HB.out)); replace HB := ak (below_step (bl_ HB.out) hb); clear hb hbox hg; have hcz11_0 := bc_ BK176.out 0; have hcz11_1 := bc_ BK176.out 1; have hfz11_0 := blk_frozen BK176.out 0; have hfz11_1 := blk_frozen BK176.out 1; have p177 : 0 ≤ (a1 : Int) := as_; have q177 : a1 < (l0_1.length : Int) := as_; obtain ⟨ad177, A177_0, c177_0, e177, hx177_0, hl177_0, hi177_0⟩ := at_L5 HR0_1.out a1 p177 q177; cases e177; replace hx177_0 := hbc_ HB.out hx177_0; have HR177_0 := ak hi177_0; have HC177_0 := ak hl177_0; clear hi177_0 hl177_0; replace p177 := eq_true p177; replace q177 := eq_true q177; have p178 : 0 ≤ ((ji7) : Int) := as_; have q178 : (ji7) < ((rd_Ls_i64 l0_1 a1).length : Int) := as_; obtain ⟨ad178, e178, hx178_0⟩ := Kd.at_int HR177_0.out (ji7) p178 q178; cases e178; replace hx178_0 := hbc_ HB.out hx178_0; replace p178 := eq_true p178; replace q178 := eq_true q178)); try go_wp2_with (first | ((with_reducible refine gate_dst (N := 4) rfl ?_); refine bxe_ (N := 4) (cs := #[.int .i64 a0_0, .slice A0_1 l0_1.length c0_1]) (t := 51) ?_; intro gb176 hg w10 hbox hb; have BK176 := ak (hbox); have GW176 := ak (lg_ hg (bl_ HB.out)); have GE176 := ak (lg_ hg (bl_ HB.out)); replace HB := ak (below_step (bl_ HB.out) hb); clear hb hbox hg; have hcz11_0 := bc_ BK176.out 0; have hcz11_1 := bc_ BK176.out 1; have hfz11_0 := blk_frozen BK176.out 0; have hfz11_1 := blk_frozen BK176.out 1; have p177 : 0 ≤ (a1 : Int) := as_; have q177 : a1 < (l0_1.length : Int) := as_; obtain ⟨ad177, A177_0, c177_0, e177, hx177_0, hl177_0, hi177_0⟩ := at_L5 HR0_1.out a1 p177 q177; cases e177; replace hx177_0 := hbc_ HB.out hx177_0; have HR177_0 := ak hi177_0; have HC177_0 := ak hl177_0; clear hi177_0 hl177_0; replace p177 := eq_true p177; replace q177 := eq_true q177; have p178 : 0 ≤ ((ji7) : Int) := as_; have q178 : (ji7) < ((rd_Ls_i64 l0_1 a1).length : Int) := as_; obtain ⟨ad178, e178, hx178_0⟩ := Kd.at_int HR177_0.out (ji7) p178 q178; cases e178; replace hx178_0 := hbc_ HB.out hx178_0; replace p178 := eq_true p178; replace q178 := eq_true q178)))
          go_ret
          exact ⟨by first | rfl | (simp [errW_none, errW_some] <;> rfl) | (simp only [← hji7]; first | rfl | (simp [errW_none, errW_some] <;> rfl)) | (simp [*, errW_none, errW_some] <;> rfl), by repeat (first | (with_reducible first | exact HB.out | apply below_alloc | apply pw_below_drewN | apply below_drew1 | refine below_set ?_ GE176.out) | exact HB.out)⟩
        rw [if_neg c9] at H; exact absurd H (by simp)
      rw [if_neg c8] at H; exact absurd H (by simp)
    rw [if_neg c6] at H; exact absurd H (by simp)
  rw [if_neg c5] at H; exact absurd H (by simp)

/-! ### spec_l24Blind: function 85 -/
mutual
def spec_l24Blind.l0 : Nat → Int → Int → Int → List (List Int) → Option (Bool)
  | 0, _, _, _, _ => none
  | k + 1, x1, x5, x180000, x180001 => if x5 < x180000 then (spec_l24Blind.l1 k x1 x5 0 x180000 x180001) else (some true)
def spec_l24Blind.l1 : Nat → Int → Int → Int → Int → List (List Int) → Option (Bool)
  | 0, _, _, _, _, _ => none
  | k + 1, x1, x5, x6, x180000, x180001 => if x6 < x180000 then ((spec_l24Two.f x180000 x180001 x1 x5 x6).bind fun t180 => ((spec_l24Two.f x180000 x180001 x1 x6 x5).bind fun t181 => (if t180 = t181 then (spec_l24Blind.l2 k x1 x5 x6 0 x180000 x180001) else (some false)))) else (spec_l24Blind.l0 k x1 (wrap64 (x5 + 1)) x180000 x180001)
def spec_l24Blind.l2 : Nat → Int → Int → Int → Int → Int → List (List Int) → Option (Bool)
  | 0, _, _, _, _, _, _ => none
  | k + 1, x1, x5, x6, x7, x180000, x180001 => if x7 < x180000 then ((spec_l24Two.f x180000 x180001 x1 x5 x6).bind fun t182 => ((spec_l24Two.f x180000 x180001 x1 t182 x7).bind fun t183 => ((spec_l24Two.f x180000 x180001 x1 x6 x7).bind fun t184 => ((spec_l24Two.f x180000 x180001 x1 x5 t184).bind fun t185 => (if t183 = t185 then (spec_l24Blind.l2 k x1 x5 x6 (wrap64 (x7 + 1)) x180000 x180001) else (some false)))))) else (spec_l24Blind.l1 k x1 x5 (wrap64 (x6 + 1)) x180000 x180001)
end
def spec_l24Blind.f (k : Nat) (a0_0 : Int) (l0_1 : List (List Int)) (a1 : Int) : Option (Bool) := spec_l24Blind.l0 k a1 0 a0_0 l0_1
theorem spec_l24Blind.mono_l : ∀ k, (∀ y0 y1 y2 y3, LeO (spec_l24Blind.l0 k y0 y1 y2 y3) (spec_l24Blind.l0 (k + 1) y0 y1 y2 y3)) ∧ (∀ y0 y1 y2 y3 y4, LeO (spec_l24Blind.l1 k y0 y1 y2 y3 y4) (spec_l24Blind.l1 (k + 1) y0 y1 y2 y3 y4)) ∧ (∀ y0 y1 y2 y3 y4 y5, LeO (spec_l24Blind.l2 k y0 y1 y2 y3 y4 y5) (spec_l24Blind.l2 (k + 1) y0 y1 y2 y3 y4 y5))
  | 0 => ⟨fun _ _ _ _ r h => by simp [spec_l24Blind.l0] at h, fun _ _ _ _ _ r h => by simp [spec_l24Blind.l1] at h, fun _ _ _ _ _ _ r h => by simp [spec_l24Blind.l2] at h⟩
  | k + 1 => by
    obtain ⟨ih0, ih1, ih2⟩ := spec_l24Blind.mono_l k; refine ⟨?_, ?_, ?_⟩
    · intro y0 y1 y2 y3
      unfold spec_l24Blind.l0
      repeat' first | (with_reducible first | exact ih0 _ _ _ _ | exact ih1 _ _ _ _ _ | exact ih2 _ _ _ _ _ _ | exact LeO.refl _ | exact LeO.none _ | refine LeO.ite ?_ ?_ | refine LeO.bind ?_ (fun _ => ?_)) | exact ih0 _ _ _ _ | exact ih1 _ _ _ _ _ | exact ih2 _ _ _ _ _ _ | exact LeO.none _ | refine LeO.ite ?_ ?_ | refine LeO.bind ?_ (fun _ => ?_)
    · intro y0 y1 y2 y3 y4
      unfold spec_l24Blind.l1
      repeat' first | (with_reducible first | exact ih0 _ _ _ _ | exact ih1 _ _ _ _ _ | exact ih2 _ _ _ _ _ _ | exact LeO.refl _ | exact LeO.none _ | refine LeO.ite ?_ ?_ | refine LeO.bind ?_ (fun _ => ?_)) | exact ih0 _ _ _ _ | exact ih1 _ _ _ _ _ | exact ih2 _ _ _ _ _ _ | exact LeO.none _ | refine LeO.ite ?_ ?_ | refine LeO.bind ?_ (fun _ => ?_)
    · intro y0 y1 y2 y3 y4 y5
      unfold spec_l24Blind.l2
      repeat' first | (with_reducible first | exact ih0 _ _ _ _ | exact ih1 _ _ _ _ _ | exact ih2 _ _ _ _ _ _ | exact LeO.refl _ | exact LeO.none _ | refine LeO.ite ?_ ?_ | refine LeO.bind ?_ (fun _ => ?_)) | exact ih0 _ _ _ _ | exact ih1 _ _ _ _ _ | exact ih2 _ _ _ _ _ _ | exact LeO.none _ | refine LeO.ite ?_ ?_ | refine LeO.bind ?_ (fun _ => ?_)
theorem spec_l24Blind.mono : ∀ a0 a1 a2 k, LeO (spec_l24Blind.f k a0 a1 a2) (spec_l24Blind.f (k + 1) a0 a1 a2) := by
  intro a0 a1 a2 k; obtain ⟨ih0, ih1, ih2⟩ := spec_l24Blind.mono_l k
  unfold spec_l24Blind.f
  repeat' first
      | (with_reducible exact ih0 _ _ _ _)
      | (with_reducible exact ih1 _ _ _ _ _)
      | (with_reducible exact ih2 _ _ _ _ _ _)
      | (with_reducible exact LeO.refl _)
      | (with_reducible exact LeO.none _)
      | (with_reducible refine LeO.ite ?_ ?_)
      | (with_reducible refine LeO.bind ?_ (fun _ => ?_))
      | exact ih0 _ _ _ _
      | exact ih1 _ _ _ _ _
      | exact ih2 _ _ _ _ _ _
      | exact LeO.none _
      | refine LeO.ite ?_ ?_
      | refine LeO.bind ?_ (fun _ => ?_)
def spec_l24Blind.T7 : Bool × List (List Nat × List Nat) := (true, [([], []), ([], []), ([], []), ([], []), ([0, 1, 2, 3], [0, 1, 2, 3]), ([], []), ([], []), ([], []), ([], []), ([5, 6, 7, 8, 4], [5, 6, 7, 8]), ([4, 9], [4, 9])])
def spec_l24Blind.B7 : List Nat := [0, 0, 0, 0, 15, 0, 0, 0, 0, 511, 1023]
theorem spec_l24Blind.tab7 : rtab .any (opsOf Try.f85 7) = spec_l24Blind.T7 := by kernel_rfl
theorem spec_l24Blind.bits7 : waitsOk spec_l24Blind.T7.2 spec_l24Blind.B7 = true := by kernel_rfl
def spec_l24Blind.T12 : Bool × List (List Nat × List Nat) := (true, [([], []), ([], []), ([], []), ([], []), ([], []), ([], []), ([2, 3, 4, 5], [2, 3, 4, 5]), ([], []), ([0, 1, 6, 7, 6], [0, 1, 6, 7]), ([], []), ([], []), ([], []), ([], []), ([], []), ([], []), ([], []), ([12, 13, 14, 15, 8], [12, 13, 14, 15]), ([9, 10, 11, 16, 16], [9, 10, 11, 16]), ([8, 17], [8, 17])])
def spec_l24Blind.B12 : List Nat := [0, 0, 0, 0, 0, 0, 60, 0, 255, 0, 0, 0, 0, 0, 0, 0, 61951, 131071, 262143]
theorem spec_l24Blind.tab12 : rtab .any (opsOf Try.f85 12) = spec_l24Blind.T12 := by kernel_rfl
theorem spec_l24Blind.bits12 : waitsOk spec_l24Blind.T12.2 spec_l24Blind.B12 = true := by kernel_rfl
set_option maxHeartbeats 8000000 in
set_option maxRecDepth 100000 in
theorem spec_l24Blind.calls (k : Nat) (a0_0 : Int) (A0_1 : Option Addr) (c0_1 : Nat) (l0_1 : List (List Int)) (a1 : Int) (r : Bool) (w : World) (hr0_1 : Kd.C (Kd.slice 3 (Kd.int .i64)) w A0_1 l0_1.length l0_1) (hc0_1 : l0_1.length ≤ c0_1) (h : spec_l24Blind.f k a0_0 l0_1 a1 = some r) :
    Calls Try.prog 85 #[.agg #[.int .i64 a0_0, .slice A0_1 l0_1.length c0_1], .int .i64 a1] w fun e w' => e = .returned (.bool r) ∧ Below w.heap.size w w' := by
  have hu51 := Try.underlying51; have HR0_1 := ak hr0_1; have HC0_1 := ak hc0_1; clear hr0_1 hc0_1; have HB := ak (Below.refl w.heap.size w); have H : (spec_l24Blind.l0 k a1 0 a0_0 l0_1) = some r := h; clear h; have H' := ak H; clear H
  go_enter Try.func85, Try.ntmps85
  go_wp2_with (first | ((with_reducible refine gate_dst (N := 2) rfl ?_); refine bxe_ (N := 2) (cs := #[.int .i64 a0_0, .slice A0_1 l0_1.length c0_1]) (t := 51) ?_; intro gb179 hg w3 hbox hb; have BK179 := ak (hbox); have GW179 := ak (lg_ hg (bl_ HB.out)); have GE179 := ak (lg_ hg (bl_ HB.out)); replace HB := ak (below_step (bl_ HB.out) hb); clear hb hbox hg))
  go_loopg [5] k (fun kq v5 w' => ∃ (x5_1 : Int), v5 = .int .i64 x5_1 ∧ Aside0 (spec_l24Blind.l0 kq a1 x5_1 a0_0 l0_1 = some r) ∧ Aside0 (kq ≤ k) ∧ Aside0 (w'.heap[gb179]? = some (.cells #[.int .i64 a0_0, (.slice A0_1 l0_1.length c0_1)] 51 (0, 0))) ∧ Aside0 (Below w.heap.size w w'))
  case atStart => exact ⟨(0), (by first | rfl | (simp; done) | (simp [*]; done)), H', ⟨Nat.le_refl _⟩, ⟨bk_ BK179.out⟩, ⟨bs1_ HB.out GE179.out⟩⟩
  case round =>
    clear H'; (try clear p2); obtain ⟨x5_1, rfl, HA, HK1, BK179, HB⟩ := hrel
    cases gk with
    | zero => exact absurd HA.out (by simp [spec_l24Blind.l0])
    | succ k1 =>
      have H := HA.out; clear HA
      simp only [spec_l24Blind.l0] at H
      by_cases c4 : x5_1 < a0_0
      · rw [if_pos c4] at H; have c4b0 := decide_eq_true c4; clear c4; have H' := ak H; clear H; have hcz5_0 := bc_ BK179.out 0; have hcz5_1 := bc_ BK179.out 1; have hfz5_0 := blk_frozen BK179.out 0; have hfz5_1 := blk_frozen BK179.out 1
        go_wp2
        go_loopg [6] k1 (fun kq v6 w' => ∃ (x6_2 : Int), v6 = .int .i64 x6_2 ∧ Aside0 (spec_l24Blind.l1 kq a1 x5_1 x6_2 a0_0 l0_1 = some r) ∧ Aside0 (kq ≤ k1) ∧ Aside0 (w'.heap[gb179]? = some (.cells #[.int .i64 a0_0, (.slice A0_1 l0_1.length c0_1)] 51 (0, 0))) ∧ Aside0 (Below w.heap.size w w'))
        case atStart => exact ⟨(0), (by first | rfl | (simp; done) | (simp [*]; done)), H', ⟨Nat.le_refl _⟩, ⟨bk_ BK179.out⟩, ⟨bs1_ HB.out GE179.out⟩⟩
        case round =>
          clear H'; (try clear p2); (try clear c4); (try clear c4b0); (try clear hcz5_0); (try clear hcz5_1); (try clear hfz5_0); (try clear hfz5_1); (try clear p2); obtain ⟨x6_2, rfl, HA, HK2, BK179, HB⟩ := hrel
          cases gk with
          | zero => exact absurd HA.out (by simp [spec_l24Blind.l1])
          | succ k2 =>
            have H := HA.out; clear HA
            simp only [spec_l24Blind.l1] at H
            by_cases c6 : x6_2 < a0_0
            · rw [if_pos c6] at H; have c6b0 := decide_eq_true c6; clear c6; replace H := Option.bind_eq_some_iff.mp H; obtain ⟨t180, A70, H⟩ := H; have A7 := ak A70; clear A70; replace H := Option.bind_eq_some_iff.mp H; obtain ⟨t181, A80, H⟩ := H; have A8 := ak A80; clear A80
              by_cases c9 : t180 = t181
              · rw [if_pos c9] at H; have c9b0 : (t180 == t181) = true := beq_iff_eq.mpr c9; have c9b1 : (t180 != t181) = false := bne_eq_false_iff_eq.mpr c9; clear c9; have H' := ak H; clear H; have hcz10_0 := bc_ BK179.out 0; have hcz10_1 := bc_ BK179.out 1; have hfz10_0 := blk_frozen BK179.out 0; have hfz10_1 := blk_frozen BK179.out 1
                try go_wp2
                replace BK179 := ak (blk_drew BK179.out); replace HB := ak (below_drew1 HB.out); refine start_ (n := 11) (S := fun w' => w'.cell? ⟨gb179, 0, none⟩ = some (.int .i64 a0_0) ∧ w'.cell? ⟨gb179, 1, none⟩ = some (.slice A0_1 l0_1.length c0_1)) (ds := []) (bm 11 0) (by kernel_rfl) rfl (by kernel_rfl) ⟨(blk_cell BK179.out 0).trans rfl, (blk_cell BK179.out 1).trans rfl⟩ (fun hHeld => ?_); refine with_tabW spec_l24Blind.tab7 spec_l24Blind.bits7 (fun HT_ HW_ => ?_)
                generalize wr.drew = w11 at BK179 HB hHeld ⊢
                refine pv_ 1 ?_; refine pv_ 2 ?_; refine pv_ 3 ?_; refine pv_ 6 ?_; refine pv_ 7 ?_; refine pv_ 8 ?_; refine tv_ 0 hHeld ?_; refine tv_ 5 hHeld ?_; refine one_ (i := 4) (N := some 24) (bm 11 511) rfl rfl (one_of HT_.out (by kernel_rfl)) (by decide) (fun K hK => ?_); refine goesB_ Try.func143 (by kernel_rfl) rfl #[.agg #[.int .i64 a0_0, .slice A0_1 l0_1.length c0_1], .int .i64 a1, .int .i64 x5_1, .int .i64 x6_2] (by rfl) rfl rfl ?_
                with_reducible refine (spec_l24Two.calls a0_0 _ _ l0_1 a1 x5_1 x6_2 t180 _ ?side1 ?side2 A7.out).mono ?_
                (case side1 => exact cb_ HR0_1.out HB.out); (case side2 => exact HC0_1.out); rintro e w12 ⟨rfl, hb⟩; refine ⟨_, rfl, ?_⟩; replace BK179 := ak (blk_below (bk_ BK179.out) hb); replace HB := ak (below_step (bs1_ HB.out GE179.out) hb); (try clear hb); (try clear hb2); (try clear hk); (try clear hi); refine hK.out _ _ ⟨(blk_cell BK179.out 0).trans rfl, (blk_cell BK179.out 1).trans rfl⟩ (fun hHeld => ?_); clear hK K; refine norm_ (a' := ?_) ?_ ?_
                rotate_left
                · show Act.put _ (some 24) _ = _
                  simp only [Act.put, List.setIfInBounds_toArray, List.set_cons_zero, List.set_cons_succ, i64_w, i32_w]
                  rfl
                refine one_ (i := 9) (N := some 29) (bm 11 1023) rfl rfl (one_of HT_.out (by kernel_rfl)) (by decide) (fun K hK => ?_); refine goesB_ Try.func143 (by kernel_rfl) rfl #[.agg #[.int .i64 a0_0, .slice A0_1 l0_1.length c0_1], .int .i64 a1, .int .i64 x6_2, .int .i64 x5_1] (by rfl) rfl rfl ?_
                with_reducible refine (spec_l24Two.calls a0_0 _ _ l0_1 a1 x6_2 x5_1 t181 _ ?side1 ?side2 A8.out).mono ?_
                (case side1 => exact cb_ HR0_1.out HB.out); (case side2 => exact HC0_1.out); rintro e w13 ⟨rfl, hb⟩; refine ⟨_, rfl, ?_⟩; replace BK179 := ak (blk_below (bk_ BK179.out) hb); replace HB := ak (below_step (bs1_ HB.out GE179.out) hb); (try clear hb); (try clear hb2); (try clear hk); (try clear hi); refine hK.out _ _ ⟨(blk_cell BK179.out 0).trans rfl, (blk_cell BK179.out 1).trans rfl⟩ (fun hHeld => ?_); clear hK K; refine norm_ (a' := ?_) ?_ ?_
                rotate_left
                · show Act.put _ (some 29) _ = _
                  simp only [Act.put, List.setIfInBounds_toArray, List.set_cons_zero, List.set_cons_succ, i64_w, i32_w]
                  rfl
                refine pv_ 10 ?_; refine done_ (done_of HT_.out (by kernel_rfl)) ?_
                try go_wp2
                go_loopg [7] k2 (fun kq v7 w' => ∃ (x7_3 : Int), v7 = .int .i64 x7_3 ∧ Aside0 (spec_l24Blind.l2 kq a1 x5_1 x6_2 x7_3 a0_0 l0_1 = some r) ∧ Aside0 (kq ≤ k2) ∧ Aside0 (w'.heap[gb179]? = some (.cells #[.int .i64 a0_0, (.slice A0_1 l0_1.length c0_1)] 51 (0, 0))) ∧ Aside0 (Below w.heap.size w w'))
                case atStart => exact ⟨(0), (by first | rfl | (simp; done) | (simp [*]; done)), H', ⟨Nat.le_refl _⟩, ⟨bk_ BK179.out⟩, ⟨bs1_ HB.out GE179.out⟩⟩
                case round =>
                  clear H'; (try clear c1); (try clear p2); (try clear c4); (try clear c4b0); (try clear c6); (try clear c6b0); (try clear c8); (try clear c9); (try clear c9b0); (try clear c9b1); (try clear hcz10_0); (try clear hcz10_1); (try clear hcz5_0); (try clear hcz5_1); (try clear hfz10_0); (try clear hfz10_1); (try clear hfz5_0); (try clear hfz5_1); (try clear p2); obtain ⟨x7_3, rfl, HA, HK3, BK179, HB⟩ := hrel
                  cases gk with
                  | zero => exact absurd HA.out (by simp [spec_l24Blind.l2])
                  | succ k3 =>
                    have H := HA.out; clear HA
                    simp only [spec_l24Blind.l2] at H
                    by_cases c14 : x7_3 < a0_0
                    · rw [if_pos c14] at H; have c14b0 := decide_eq_true c14; clear c14; replace H := Option.bind_eq_some_iff.mp H; obtain ⟨t182, A150, H⟩ := H; have A15 := ak A150; clear A150; replace H := Option.bind_eq_some_iff.mp H; obtain ⟨t183, A160, H⟩ := H; have A16 := ak A160; clear A160; replace H := Option.bind_eq_some_iff.mp H; obtain ⟨t184, A170, H⟩ := H; have A17 := ak A170; clear A170; replace H := Option.bind_eq_some_iff.mp H; obtain ⟨t185, A180, H⟩ := H; have A18 := ak A180; clear A180
                      by_cases c19 : t183 = t185
                      · rw [if_pos c19] at H; have c19b0 : (t183 == t185) = true := beq_iff_eq.mpr c19; have c19b1 : (t183 != t185) = false := bne_eq_false_iff_eq.mpr c19; clear c19; have H' := ak H; clear H; have hcz20_0 := bc_ BK179.out 0; have hcz20_1 := bc_ BK179.out 1; have hfz20_0 := blk_frozen BK179.out 0; have hfz20_1 := blk_frozen BK179.out 1
                        try go_wp2
                        replace BK179 := ak (blk_drew BK179.out); replace HB := ak (below_drew1 HB.out); refine start_ (n := 19) (S := fun w' => w'.cell? ⟨gb179, 0, none⟩ = some (.int .i64 a0_0) ∧ w'.cell? ⟨gb179, 1, none⟩ = some (.slice A0_1 l0_1.length c0_1)) (ds := []) (bm 19 0) (by kernel_rfl) rfl (by kernel_rfl) ⟨(blk_cell BK179.out 0).trans rfl, (blk_cell BK179.out 1).trans rfl⟩ (fun hHeld => ?_); refine with_tabW spec_l24Blind.tab12 spec_l24Blind.bits12 (fun HT_ HW_ => ?_)
                        generalize wr.drew = w21 at BK179 HB hHeld ⊢
                        refine pv_ 1 ?_; refine pv_ 3 ?_; refine pv_ 4 ?_; refine pv_ 5 ?_; refine pv_ 7 ?_; refine pv_ 10 ?_; refine pv_ 11 ?_; refine pv_ 13 ?_; refine pv_ 14 ?_; refine pv_ 15 ?_; refine tv_ 0 hHeld ?_; refine tv_ 2 hHeld ?_; refine tv_ 9 hHeld ?_; refine tv_ 12 hHeld ?_; refine one_ (i := 6) (N := some 43) (bm 19 65279) rfl rfl (one_of HT_.out (by kernel_rfl)) (by decide) (fun K hK => ?_); refine goesB_ Try.func143 (by kernel_rfl) rfl #[.agg #[.int .i64 a0_0, .slice A0_1 l0_1.length c0_1], .int .i64 a1, .int .i64 x5_1, .int .i64 x6_2] (by rfl) rfl rfl ?_
                        with_reducible refine (spec_l24Two.calls a0_0 _ _ l0_1 a1 x5_1 x6_2 t182 _ ?side1 ?side2 A15.out).mono ?_
                        (case side1 => exact cb_ HR0_1.out HB.out); (case side2 => exact HC0_1.out); rintro e w22 ⟨rfl, hb⟩; refine ⟨_, rfl, ?_⟩; replace BK179 := ak (blk_below (bk_ BK179.out) hb); replace HB := ak (below_step (bs1_ HB.out GE179.out) hb); (try clear hb); (try clear hb2); (try clear hk); (try clear hi); refine hK.out _ _ ⟨(blk_cell BK179.out 0).trans rfl, (blk_cell BK179.out 1).trans rfl⟩ (fun hHeld => ?_); clear hK K; refine norm_ (a' := ?_) ?_ ?_
                        rotate_left
                        · show Act.put _ (some 43) _ = _
                          simp only [Act.put, List.setIfInBounds_toArray, List.set_cons_zero, List.set_cons_succ, i64_w, i32_w]
                          rfl
                        refine one_ (i := 8) (N := some 45) (bm 19 65535) rfl rfl (one_of HT_.out (by kernel_rfl)) (by decide) (fun K hK => ?_); refine goesB_ Try.func143 (by kernel_rfl) rfl #[.agg #[.int .i64 a0_0, .slice A0_1 l0_1.length c0_1], .int .i64 a1, .int .i64 t182, .int .i64 x7_3] (by rfl) rfl rfl ?_
                        with_reducible refine (spec_l24Two.calls a0_0 _ _ l0_1 a1 t182 x7_3 t183 _ ?side1 ?side2 A16.out).mono ?_
                        (case side1 => exact cb_ HR0_1.out HB.out); (case side2 => exact HC0_1.out); rintro e w23 ⟨rfl, hb⟩; refine ⟨_, rfl, ?_⟩; replace BK179 := ak (blk_below (bk_ BK179.out) hb); replace HB := ak (below_step (bs1_ HB.out GE179.out) hb); (try clear hb); (try clear hb2); (try clear hk); (try clear hi); refine hK.out _ _ ⟨(blk_cell BK179.out 0).trans rfl, (blk_cell BK179.out 1).trans rfl⟩ (fun hHeld => ?_); clear hK K; refine norm_ (a' := ?_) ?_ ?_
                        rotate_left
                        · show Act.put _ (some 45) _ = _
                          simp only [Act.put, List.setIfInBounds_toArray, List.set_cons_zero, List.set_cons_succ, i64_w, i32_w]
                          rfl
                        refine one_ (i := 16) (N := some 53) (bm 19 131071) rfl rfl (one_of HT_.out (by kernel_rfl)) (by decide) (fun K hK => ?_); refine goesB_ Try.func143 (by kernel_rfl) rfl #[.agg #[.int .i64 a0_0, .slice A0_1 l0_1.length c0_1], .int .i64 a1, .int .i64 x6_2, .int .i64 x7_3] (by rfl) rfl rfl ?_
                        with_reducible refine (spec_l24Two.calls a0_0 _ _ l0_1 a1 x6_2 x7_3 t184 _ ?side1 ?side2 A17.out).mono ?_
                        (case side1 => exact cb_ HR0_1.out HB.out); (case side2 => exact HC0_1.out); rintro e w24 ⟨rfl, hb⟩; refine ⟨_, rfl, ?_⟩; replace BK179 := ak (blk_below (bk_ BK179.out) hb); replace HB := ak (below_step (bs1_ HB.out GE179.out) hb); (try clear hb); (try clear hb2); (try clear hk); (try clear hi); refine hK.out _ _ ⟨(blk_cell BK179.out 0).trans rfl, (blk_cell BK179.out 1).trans rfl⟩ (fun hHeld => ?_); clear hK K; refine norm_ (a' := ?_) ?_ ?_
                        rotate_left
                        · show Act.put _ (some 53) _ = _
                          simp only [Act.put, List.setIfInBounds_toArray, List.set_cons_zero, List.set_cons_succ, i64_w, i32_w]
                          rfl
                        refine one_ (i := 17) (N := some 54) (bm 19 262143) rfl rfl (one_of HT_.out (by kernel_rfl)) (by decide) (fun K hK => ?_); refine goesB_ Try.func143 (by kernel_rfl) rfl #[.agg #[.int .i64 a0_0, .slice A0_1 l0_1.length c0_1], .int .i64 a1, .int .i64 x5_1, .int .i64 t184] (by rfl) rfl rfl ?_
                        with_reducible refine (spec_l24Two.calls a0_0 _ _ l0_1 a1 x5_1 t184 t185 _ ?side1 ?side2 A18.out).mono ?_
                        (case side1 => exact cb_ HR0_1.out HB.out); (case side2 => exact HC0_1.out); rintro e w25 ⟨rfl, hb⟩; refine ⟨_, rfl, ?_⟩; replace BK179 := ak (blk_below (bk_ BK179.out) hb); replace HB := ak (below_step (bs1_ HB.out GE179.out) hb); (try clear hb); (try clear hb2); (try clear hk); (try clear hi); refine hK.out _ _ ⟨(blk_cell BK179.out 0).trans rfl, (blk_cell BK179.out 1).trans rfl⟩ (fun hHeld => ?_); clear hK K; refine norm_ (a' := ?_) ?_ ?_
                        rotate_left
                        · show Act.put _ (some 54) _ = _
                          simp only [Act.put, List.setIfInBounds_toArray, List.set_cons_zero, List.set_cons_succ, i64_w, i32_w]
                          rfl
                        refine pv_ 18 ?_; refine done_ (done_of HT_.out (by kernel_rfl)) ?_
                        try go_wp2
                        go_roundg k3
                        case measure => have := HK1.out; have := HK2.out; have := HK3.out; omega
                        case rel => exact ⟨(wrap64 (x7_3 + 1)), (by first | rfl | (simp; done) | (simp [*]; done)), H', ⟨by have := HK1.out; have := HK2.out; have := HK3.out; omega⟩, ⟨bk_ BK179.out⟩, ⟨bs1_ HB.out GE179.out⟩⟩
                      rw [if_neg c19] at H; have c19b0 : (t183 == t185) = false := beq_eq_false_iff_ne.mpr c19; have c19b1 : (t183 != t185) = true := bne_iff_ne.mpr c19; obtain rfl := Option.some.inj H; have hcz26_0 := bc_ BK179.out 0; have hcz26_1 := bc_ BK179.out 1; have hfz26_0 := blk_frozen BK179.out 0; have hfz26_1 := blk_frozen BK179.out 1
                      try go_wp2
                      replace BK179 := ak (blk_drew BK179.out); replace HB := ak (below_drew1 HB.out); refine start_ (n := 19) (S := fun w' => w'.cell? ⟨gb179, 0, none⟩ = some (.int .i64 a0_0) ∧ w'.cell? ⟨gb179, 1, none⟩ = some (.slice A0_1 l0_1.length c0_1)) (ds := []) (bm 19 0) (by kernel_rfl) rfl (by kernel_rfl) ⟨(blk_cell BK179.out 0).trans rfl, (blk_cell BK179.out 1).trans rfl⟩ (fun hHeld => ?_); refine with_tabW spec_l24Blind.tab12 spec_l24Blind.bits12 (fun HT_ HW_ => ?_)
                      generalize wr.drew = w27 at BK179 HB hHeld ⊢
                      refine pv_ 1 ?_; refine pv_ 3 ?_; refine pv_ 4 ?_; refine pv_ 5 ?_; refine pv_ 7 ?_; refine pv_ 10 ?_; refine pv_ 11 ?_; refine pv_ 13 ?_; refine pv_ 14 ?_; refine pv_ 15 ?_; refine tv_ 0 hHeld ?_; refine tv_ 2 hHeld ?_; refine tv_ 9 hHeld ?_; refine tv_ 12 hHeld ?_; refine one_ (i := 6) (N := some 43) (bm 19 65279) rfl rfl (one_of HT_.out (by kernel_rfl)) (by decide) (fun K hK => ?_); refine goesB_ Try.func143 (by kernel_rfl) rfl #[.agg #[.int .i64 a0_0, .slice A0_1 l0_1.length c0_1], .int .i64 a1, .int .i64 x5_1, .int .i64 x6_2] (by rfl) rfl rfl ?_
                      with_reducible refine (spec_l24Two.calls a0_0 _ _ l0_1 a1 x5_1 x6_2 t182 _ ?side1 ?side2 A15.out).mono ?_
                      (case side1 => exact cb_ HR0_1.out HB.out); (case side2 => exact HC0_1.out); rintro e w28 ⟨rfl, hb⟩; refine ⟨_, rfl, ?_⟩; replace BK179 := ak (blk_below (bk_ BK179.out) hb); replace HB := ak (below_step (bs1_ HB.out GE179.out) hb); (try clear hb); (try clear hb2); (try clear hk); (try clear hi); refine hK.out _ _ ⟨(blk_cell BK179.out 0).trans rfl, (blk_cell BK179.out 1).trans rfl⟩ (fun hHeld => ?_); clear hK K; refine norm_ (a' := ?_) ?_ ?_
                      rotate_left
                      · show Act.put _ (some 43) _ = _
                        simp only [Act.put, List.setIfInBounds_toArray, List.set_cons_zero, List.set_cons_succ, i64_w, i32_w]
                        rfl
                      refine one_ (i := 8) (N := some 45) (bm 19 65535) rfl rfl (one_of HT_.out (by kernel_rfl)) (by decide) (fun K hK => ?_); refine goesB_ Try.func143 (by kernel_rfl) rfl #[.agg #[.int .i64 a0_0, .slice A0_1 l0_1.length c0_1], .int .i64 a1, .int .i64 t182, .int .i64 x7_3] (by rfl) rfl rfl ?_
                      with_reducible refine (spec_l24Two.calls a0_0 _ _ l0_1 a1 t182 x7_3 t183 _ ?side1 ?side2 A16.out).mono ?_
                      (case side1 => exact cb_ HR0_1.out HB.out); (case side2 => exact HC0_1.out); rintro e w29 ⟨rfl, hb⟩; refine ⟨_, rfl, ?_⟩; replace BK179 := ak (blk_below (bk_ BK179.out) hb); replace HB := ak (below_step (bs1_ HB.out GE179.out) hb); (try clear hb); (try clear hb2); (try clear hk); (try clear hi); refine hK.out _ _ ⟨(blk_cell BK179.out 0).trans rfl, (blk_cell BK179.out 1).trans rfl⟩ (fun hHeld => ?_); clear hK K; refine norm_ (a' := ?_) ?_ ?_
                      rotate_left
                      · show Act.put _ (some 45) _ = _
                        simp only [Act.put, List.setIfInBounds_toArray, List.set_cons_zero, List.set_cons_succ, i64_w, i32_w]
                        rfl
                      refine one_ (i := 16) (N := some 53) (bm 19 131071) rfl rfl (one_of HT_.out (by kernel_rfl)) (by decide) (fun K hK => ?_); refine goesB_ Try.func143 (by kernel_rfl) rfl #[.agg #[.int .i64 a0_0, .slice A0_1 l0_1.length c0_1], .int .i64 a1, .int .i64 x6_2, .int .i64 x7_3] (by rfl) rfl rfl ?_
                      with_reducible refine (spec_l24Two.calls a0_0 _ _ l0_1 a1 x6_2 x7_3 t184 _ ?side1 ?side2 A17.out).mono ?_
                      (case side1 => exact cb_ HR0_1.out HB.out); (case side2 => exact HC0_1.out); rintro e w30 ⟨rfl, hb⟩; refine ⟨_, rfl, ?_⟩; replace BK179 := ak (blk_below (bk_ BK179.out) hb); replace HB := ak (below_step (bs1_ HB.out GE179.out) hb); (try clear hb); (try clear hb2); (try clear hk); (try clear hi); refine hK.out _ _ ⟨(blk_cell BK179.out 0).trans rfl, (blk_cell BK179.out 1).trans rfl⟩ (fun hHeld => ?_); clear hK K; refine norm_ (a' := ?_) ?_ ?_
                      rotate_left
                      · show Act.put _ (some 53) _ = _
                        simp only [Act.put, List.setIfInBounds_toArray, List.set_cons_zero, List.set_cons_succ, i64_w, i32_w]
                        rfl
                      refine one_ (i := 17) (N := some 54) (bm 19 262143) rfl rfl (one_of HT_.out (by kernel_rfl)) (by decide) (fun K hK => ?_); refine goesB_ Try.func143 (by kernel_rfl) rfl #[.agg #[.int .i64 a0_0, .slice A0_1 l0_1.length c0_1], .int .i64 a1, .int .i64 x5_1, .int .i64 t184] (by rfl) rfl rfl ?_
                      with_reducible refine (spec_l24Two.calls a0_0 _ _ l0_1 a1 x5_1 t184 t185 _ ?side1 ?side2 A18.out).mono ?_
                      (case side1 => exact cb_ HR0_1.out HB.out); (case side2 => exact HC0_1.out); rintro e w31 ⟨rfl, hb⟩; refine ⟨_, rfl, ?_⟩; replace BK179 := ak (blk_below (bk_ BK179.out) hb); replace HB := ak (below_step (bs1_ HB.out GE179.out) hb); (try clear hb); (try clear hb2); (try clear hk); (try clear hi); refine hK.out _ _ ⟨(blk_cell BK179.out 0).trans rfl, (blk_cell BK179.out 1).trans rfl⟩ (fun hHeld => ?_); clear hK K; refine norm_ (a' := ?_) ?_ ?_
                      rotate_left
                      · show Act.put _ (some 54) _ = _
                        simp only [Act.put, List.setIfInBounds_toArray, List.set_cons_zero, List.set_cons_succ, i64_w, i32_w]
                        rfl
                      refine pv_ 18 ?_; refine done_ (done_of HT_.out (by kernel_rfl)) ?_
                      try go_wp2
                      go_ret
                      exact fin_ (bs1_ HB.out GE179.out)
                    rw [if_neg c14] at H; have c14b0 := decide_eq_false c14; clear c14; have H' := ak H; clear H; have hcz32_0 := bc_ BK179.out 0; have hcz32_1 := bc_ BK179.out 1; have hfz32_0 := blk_frozen BK179.out 0; have hfz32_1 := blk_frozen BK179.out 1
                    go_wp2
                    go_roundg k3
                    case measure => have := HK1.out; have := HK2.out; have := HK3.out; omega
                    case rel => exact ⟨(wrap64 (x6_2 + 1)), (by first | rfl | (simp; done) | (simp [*]; done)), H', ⟨by have := HK1.out; have := HK2.out; have := HK3.out; omega⟩, ⟨bk_ BK179.out⟩, ⟨bs1_ HB.out GE179.out⟩⟩
              rw [if_neg c9] at H; have c9b0 : (t180 == t181) = false := beq_eq_false_iff_ne.mpr c9; have c9b1 : (t180 != t181) = true := bne_iff_ne.mpr c9; obtain rfl := Option.some.inj H; have hcz33_0 := bc_ BK179.out 0; have hcz33_1 := bc_ BK179.out 1; have hfz33_0 := blk_frozen BK179.out 0; have hfz33_1 := blk_frozen BK179.out 1
              try go_wp2
              replace BK179 := ak (blk_drew BK179.out); replace HB := ak (below_drew1 HB.out); refine start_ (n := 11) (S := fun w' => w'.cell? ⟨gb179, 0, none⟩ = some (.int .i64 a0_0) ∧ w'.cell? ⟨gb179, 1, none⟩ = some (.slice A0_1 l0_1.length c0_1)) (ds := []) (bm 11 0) (by kernel_rfl) rfl (by kernel_rfl) ⟨(blk_cell BK179.out 0).trans rfl, (blk_cell BK179.out 1).trans rfl⟩ (fun hHeld => ?_); refine with_tabW spec_l24Blind.tab7 spec_l24Blind.bits7 (fun HT_ HW_ => ?_)
              generalize wr.drew = w34 at BK179 HB hHeld ⊢
              refine pv_ 1 ?_; refine pv_ 2 ?_; refine pv_ 3 ?_; refine pv_ 6 ?_; refine pv_ 7 ?_; refine pv_ 8 ?_; refine tv_ 0 hHeld ?_; refine tv_ 5 hHeld ?_; refine one_ (i := 4) (N := some 24) (bm 11 511) rfl rfl (one_of HT_.out (by kernel_rfl)) (by decide) (fun K hK => ?_); refine goesB_ Try.func143 (by kernel_rfl) rfl #[.agg #[.int .i64 a0_0, .slice A0_1 l0_1.length c0_1], .int .i64 a1, .int .i64 x5_1, .int .i64 x6_2] (by rfl) rfl rfl ?_
              with_reducible refine (spec_l24Two.calls a0_0 _ _ l0_1 a1 x5_1 x6_2 t180 _ ?side1 ?side2 A7.out).mono ?_
              (case side1 => exact cb_ HR0_1.out HB.out); (case side2 => exact HC0_1.out); rintro e w35 ⟨rfl, hb⟩; refine ⟨_, rfl, ?_⟩; replace BK179 := ak (blk_below (bk_ BK179.out) hb); replace HB := ak (below_step (bs1_ HB.out GE179.out) hb); (try clear hb); (try clear hb2); (try clear hk); (try clear hi); refine hK.out _ _ ⟨(blk_cell BK179.out 0).trans rfl, (blk_cell BK179.out 1).trans rfl⟩ (fun hHeld => ?_); clear hK K; refine norm_ (a' := ?_) ?_ ?_
              rotate_left
              · show Act.put _ (some 24) _ = _
                simp only [Act.put, List.setIfInBounds_toArray, List.set_cons_zero, List.set_cons_succ, i64_w, i32_w]
                rfl
              refine one_ (i := 9) (N := some 29) (bm 11 1023) rfl rfl (one_of HT_.out (by kernel_rfl)) (by decide) (fun K hK => ?_); refine goesB_ Try.func143 (by kernel_rfl) rfl #[.agg #[.int .i64 a0_0, .slice A0_1 l0_1.length c0_1], .int .i64 a1, .int .i64 x6_2, .int .i64 x5_1] (by rfl) rfl rfl ?_
              with_reducible refine (spec_l24Two.calls a0_0 _ _ l0_1 a1 x6_2 x5_1 t181 _ ?side1 ?side2 A8.out).mono ?_
              (case side1 => exact cb_ HR0_1.out HB.out); (case side2 => exact HC0_1.out); rintro e w36 ⟨rfl, hb⟩; refine ⟨_, rfl, ?_⟩; replace BK179 := ak (blk_below (bk_ BK179.out) hb); replace HB := ak (below_step (bs1_ HB.out GE179.out) hb); (try clear hb); (try clear hb2); (try clear hk); (try clear hi); refine hK.out _ _ ⟨(blk_cell BK179.out 0).trans rfl, (blk_cell BK179.out 1).trans rfl⟩ (fun hHeld => ?_); clear hK K; refine norm_ (a' := ?_) ?_ ?_
              rotate_left
              · show Act.put _ (some 29) _ = _
                simp only [Act.put, List.setIfInBounds_toArray, List.set_cons_zero, List.set_cons_succ, i64_w, i32_w]
                rfl
              refine pv_ 10 ?_; refine done_ (done_of HT_.out (by kernel_rfl)) ?_
              try go_wp2
              go_ret
              exact fin_ (bs1_ HB.out GE179.out)
            rw [if_neg c6] at H; have c6b0 := decide_eq_false c6; clear c6; have H' := ak H; clear H; have hcz37_0 := bc_ BK179.out 0; have hcz37_1 := bc_ BK179.out 1; have hfz37_0 := blk_frozen BK179.out 0; have hfz37_1 := blk_frozen BK179.out 1
            go_wp2
            go_roundg k2
            case measure => have := HK1.out; have := HK2.out; omega
            case rel => exact ⟨(wrap64 (x5_1 + 1)), (by first | rfl | (simp; done) | (simp [*]; done)), H', ⟨by have := HK1.out; have := HK2.out; omega⟩, ⟨bk_ BK179.out⟩, ⟨bs1_ HB.out GE179.out⟩⟩
      rw [if_neg c4] at H; have c4b0 := decide_eq_false c4; clear c4; obtain rfl := Option.some.inj H; have hcz38_0 := bc_ BK179.out 0; have hcz38_1 := bc_ BK179.out 1; have hfz38_0 := blk_frozen BK179.out 0; have hfz38_1 := blk_frozen BK179.out 1
      go_wp2
      go_ret
      exact fin_ (bs1_ HB.out GE179.out)

end Go.Proofs.Ytcboagkbcoihjaa.XRenamed
