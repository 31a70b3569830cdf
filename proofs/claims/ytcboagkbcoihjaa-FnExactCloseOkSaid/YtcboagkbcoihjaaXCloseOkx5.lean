-- printed by a program of this session (xprint, turned from the kit's print) for this claim
import Derived.Test.YtcboagkbcoihjaaXCloseOkx0
import Derived.Test.YtcboagkbcoihjaaXCloseOkx1
import Derived.Test.YtcboagkbcoihjaaXCloseOkx4
namespace Go.Proofs.Ytcboagkbcoihjaa.XCloseOk
open Go.RowKit Go.Proofs.Ytcboagkbcoihjaa.XOpens Go.Proofs.YtcboagkbcoihjaaW.PrintWords Go.Proofs.YtcboagkbcoihjaaW.PrintLast Go.Proofs.YtcboagkbcoihjaaW.PrintMore
attribute [local go_sem] max2_int min2_int max_two min_two max_three min_three max_four min_four   -- for this text's walks alone
set_option linter.unusedVariables false
set_option linter.unusedSimpArgs false

attribute [local go_sem high] eqA99
/-! ### spec_NameOk: function 140 -/
def spec_NameOk.l0 : Nat → ByteArray → Int → Option (Bool)
  | 0, _, _ => none
  | k + 1, x0, x3 => if x3 < (x0.size : Int) then (if 0 ≤ x3 then (if (bt x0 x3) ≥ 97 then (if (bt x0 x3) ≤ 122 then (spec_NameOk.l0 k x0 (wrap64 (x3 + 1))) else (if x3 > 0 then (if (bt x0 x3) ≥ 48 then (if ((bt x0 x3) ≤ 57) then (spec_NameOk.l0 k x0 (wrap64 (x3 + 1))) else (some false)) else (some false)) else (some false))) else (if x3 > 0 then (if (bt x0 x3) ≥ 48 then (if ((bt x0 x3) ≤ 57) then (spec_NameOk.l0 k x0 (wrap64 (x3 + 1))) else (some false)) else (some false)) else (some false))) else (none)) else ((spec_l1In.f (x0.size : Int) 1 8).bind fun t187 => (some t187))
def spec_NameOk.f (k : Nat) (a0 : ByteArray) : Option (Bool) := spec_NameOk.l0 k a0 0
theorem spec_NameOk.mono_l : ∀ k, (∀ y0 y1, LeO (spec_NameOk.l0 k y0 y1) (spec_NameOk.l0 (k + 1) y0 y1))
  | 0 => fun _ _ r h => by simp [spec_NameOk.l0] at h
  | k + 1 => by
    have ih0 := spec_NameOk.mono_l k
    · intro y0 y1
      unfold spec_NameOk.l0
      repeat' first
      | (with_reducible exact ih0 _ _)
      | (with_reducible exact LeO.refl _)
      | (with_reducible exact LeO.none _)
      | (with_reducible refine LeO.ite ?_ ?_)
      | (with_reducible refine LeO.bind ?_ (fun _ => ?_))
      | exact ih0 _ _
      | exact LeO.none _
      | refine LeO.ite ?_ ?_
      | refine LeO.bind ?_ (fun _ => ?_)
theorem spec_NameOk.mono : ∀ a0 k, LeO (spec_NameOk.f k a0) (spec_NameOk.f (k + 1) a0) := by
  intro a0 k; have ih0 := spec_NameOk.mono_l k
  unfold spec_NameOk.f
  repeat' first
      | (with_reducible exact ih0 _ _)
      | (with_reducible exact LeO.refl _)
      | (with_reducible exact LeO.none _)
      | (with_reducible refine LeO.ite ?_ ?_)
      | (with_reducible refine LeO.bind ?_ (fun _ => ?_))
      | exact ih0 _ _
      | exact LeO.none _
      | refine LeO.ite ?_ ?_
      | refine LeO.bind ?_ (fun _ => ?_)
set_option maxHeartbeats 8000000 in
set_option maxRecDepth 100000 in
theorem spec_NameOk.calls (k : Nat) (a0 : ByteArray) (r : Bool) (w : World) (h : spec_NameOk.f k a0 = some r) :
    Calls Try.prog 140 #[.string a0] w fun e w' => e = .returned (.bool r) ∧ Drawn0 w w' := by
  have H : (spec_NameOk.l0 k a0 0) = some r := h; clear h; have H' := Aside0.mk H; clear H
  go_enter Try.func140, Try.ntmps140
  go_wp2
  go_loopg [3] k (fun kq v3 w' => ∃ (x3_1 : Int), v3 = .int .i64 x3_1 ∧ Aside0 (spec_NameOk.l0 kq a0 x3_1 = some r) ∧ Aside0 (kq ≤ k) ∧ Drawn0 w w')
  case atStart => exact ⟨(0), (by first | rfl | (simp; done) | (simp [*]; done)), H', ⟨Nat.le_refl _⟩, by repeat (first | exact Drawn0.refl _ | apply Drawn0.step)⟩
  case round =>
    clear H'; (try clear c1); obtain ⟨x3_1, rfl, HA, HK1, ⟨m1, rfl⟩⟩ := hrel
    cases gk with
    | zero => exact absurd HA.out (by simp [spec_NameOk.l0])
    | succ k1 =>
      have H := HA.out; clear HA
      simp only [spec_NameOk.l0] at H
      by_cases c2 : x3_1 < (a0.size : Int)
      · rw [if_pos c2] at H; have c2b0 := decide_eq_true c2; clear c2
        by_cases c3 : 0 ≤ x3_1
        · rw [if_pos c3] at H; have c3b0 := decide_eq_true c3; clear c3
          by_cases c5 : (bt a0 x3_1) ≥ 97
          · rw [if_pos c5] at H; have c5b0 := decide_eq_true c5; clear c5
            by_cases c7 : (bt a0 x3_1) ≤ 122
            · rw [if_pos c7] at H; have c7b0 := decide_eq_true c7; clear c7; have H' := Aside0.mk H; clear H; have p4 : 0 ≤ (x3_1 : Int) := as_; have q4 : x3_1 < (a0.size : Int) := as_; have hx4 := bt_at a0 x3_1; replace p4 := eq_true p4; replace q4 := eq_true q4; have p6 : 0 ≤ (x3_1 : Int) := as_; have q6 : x3_1 < (a0.size : Int) := as_; have hx6 := bt_at a0 x3_1; replace p6 := eq_true p6; replace q6 := eq_true q6
              go_wp2
              go_roundg k1
              case measure => have := HK1.out; omega
              case rel => exact ⟨(wrap64 (x3_1 + 1)), (by first | rfl | (simp; done) | (simp [*]; done)), H', ⟨by have := HK1.out; omega⟩, by repeat (first | exact Drawn0.refl _ | apply Drawn0.step)⟩
            · rw [if_neg c7] at H; have c7b0 := decide_eq_false c7; clear c7
              by_cases c8 : x3_1 > 0
              · rw [if_pos c8] at H; have c8b0 := decide_eq_true c8; clear c8
                by_cases c10 : (bt a0 x3_1) ≥ 48
                · rw [if_pos c10] at H; have c10b0 := decide_eq_true c10; clear c10
                  by_cases c12 : ((bt a0 x3_1) ≤ 57)
                  · rw [if_pos c12] at H; have c12b0 := decide_eq_true c12; clear c12; have H' := Aside0.mk H; clear H; have p4 : 0 ≤ (x3_1 : Int) := as_; have q4 : x3_1 < (a0.size : Int) := as_; have hx4 := bt_at a0 x3_1; replace p4 := eq_true p4; replace q4 := eq_true q4; have p6 : 0 ≤ (x3_1 : Int) := as_; have q6 : x3_1 < (a0.size : Int) := as_; have hx6 := bt_at a0 x3_1; replace p6 := eq_true p6; replace q6 := eq_true q6; have p9 : 0 ≤ (x3_1 : Int) := as_; have q9 : x3_1 < (a0.size : Int) := as_; have hx9 := bt_at a0 x3_1; replace p9 := eq_true p9; replace q9 := eq_true q9; have p11 : 0 ≤ (x3_1 : Int) := as_; have q11 : x3_1 < (a0.size : Int) := as_; have hx11 := bt_at a0 x3_1; replace p11 := eq_true p11; replace q11 := eq_true q11
                    go_wp2
                    go_roundg k1
                    case measure => have := HK1.out; omega
                    case rel => exact ⟨(wrap64 (x3_1 + 1)), (by first | rfl | (simp; done) | (simp [*]; done)), H', ⟨by have := HK1.out; omega⟩, by repeat (first | exact Drawn0.refl _ | apply Drawn0.step)⟩
                  · rw [if_neg c12] at H; have c12b0 := decide_eq_false c12; clear c12; obtain rfl := Option.some.inj H; have p4 : 0 ≤ (x3_1 : Int) := as_; have q4 : x3_1 < (a0.size : Int) := as_; have hx4 := bt_at a0 x3_1; replace p4 := eq_true p4; replace q4 := eq_true q4; have p6 : 0 ≤ (x3_1 : Int) := as_; have q6 : x3_1 < (a0.size : Int) := as_; have hx6 := bt_at a0 x3_1; replace p6 := eq_true p6; replace q6 := eq_true q6; have p9 : 0 ≤ (x3_1 : Int) := as_; have q9 : x3_1 < (a0.size : Int) := as_; have hx9 := bt_at a0 x3_1; replace p9 := eq_true p9; replace q9 := eq_true q9; have p11 : 0 ≤ (x3_1 : Int) := as_; have q11 : x3_1 < (a0.size : Int) := as_; have hx11 := bt_at a0 x3_1; replace p11 := eq_true p11; replace q11 := eq_true q11
                    go_wp2
                    go_ret
                    exact ⟨by first | rfl | (simp; done) | (simp [*]; done), by repeat (first | exact Drawn0.refl _ | apply Drawn0.step)⟩
                · rw [if_neg c10] at H; have c10b0 := decide_eq_false c10; clear c10; obtain rfl := Option.some.inj H; have p4 : 0 ≤ (x3_1 : Int) := as_; have q4 : x3_1 < (a0.size : Int) := as_; have hx4 := bt_at a0 x3_1; replace p4 := eq_true p4; replace q4 := eq_true q4; have p6 : 0 ≤ (x3_1 : Int) := as_; have q6 : x3_1 < (a0.size : Int) := as_; have hx6 := bt_at a0 x3_1; replace p6 := eq_true p6; replace q6 := eq_true q6; have p9 : 0 ≤ (x3_1 : Int) := as_; have q9 : x3_1 < (a0.size : Int) := as_; have hx9 := bt_at a0 x3_1; replace p9 := eq_true p9; replace q9 := eq_true q9
                  go_wp2
                  go_ret
                  exact ⟨by first | rfl | (simp; done) | (simp [*]; done), by repeat (first | exact Drawn0.refl _ | apply Drawn0.step)⟩
              · rw [if_neg c8] at H; have c8b0 := decide_eq_false c8; clear c8; obtain rfl := Option.some.inj H; have p4 : 0 ≤ (x3_1 : Int) := as_; have q4 : x3_1 < (a0.size : Int) := as_; have hx4 := bt_at a0 x3_1; replace p4 := eq_true p4; replace q4 := eq_true q4; have p6 : 0 ≤ (x3_1 : Int) := as_; have q6 : x3_1 < (a0.size : Int) := as_; have hx6 := bt_at a0 x3_1; replace p6 := eq_true p6; replace q6 := eq_true q6
                go_wp2
                go_ret
                exact ⟨by first | rfl | (simp; done) | (simp [*]; done), by repeat (first | exact Drawn0.refl _ | apply Drawn0.step)⟩
          · rw [if_neg c5] at H; have c5b0 := decide_eq_false c5; clear c5
            by_cases c13 : x3_1 > 0
            · rw [if_pos c13] at H; have c13b0 := decide_eq_true c13; clear c13
              by_cases c15 : (bt a0 x3_1) ≥ 48
              · rw [if_pos c15] at H; have c15b0 := decide_eq_true c15; clear c15
                by_cases c17 : ((bt a0 x3_1) ≤ 57)
                · rw [if_pos c17] at H; have c17b0 := decide_eq_true c17; clear c17; have H' := Aside0.mk H; clear H; have p4 : 0 ≤ (x3_1 : Int) := as_; have q4 : x3_1 < (a0.size : Int) := as_; have hx4 := bt_at a0 x3_1; replace p4 := eq_true p4; replace q4 := eq_true q4; have p14 : 0 ≤ (x3_1 : Int) := as_; have q14 : x3_1 < (a0.size : Int) := as_; have hx14 := bt_at a0 x3_1; replace p14 := eq_true p14; replace q14 := eq_true q14; have p16 : 0 ≤ (x3_1 : Int) := as_; have q16 : x3_1 < (a0.size : Int) := as_; have hx16 := bt_at a0 x3_1; replace p16 := eq_true p16; replace q16 := eq_true q16
                  go_wp2
                  go_roundg k1
                  case measure => have := HK1.out; omega
                  case rel => exact ⟨(wrap64 (x3_1 + 1)), (by first | rfl | (simp; done) | (simp [*]; done)), H', ⟨by have := HK1.out; omega⟩, by repeat (first | exact Drawn0.refl _ | apply Drawn0.step)⟩
                · rw [if_neg c17] at H; have c17b0 := decide_eq_false c17; clear c17; obtain rfl := Option.some.inj H; have p4 : 0 ≤ (x3_1 : Int) := as_; have q4 : x3_1 < (a0.size : Int) := as_; have hx4 := bt_at a0 x3_1; replace p4 := eq_true p4; replace q4 := eq_true q4; have p14 : 0 ≤ (x3_1 : Int) := as_; have q14 : x3_1 < (a0.size : Int) := as_; have hx14 := bt_at a0 x3_1; replace p14 := eq_true p14; replace q14 := eq_true q14; have p16 : 0 ≤ (x3_1 : Int) := as_; have q16 : x3_1 < (a0.size : Int) := as_; have hx16 := bt_at a0 x3_1; replace p16 := eq_true p16; replace q16 := eq_true q16
                  go_wp2
                  go_ret
                  exact ⟨by first | rfl | (simp; done) | (simp [*]; done), by repeat (first | exact Drawn0.refl _ | apply Drawn0.step)⟩
              · rw [if_neg c15] at H; have c15b0 := decide_eq_false c15; clear c15; obtain rfl := Option.some.inj H; have p4 : 0 ≤ (x3_1 : Int) := as_; have q4 : x3_1 < (a0.size : Int) := as_; have hx4 := bt_at a0 x3_1; replace p4 := eq_true p4; replace q4 := eq_true q4; have p14 : 0 ≤ (x3_1 : Int) := as_; have q14 : x3_1 < (a0.size : Int) := as_; have hx14 := bt_at a0 x3_1; replace p14 := eq_true p14; replace q14 := eq_true q14
                go_wp2
                go_ret
                exact ⟨by first | rfl | (simp; done) | (simp [*]; done), by repeat (first | exact Drawn0.refl _ | apply Drawn0.step)⟩
            · rw [if_neg c13] at H; have c13b0 := decide_eq_false c13; clear c13; obtain rfl := Option.some.inj H; have p4 : 0 ≤ (x3_1 : Int) := as_; have q4 : x3_1 < (a0.size : Int) := as_; have hx4 := bt_at a0 x3_1; replace p4 := eq_true p4; replace q4 := eq_true q4
              go_wp2
              go_ret
              exact ⟨by first | rfl | (simp; done) | (simp [*]; done), by repeat (first | exact Drawn0.refl _ | apply Drawn0.step)⟩
        · rw [if_neg c3] at H; exact absurd H (by simp)
      · rw [if_neg c2] at H; have c2b0 := decide_eq_false c2; clear c2; replace H := Option.bind_eq_some_iff.mp H; obtain ⟨t187, A180, H⟩ := H; replace H : (some t187) = some r := H; have A18 := Aside0.mk A180; clear A180; obtain rfl := Option.some.inj H
        go_wp2_with (first | ((with_reducible refine gate_callee (f := 79) rfl ?_); refine goesM_ (some 39) rfl rfl Try.func79 (by kernel_rfl) rfl #[.int .i64 (a0.size : Int), .int .i64 1, .int .i64 8] rfl ?_; (with_reducible refine (spec_l1In.calls (a0.size : Int) 1 8 t187 _ A18.out).mono ?_); rintro e w' ⟨rfl, ⟨nd, rfl⟩⟩; refine ⟨_, rfl, ?_⟩))
        go_ret
        exact ⟨by first | rfl | (simp; done) | (simp [*]; done), by repeat (first | exact Drawn0.refl _ | apply Drawn0.step)⟩

/-! ### spec_SymOf: function 141 -/
def spec_SymOf.l0 : Nat → List (I_Sym) → ByteArray → Int → Option (Int)
  | 0, _, _, _ => none
  | k + 1, x0, x1, x5 => if x5 < (x0.length : Int) then (if 0 ≤ x5 then (if ((rd_I_Sym x0 x5).f0).toList = x1.toList then (some x5) else (spec_SymOf.l0 k x0 x1 (wrap64 (x5 + 1)))) else (none)) else (some (-1))
def spec_SymOf.f (k : Nat) (l0 : List (I_Sym)) (a1 : ByteArray) : Option (Int) := spec_SymOf.l0 k l0 a1 0
theorem spec_SymOf.mono_l : ∀ k, (∀ y0 y1 y2, LeO (spec_SymOf.l0 k y0 y1 y2) (spec_SymOf.l0 (k + 1) y0 y1 y2))
  | 0 => fun _ _ _ r h => by simp [spec_SymOf.l0] at h
  | k + 1 => by
    have ih0 := spec_SymOf.mono_l k
    · intro y0 y1 y2
      unfold spec_SymOf.l0
      repeat' first
      | (with_reducible exact ih0 _ _ _)
      | (with_reducible exact LeO.refl _)
      | (with_reducible exact LeO.none _)
      | (with_reducible refine LeO.ite ?_ ?_)
      | (with_reducible refine LeO.bind ?_ (fun _ => ?_))
      | exact ih0 _ _ _
      | exact LeO.none _
      | refine LeO.ite ?_ ?_
      | refine LeO.bind ?_ (fun _ => ?_)
theorem spec_SymOf.mono : ∀ a0 a1 k, LeO (spec_SymOf.f k a0 a1) (spec_SymOf.f (k + 1) a0 a1) := by
  intro a0 a1 k; have ih0 := spec_SymOf.mono_l k
  unfold spec_SymOf.f
  repeat' first
      | (with_reducible exact ih0 _ _ _)
      | (with_reducible exact LeO.refl _)
      | (with_reducible exact LeO.none _)
      | (with_reducible refine LeO.ite ?_ ?_)
      | (with_reducible refine LeO.bind ?_ (fun _ => ?_))
      | exact ih0 _ _ _
      | exact LeO.none _
      | refine LeO.ite ?_ ?_
      | refine LeO.bind ?_ (fun _ => ?_)
set_option maxHeartbeats 8000000 in
set_option maxRecDepth 100000 in
theorem spec_SymOf.calls (k : Nat) (A0 : Option Addr) (c0 : Nat) (l0 : List (I_Sym)) (a1 : ByteArray) (r : Int) (w : World) (hr0 : Kd.C k99 w A0 l0.length l0) (hc0 : l0.length ≤ c0) (h : spec_SymOf.f k l0 a1 = some r) :
    Calls Try.prog 141 #[.slice A0 l0.length c0, .string a1] w fun e w' => e = .returned (.int .i64 r) ∧ Drawn0 w w' := by
  have HR0 := Aside0.mk hr0; have HC0 := Aside0.mk hc0; clear hr0 hc0; have H : (spec_SymOf.l0 k l0 a1 0) = some r := h; clear h; have H' := Aside0.mk H; clear H
  go_enter Try.func141, Try.ntmps141
  go_wp2
  go_loopg [5] k (fun kq v5 w' => ∃ (x5_1 : Int), v5 = .int .i64 x5_1 ∧ Aside0 (spec_SymOf.l0 kq l0 a1 x5_1 = some r) ∧ Aside0 (kq ≤ k) ∧ Drawn0 w w')
  case atStart => exact ⟨(0), (by first | rfl | (simp; done) | (simp [*]; done)), H', ⟨Nat.le_refl _⟩, by repeat (first | exact Drawn0.refl _ | apply Drawn0.step)⟩
  case round =>
    clear H'; (try clear c1); (try clear p2); obtain ⟨x5_1, rfl, HA, HK1, ⟨m1, rfl⟩⟩ := hrel
    cases gk with
    | zero => exact absurd HA.out (by simp [spec_SymOf.l0])
    | succ k1 =>
      have H := HA.out; clear HA
      simp only [spec_SymOf.l0] at H
      by_cases c3 : x5_1 < (l0.length : Int)
      · rw [if_pos c3] at H; have c3b0 := decide_eq_true c3; clear c3
        by_cases c4 : 0 ≤ x5_1
        · rw [if_pos c4] at H; have c4b0 := decide_eq_true c4; clear c4
          by_cases c5 : ((rd_I_Sym l0 x5_1).f0).toList = a1.toList
          · rw [if_pos c5] at H; have c5b0 : (((rd_I_Sym l0 x5_1).f0).toList == a1.toList) = true := beq_iff_eq.mpr c5; have c5b1 : (((rd_I_Sym l0 x5_1).f0).toList != a1.toList) = false := bne_eq_false_iff_eq.mpr c5; clear c5; obtain rfl := Option.some.inj H; have p188 : 0 ≤ (x5_1 : Int) := as_; have q188 : x5_1 < (l0.length : Int) := as_; obtain ⟨ad188, e188, hx188_0, hx188_1, hx188_2⟩ := at_T99 HR0.out x5_1 p188 q188
            cases e188
            replace p188 := eq_true p188; replace q188 := eq_true q188
            go_wp2
            go_ret
            exact ⟨by first | rfl | (simp; done) | (simp [*]; done), by repeat (first | exact Drawn0.refl _ | apply Drawn0.step)⟩
          · rw [if_neg c5] at H; have c5b0 : (((rd_I_Sym l0 x5_1).f0).toList == a1.toList) = false := beq_eq_false_iff_ne.mpr c5; have c5b1 : (((rd_I_Sym l0 x5_1).f0).toList != a1.toList) = true := bne_iff_ne.mpr c5; have H' := Aside0.mk H; clear H; have p188 : 0 ≤ (x5_1 : Int) := as_; have q188 : x5_1 < (l0.length : Int) := as_; obtain ⟨ad188, e188, hx188_0, hx188_1, hx188_2⟩ := at_T99 HR0.out x5_1 p188 q188
            cases e188
            replace p188 := eq_true p188; replace q188 := eq_true q188
            go_wp2
            go_roundg k1
            case measure => have := HK1.out; omega
            case rel => exact ⟨(wrap64 (x5_1 + 1)), (by first | rfl | (simp; done) | (simp [*]; done)), H', ⟨by have := HK1.out; omega⟩, by repeat (first | exact Drawn0.refl _ | apply Drawn0.step)⟩
        · rw [if_neg c4] at H; exact absurd H (by simp)
      · rw [if_neg c3] at H; have c3b0 := decide_eq_false c3; clear c3; obtain rfl := Option.some.inj H
        go_wp2
        go_ret
        exact ⟨by first | rfl | (simp; done) | (simp [*]; done), by repeat (first | exact Drawn0.refl _ | apply Drawn0.step)⟩

/-! ### spec_SigOk: function 78 -/
def spec_SigOk.l0 : Nat → List (I_Sym) → Int → Option (Bool)
  | 0, _, _ => none
  | k + 1, x0, x3 => if x3 < (x0.length : Int) then (if 0 ≤ x3 then ((spec_NameOk.f k ((rd_I_Sym x0 x3).f0)).bind fun t192 => (if t192 = true then ((spec_SymOf.f k x0 ((rd_I_Sym x0 x3).f0)).bind fun t194 => (if t194 = x3 then ((spec_l1In.f ((rd_I_Sym x0 x3).f1) 0 3).bind fun t196 => (if t196 = true then (if (rd_I_Sym x0 x3).f2 = true then (if ((rd_I_Sym x0 x3).f1) = 2 then (spec_SigOk.l0 k x0 (wrap64 (x3 + 1))) else (some false)) else (spec_SigOk.l0 k x0 (wrap64 (x3 + 1)))) else (some false))) else (some false))) else (some false))) else (none)) else ((spec_l1In.f (x0.length : Int) 1 8).bind fun t189 => (if t189 = true then (if 0 < (x0.length : Int) then (some ((((rd_I_Sym x0 0).f0).toList) == ([116, 116] : List UInt8) && (((rd_I_Sym x0 0).f1) == 0 && (!((rd_I_Sym x0 0).f2))))) else (none)) else (some false)))
def spec_SigOk.f (k : Nat) (l0 : List (I_Sym)) : Option (Bool) := spec_SigOk.l0 k l0 0
theorem spec_SigOk.mono_l : ∀ k, (∀ y0 y1, LeO (spec_SigOk.l0 k y0 y1) (spec_SigOk.l0 (k + 1) y0 y1))
  | 0 => fun _ _ r h => by simp [spec_SigOk.l0] at h
  | k + 1 => by
    have ih0 := spec_SigOk.mono_l k
    · intro y0 y1
      unfold spec_SigOk.l0
      repeat' first
      | (with_reducible exact ih0 _ _)
      | (with_reducible exact spec_NameOk.mono _ _)
      | (with_reducible exact spec_SymOf.mono _ _ _)
      | (with_reducible exact LeO.refl _)
      | (with_reducible exact LeO.none _)
      | (with_reducible refine LeO.ite ?_ ?_)
      | (with_reducible refine LeO.bind ?_ (fun _ => ?_))
      | exact ih0 _ _
      | exact spec_NameOk.mono _ _
      | exact spec_SymOf.mono _ _ _
      | exact LeO.none _
      | refine LeO.ite ?_ ?_
      | refine LeO.bind ?_ (fun _ => ?_)
theorem spec_SigOk.mono : ∀ a0 k, LeO (spec_SigOk.f k a0) (spec_SigOk.f (k + 1) a0) := by
  intro a0 k; have ih0 := spec_SigOk.mono_l k
  unfold spec_SigOk.f
  repeat' first
      | (with_reducible exact ih0 _ _)
      | (with_reducible exact spec_NameOk.mono _ _)
      | (with_reducible exact spec_SymOf.mono _ _ _)
      | (with_reducible exact LeO.refl _)
      | (with_reducible exact LeO.none _)
      | (with_reducible refine LeO.ite ?_ ?_)
      | (with_reducible refine LeO.bind ?_ (fun _ => ?_))
      | exact ih0 _ _
      | exact spec_NameOk.mono _ _
      | exact spec_SymOf.mono _ _ _
      | exact LeO.none _
      | refine LeO.ite ?_ ?_
      | refine LeO.bind ?_ (fun _ => ?_)
set_option maxHeartbeats 8000000 in
set_option maxRecDepth 100000 in
theorem spec_SigOk.calls (k : Nat) (A0 : Option Addr) (c0 : Nat) (l0 : List (I_Sym)) (r : Bool) (w : World) (hr0 : Kd.C k99 w A0 l0.length l0) (hc0 : l0.length ≤ c0) (h : spec_SigOk.f k l0 = some r) :
    Calls Try.prog 78 #[.slice A0 l0.length c0] w fun e w' => e = .returned (.bool r) ∧ Drawn0 w w' := by
  have hu99 := Try.underlying99; have HR0 := Aside0.mk hr0; have HC0 := Aside0.mk hc0; clear hr0 hc0; have H : (spec_SigOk.l0 k l0 0) = some r := h; clear h; have H' := Aside0.mk H; clear H
  go_enter Try.func78, Try.ntmps78
  go_wp2
  go_loopg [3] k (fun kq v3 w' => ∃ (x3_1 : Int), v3 = .int .i64 x3_1 ∧ Aside0 (spec_SigOk.l0 kq l0 x3_1 = some r) ∧ Aside0 (kq ≤ k) ∧ Drawn0 w w')
  case atStart => exact ⟨(0), (by first | rfl | (simp; done) | (simp [*]; done)), H', ⟨Nat.le_refl _⟩, by repeat (first | exact Drawn0.refl _ | apply Drawn0.step)⟩
  case round =>
    clear H'; obtain ⟨x3_1, rfl, HA, HK1, ⟨m1, rfl⟩⟩ := hrel
    cases gk with
    | zero => exact absurd HA.out (by simp [spec_SigOk.l0])
    | succ k1 =>
      have H := HA.out; clear HA
      simp only [spec_SigOk.l0] at H
      by_cases c2 : x3_1 < (l0.length : Int)
      · rw [if_pos c2] at H; have c2b0 := decide_eq_true c2; clear c2
        by_cases c3 : 0 ≤ x3_1
        · rw [if_pos c3] at H; have c3b0 := decide_eq_true c3; clear c3; replace H := Option.bind_eq_some_iff.mp H; obtain ⟨t192, A40, H⟩ := H; replace H : (if t192 = true then ((spec_SymOf.f k1 l0 ((rd_I_Sym l0 x3_1).f0)).bind fun t194 => (if t194 = x3_1 then ((spec_l1In.f ((rd_I_Sym l0 x3_1).f1) 0 3).bind fun t196 => (if t196 = true then (if (rd_I_Sym l0 x3_1).f2 = true then (if ((rd_I_Sym l0 x3_1).f1) = 2 then (spec_SigOk.l0 k1 l0 (wrap64 (x3_1 + 1))) else (some false)) else (spec_SigOk.l0 k1 l0 (wrap64 (x3_1 + 1)))) else (some false))) else (some false))) else (some false)) = some r := H; have A4 := Aside0.mk A40; clear A40
          by_cases c5 : t192 = true
          · subst c5; rw [if_pos rfl] at H; replace H := Option.bind_eq_some_iff.mp H; obtain ⟨t194, A60, H⟩ := H; replace H : (if t194 = x3_1 then ((spec_l1In.f ((rd_I_Sym l0 x3_1).f1) 0 3).bind fun t196 => (if t196 = true then (if (rd_I_Sym l0 x3_1).f2 = true then (if ((rd_I_Sym l0 x3_1).f1) = 2 then (spec_SigOk.l0 k1 l0 (wrap64 (x3_1 + 1))) else (some false)) else (spec_SigOk.l0 k1 l0 (wrap64 (x3_1 + 1)))) else (some false))) else (some false)) = some r := H; have A6 := Aside0.mk A60; clear A60
            by_cases c7 : t194 = x3_1
            · rw [if_pos c7] at H; have c7b0 : (t194 == x3_1) = true := beq_iff_eq.mpr c7; have c7b1 : (t194 != x3_1) = false := bne_eq_false_iff_eq.mpr c7; clear c7; replace H := Option.bind_eq_some_iff.mp H; obtain ⟨t196, A80, H⟩ := H; replace H : (if t196 = true then (if (rd_I_Sym l0 x3_1).f2 = true then (if ((rd_I_Sym l0 x3_1).f1) = 2 then (spec_SigOk.l0 k1 l0 (wrap64 (x3_1 + 1))) else (some false)) else (spec_SigOk.l0 k1 l0 (wrap64 (x3_1 + 1)))) else (some false)) = some r := H; have A8 := Aside0.mk A80; clear A80
              by_cases c9 : t196 = true
              · subst c9; rw [if_pos rfl] at H; obtain ⟨bq10, hbq10⟩ : ∃ b_ : Bool, b_ = ((rd_I_Sym l0 x3_1).f2) := ⟨_, rfl⟩; replace H : (if bq10 = true then (if ((rd_I_Sym l0 x3_1).f1) = 2 then (spec_SigOk.l0 k1 l0 (wrap64 (x3_1 + 1))) else (some false)) else (spec_SigOk.l0 k1 l0 (wrap64 (x3_1 + 1)))) = some r := by rw [← hbq10] at H; exact H
                have Nbq10 := Aside0.mk hbq10; clear hbq10
                by_cases c11 : bq10 = true
                · subst c11; rw [if_pos rfl] at H
                  by_cases c12 : ((rd_I_Sym l0 x3_1).f1) = 2
                  · rw [if_pos c12] at H; have c12b0 : (((rd_I_Sym l0 x3_1).f1) == 2) = true := beq_iff_eq.mpr c12; have c12b1 : (((rd_I_Sym l0 x3_1).f1) != 2) = false := bne_eq_false_iff_eq.mpr c12; clear c12; have H' := Aside0.mk H; clear H; have p191 : 0 ≤ (x3_1 : Int) := as_; have q191 : x3_1 < (l0.length : Int) := as_; obtain ⟨ad191, e191, hx191_0, hx191_1, hx191_2⟩ := at_T99 HR0.out x3_1 p191 q191; (try rw [← Nbq10.out] at hx191_2); (try rw [← Nbq10.out] at hw191_2)
                    cases e191
                    replace p191 := eq_true p191; replace q191 := eq_true q191
                    go_wp2_with (first | ((with_reducible refine gate_callee (f := 140) rfl ?_); refine goesM_ (some 15) rfl rfl Try.func140 (by kernel_rfl) rfl #[.string ((rd_I_Sym l0 x3_1).f0)] rfl ?_; (with_reducible refine (spec_NameOk.calls k1 ((rd_I_Sym l0 x3_1).f0) true _ A4.out).mono ?_); rintro e w' ⟨rfl, ⟨nd, rfl⟩⟩; refine ⟨_, rfl, ?_⟩; have p193 : 0 ≤ (x3_1 : Int) := as_; have q193 : x3_1 < (l0.length : Int) := as_; obtain ⟨ad193, e193, hx193_0, hx193_1, hx193_2⟩ := at_T99 HR0.out x3_1 p193 q193; (try rw [← Nbq10.out] at hx193_2); obtain rfl : ad191 = ad193 := (by injection e193); replace p193 := eq_true p193; replace q193 := eq_true q193) | (go_at_call 141; (with_reducible refine (spec_SymOf.calls k1 _ _ l0 ((rd_I_Sym l0 x3_1).f0) t194 _ ?side1 ?side2 A6.out).mono ?_); (case side1 => exact ca_ HR0.out); (case side2 => exact HC0.out); rintro e w' ⟨rfl, ⟨nd, rfl⟩⟩; have p195 : 0 ≤ (x3_1 : Int) := as_; have q195 : x3_1 < (l0.length : Int) := as_; obtain ⟨ad195, e195, hx195_0, hx195_1, hx195_2⟩ := at_T99 HR0.out x3_1 p195 q195; (try rw [← Nbq10.out] at hx195_2); obtain rfl : ad191 = ad195 := (by injection e195); replace p195 := eq_true p195; replace q195 := eq_true q195) | (go_at_call 79; (with_reducible refine (spec_l1In.calls ((rd_I_Sym l0 x3_1).f1) 0 3 true _ A8.out).mono ?_); rintro e w' ⟨rfl, ⟨nd, rfl⟩⟩; have p197 : 0 ≤ (x3_1 : Int) := as_; have q197 : x3_1 < (l0.length : Int) := as_; obtain ⟨ad197, e197, hx197_0, hx197_1, hx197_2⟩ := at_T99 HR0.out x3_1 p197 q197; (try rw [← Nbq10.out] at hx197_2); obtain rfl : ad191 = ad197 := (by injection e197); replace p197 := eq_true p197; replace q197 := eq_true q197; have p198 : 0 ≤ (x3_1 : Int) := as_; have q198 : x3_1 < (l0.length : Int) := as_; obtain ⟨ad198, e198, hx198_0, hx198_1, hx198_2⟩ := at_T99 HR0.out x3_1 p198 q198; (try rw [← Nbq10.out] at hx198_2); obtain rfl : ad191 = ad198 := (by injection e198); replace p198 := eq_true p198; replace q198 := eq_true q198))
                    go_roundg k1
                    case measure => have := HK1.out; omega
                    case rel => exact ⟨(wrap64 (x3_1 + 1)), (by first | rfl | (simp; done) | (simp [*]; done)), H', ⟨by have := HK1.out; omega⟩, by repeat (first | exact Drawn0.refl _ | apply Drawn0.step)⟩
                  · rw [if_neg c12] at H; have c12b0 : (((rd_I_Sym l0 x3_1).f1) == 2) = false := beq_eq_false_iff_ne.mpr c12; have c12b1 : (((rd_I_Sym l0 x3_1).f1) != 2) = true := bne_iff_ne.mpr c12; obtain rfl := Option.some.inj H; have p191 : 0 ≤ (x3_1 : Int) := as_; have q191 : x3_1 < (l0.length : Int) := as_; obtain ⟨ad191, e191, hx191_0, hx191_1, hx191_2⟩ := at_T99 HR0.out x3_1 p191 q191; (try rw [← Nbq10.out] at hx191_2); (try rw [← Nbq10.out] at hw191_2)
                    cases e191
                    replace p191 := eq_true p191; replace q191 := eq_true q191
                    go_wp2_with (first | ((with_reducible refine gate_callee (f := 140) rfl ?_); refine goesM_ (some 15) rfl rfl Try.func140 (by kernel_rfl) rfl #[.string ((rd_I_Sym l0 x3_1).f0)] rfl ?_; (with_reducible refine (spec_NameOk.calls k1 ((rd_I_Sym l0 x3_1).f0) true _ A4.out).mono ?_); rintro e w' ⟨rfl, ⟨nd, rfl⟩⟩; refine ⟨_, rfl, ?_⟩; have p193 : 0 ≤ (x3_1 : Int) := as_; have q193 : x3_1 < (l0.length : Int) := as_; obtain ⟨ad193, e193, hx193_0, hx193_1, hx193_2⟩ := at_T99 HR0.out x3_1 p193 q193; (try rw [← Nbq10.out] at hx193_2); obtain rfl : ad191 = ad193 := (by injection e193); replace p193 := eq_true p193; replace q193 := eq_true q193) | (go_at_call 141; (with_reducible refine (spec_SymOf.calls k1 _ _ l0 ((rd_I_Sym l0 x3_1).f0) t194 _ ?side1 ?side2 A6.out).mono ?_); (case side1 => exact ca_ HR0.out); (case side2 => exact HC0.out); rintro e w' ⟨rfl, ⟨nd, rfl⟩⟩; have p195 : 0 ≤ (x3_1 : Int) := as_; have q195 : x3_1 < (l0.length : Int) := as_; obtain ⟨ad195, e195, hx195_0, hx195_1, hx195_2⟩ := at_T99 HR0.out x3_1 p195 q195; (try rw [← Nbq10.out] at hx195_2); obtain rfl : ad191 = ad195 := (by injection e195); replace p195 := eq_true p195; replace q195 := eq_true q195) | (go_at_call 79; (with_reducible refine (spec_l1In.calls ((rd_I_Sym l0 x3_1).f1) 0 3 true _ A8.out).mono ?_); rintro e w' ⟨rfl, ⟨nd, rfl⟩⟩; have p197 : 0 ≤ (x3_1 : Int) := as_; have q197 : x3_1 < (l0.length : Int) := as_; obtain ⟨ad197, e197, hx197_0, hx197_1, hx197_2⟩ := at_T99 HR0.out x3_1 p197 q197; (try rw [← Nbq10.out] at hx197_2); obtain rfl : ad191 = ad197 := (by injection e197); replace p197 := eq_true p197; replace q197 := eq_true q197; have p198 : 0 ≤ (x3_1 : Int) := as_; have q198 : x3_1 < (l0.length : Int) := as_; obtain ⟨ad198, e198, hx198_0, hx198_1, hx198_2⟩ := at_T99 HR0.out x3_1 p198 q198; (try rw [← Nbq10.out] at hx198_2); obtain rfl : ad191 = ad198 := (by injection e198); replace p198 := eq_true p198; replace q198 := eq_true q198))
                    go_ret
                    exact ⟨by first | rfl | (simp; done) | (simp [*]; done), by repeat (first | exact Drawn0.refl _ | apply Drawn0.step)⟩
                · replace c11 := Bool.eq_false_iff.mpr c11; subst c11; rw [if_neg (show ¬ (false = true) by decide)] at H; have H' := Aside0.mk H; clear H; have p191 : 0 ≤ (x3_1 : Int) := as_; have q191 : x3_1 < (l0.length : Int) := as_; obtain ⟨ad191, e191, hx191_0, hx191_1, hx191_2⟩ := at_T99 HR0.out x3_1 p191 q191; (try rw [← Nbq10.out] at hx191_2); (try rw [← Nbq10.out] at hw191_2)
                  cases e191
                  replace p191 := eq_true p191; replace q191 := eq_true q191
                  go_wp2_with (first | ((with_reducible refine gate_callee (f := 140) rfl ?_); refine goesM_ (some 15) rfl rfl Try.func140 (by kernel_rfl) rfl #[.string ((rd_I_Sym l0 x3_1).f0)] rfl ?_; (with_reducible refine (spec_NameOk.calls k1 ((rd_I_Sym l0 x3_1).f0) true _ A4.out).mono ?_); rintro e w' ⟨rfl, ⟨nd, rfl⟩⟩; refine ⟨_, rfl, ?_⟩; have p193 : 0 ≤ (x3_1 : Int) := as_; have q193 : x3_1 < (l0.length : Int) := as_; obtain ⟨ad193, e193, hx193_0, hx193_1, hx193_2⟩ := at_T99 HR0.out x3_1 p193 q193; (try rw [← Nbq10.out] at hx193_2); obtain rfl : ad191 = ad193 := (by injection e193); replace p193 := eq_true p193; replace q193 := eq_true q193) | (go_at_call 141; (with_reducible refine (spec_SymOf.calls k1 _ _ l0 ((rd_I_Sym l0 x3_1).f0) t194 _ ?side1 ?side2 A6.out).mono ?_); (case side1 => exact ca_ HR0.out); (case side2 => exact HC0.out); rintro e w' ⟨rfl, ⟨nd, rfl⟩⟩; have p195 : 0 ≤ (x3_1 : Int) := as_; have q195 : x3_1 < (l0.length : Int) := as_; obtain ⟨ad195, e195, hx195_0, hx195_1, hx195_2⟩ := at_T99 HR0.out x3_1 p195 q195; (try rw [← Nbq10.out] at hx195_2); obtain rfl : ad191 = ad195 := (by injection e195); replace p195 := eq_true p195; replace q195 := eq_true q195) | (go_at_call 79; (with_reducible refine (spec_l1In.calls ((rd_I_Sym l0 x3_1).f1) 0 3 true _ A8.out).mono ?_); rintro e w' ⟨rfl, ⟨nd, rfl⟩⟩; have p197 : 0 ≤ (x3_1 : Int) := as_; have q197 : x3_1 < (l0.length : Int) := as_; obtain ⟨ad197, e197, hx197_0, hx197_1, hx197_2⟩ := at_T99 HR0.out x3_1 p197 q197; (try rw [← Nbq10.out] at hx197_2); obtain rfl : ad191 = ad197 := (by injection e197); replace p197 := eq_true p197; replace q197 := eq_true q197))
                  go_roundg k1
                  case measure => have := HK1.out; omega
                  case rel => exact ⟨(wrap64 (x3_1 + 1)), (by first | rfl | (simp; done) | (simp [*]; done)), H', ⟨by have := HK1.out; omega⟩, by repeat (first | exact Drawn0.refl _ | apply Drawn0.step)⟩
              · replace c9 := Bool.eq_false_iff.mpr c9; subst c9; rw [if_neg (show ¬ (false = true) by decide)] at H; obtain rfl := Option.some.inj H; have p191 : 0 ≤ (x3_1 : Int) := as_; have q191 : x3_1 < (l0.length : Int) := as_; obtain ⟨ad191, e191, hx191_0, hx191_1, hx191_2⟩ := at_T99 HR0.out x3_1 p191 q191
                cases e191
                replace p191 := eq_true p191; replace q191 := eq_true q191
                go_wp2_with (first | ((with_reducible refine gate_callee (f := 140) rfl ?_); refine goesM_ (some 15) rfl rfl Try.func140 (by kernel_rfl) rfl #[.string ((rd_I_Sym l0 x3_1).f0)] rfl ?_; (with_reducible refine (spec_NameOk.calls k1 ((rd_I_Sym l0 x3_1).f0) true _ A4.out).mono ?_); rintro e w' ⟨rfl, ⟨nd, rfl⟩⟩; refine ⟨_, rfl, ?_⟩; have p193 : 0 ≤ (x3_1 : Int) := as_; have q193 : x3_1 < (l0.length : Int) := as_; obtain ⟨ad193, e193, hx193_0, hx193_1, hx193_2⟩ := at_T99 HR0.out x3_1 p193 q193; obtain rfl : ad191 = ad193 := (by injection e193); replace p193 := eq_true p193; replace q193 := eq_true q193) | (go_at_call 141; (with_reducible refine (spec_SymOf.calls k1 _ _ l0 ((rd_I_Sym l0 x3_1).f0) t194 _ ?side1 ?side2 A6.out).mono ?_); (case side1 => exact ca_ HR0.out); (case side2 => exact HC0.out); rintro e w' ⟨rfl, ⟨nd, rfl⟩⟩; have p195 : 0 ≤ (x3_1 : Int) := as_; have q195 : x3_1 < (l0.length : Int) := as_; obtain ⟨ad195, e195, hx195_0, hx195_1, hx195_2⟩ := at_T99 HR0.out x3_1 p195 q195; obtain rfl : ad191 = ad195 := (by injection e195); replace p195 := eq_true p195; replace q195 := eq_true q195) | (go_at_call 79; (with_reducible refine (spec_l1In.calls ((rd_I_Sym l0 x3_1).f1) 0 3 false _ A8.out).mono ?_); rintro e w' ⟨rfl, ⟨nd, rfl⟩⟩))
                go_ret
                exact ⟨by first | rfl | (simp; done) | (simp [*]; done), by repeat (first | exact Drawn0.refl _ | apply Drawn0.step)⟩
            · rw [if_neg c7] at H; have c7b0 : (t194 == x3_1) = false := beq_eq_false_iff_ne.mpr c7; have c7b1 : (t194 != x3_1) = true := bne_iff_ne.mpr c7; obtain rfl := Option.some.inj H; have p191 : 0 ≤ (x3_1 : Int) := as_; have q191 : x3_1 < (l0.length : Int) := as_; obtain ⟨ad191, e191, hx191_0, hx191_1, hx191_2⟩ := at_T99 HR0.out x3_1 p191 q191
              cases e191
              replace p191 := eq_true p191; replace q191 := eq_true q191
              go_wp2_with (first | ((with_reducible refine gate_callee (f := 140) rfl ?_); refine goesM_ (some 15) rfl rfl Try.func140 (by kernel_rfl) rfl #[.string ((rd_I_Sym l0 x3_1).f0)] rfl ?_; (with_reducible refine (spec_NameOk.calls k1 ((rd_I_Sym l0 x3_1).f0) true _ A4.out).mono ?_); rintro e w' ⟨rfl, ⟨nd, rfl⟩⟩; refine ⟨_, rfl, ?_⟩; have p193 : 0 ≤ (x3_1 : Int) := as_; have q193 : x3_1 < (l0.length : Int) := as_; obtain ⟨ad193, e193, hx193_0, hx193_1, hx193_2⟩ := at_T99 HR0.out x3_1 p193 q193; obtain rfl : ad191 = ad193 := (by injection e193); replace p193 := eq_true p193; replace q193 := eq_true q193) | (go_at_call 141; (with_reducible refine (spec_SymOf.calls k1 _ _ l0 ((rd_I_Sym l0 x3_1).f0) t194 _ ?side1 ?side2 A6.out).mono ?_); (case side1 => exact ca_ HR0.out); (case side2 => exact HC0.out); rintro e w' ⟨rfl, ⟨nd, rfl⟩⟩))
              go_ret
              exact ⟨by first | rfl | (simp; done) | (simp [*]; done), by repeat (first | exact Drawn0.refl _ | apply Drawn0.step)⟩
          · replace c5 := Bool.eq_false_iff.mpr c5; subst c5; rw [if_neg (show ¬ (false = true) by decide)] at H; obtain rfl := Option.some.inj H; have p191 : 0 ≤ (x3_1 : Int) := as_; have q191 : x3_1 < (l0.length : Int) := as_; obtain ⟨ad191, e191, hx191_0, hx191_1, hx191_2⟩ := at_T99 HR0.out x3_1 p191 q191
            cases e191
            replace p191 := eq_true p191; replace q191 := eq_true q191
            go_wp2_with (first | ((with_reducible refine gate_callee (f := 140) rfl ?_); refine goesM_ (some 15) rfl rfl Try.func140 (by kernel_rfl) rfl #[.string ((rd_I_Sym l0 x3_1).f0)] rfl ?_; (with_reducible refine (spec_NameOk.calls k1 ((rd_I_Sym l0 x3_1).f0) false _ A4.out).mono ?_); rintro e w' ⟨rfl, ⟨nd, rfl⟩⟩; refine ⟨_, rfl, ?_⟩))
            go_ret
            exact ⟨by first | rfl | (simp; done) | (simp [*]; done), by repeat (first | exact Drawn0.refl _ | apply Drawn0.step)⟩
        · rw [if_neg c3] at H; exact absurd H (by simp)
      · rw [if_neg c2] at H; have c2b0 := decide_eq_false c2; clear c2; replace H := Option.bind_eq_some_iff.mp H; obtain ⟨t189, A130, H⟩ := H; replace H : (if t189 = true then (if 0 < (l0.length : Int) then (some ((((rd_I_Sym l0 0).f0).toList) == ([116, 116] : List UInt8) && (((rd_I_Sym l0 0).f1) == 0 && (!((rd_I_Sym l0 0).f2))))) else (none)) else (some false)) = some r := H; have A13 := Aside0.mk A130; clear A130
        by_cases c14 : t189 = true
        · subst c14; rw [if_pos rfl] at H
          by_cases c15 : 0 < (l0.length : Int)
          · rw [if_pos c15] at H; have c15b0 := decide_eq_true c15; have c15b1 : decide (0 < l0.length) = true := decide_eq_true (by omega); clear c15; obtain rfl := Option.some.inj H
            go_wp2_with (first | ((with_reducible refine gate_callee (f := 79) rfl ?_); refine goesM_ (some 54) rfl rfl Try.func79 (by kernel_rfl) rfl #[.int .i64 (l0.length : Int), .int .i64 1, .int .i64 8] rfl ?_; (with_reducible refine (spec_l1In.calls (l0.length : Int) 1 8 true _ A13.out).mono ?_); rintro e w' ⟨rfl, ⟨nd, rfl⟩⟩; refine ⟨_, rfl, ?_⟩; have p190 : 0 ≤ (0 : Int) := (by omega); have q190 : 0 < (l0.length : Int) := as_; obtain ⟨ad190, e190, hx190_0, hx190_1, hx190_2⟩ := at_T99 HR0.out 0 p190 q190; cases e190; have qi190 : (0 < l0.length) = True := eq_true (by omega); (try rw [show ((0 : Int)).toNat = 0 from rfl] at hx190_0); (try rw [show 0 * 3 = 0 from rfl] at hx190_0); (try rw [Addr.add_zero'] at hx190_0); (try rw [show ((0 : Int)).toNat = 0 from rfl] at hx190_1); (try rw [show 0 * 3 = 0 from rfl] at hx190_1); (try rw [Addr.add_zero'] at hx190_1); (try rw [show ((0 : Int)).toNat = 0 from rfl] at hx190_2); (try rw [show 0 * 3 = 0 from rfl] at hx190_2); (try rw [Addr.add_zero'] at hx190_2); replace p190 := eq_true p190; replace q190 := eq_true q190))
            go_ret
            exact ⟨by first | rfl | (simp; done) | (simp [*]; done), by repeat (first | exact Drawn0.refl _ | apply Drawn0.step)⟩
          · rw [if_neg c15] at H; exact absurd H (by simp)
        · replace c14 := Bool.eq_false_iff.mpr c14; subst c14; rw [if_neg (show ¬ (false = true) by decide)] at H; obtain rfl := Option.some.inj H
          go_wp2_with (first | ((with_reducible refine gate_callee (f := 79) rfl ?_); refine goesM_ (some 54) rfl rfl Try.func79 (by kernel_rfl) rfl #[.int .i64 (l0.length : Int), .int .i64 1, .int .i64 8] rfl ?_; (with_reducible refine (spec_l1In.calls (l0.length : Int) 1 8 false _ A13.out).mono ?_); rintro e w' ⟨rfl, ⟨nd, rfl⟩⟩; refine ⟨_, rfl, ?_⟩))
          go_ret
          exact ⟨by first | rfl | (simp; done) | (simp [*]; done), by repeat (first | exact Drawn0.refl _ | apply Drawn0.step)⟩

/-! ### spec_Parts: function 163 -/
mutual
def spec_Parts.l0 : Nat → Int → Int → Int → Int → List (I_Term) → Option (Int)
  | 0, _, _, _, _, _ => none
  | k + 1, x3, x4, x200000, x200001, x200002 => if x4 < (x200002.length : Int) then (if 0 ≤ x4 then ((spec_Parts.f k ((rd_I_Term x200002 x4).f0) ((rd_I_Term x200002 x4).f1) ((rd_I_Term x200002 x4).f2)).bind fun t201 => (spec_Parts.l0 k (wrap64 (x3 + t201)) (wrap64 (x4 + 1)) x200000 x200001 x200002)) else (none)) else (some x3)
def spec_Parts.f : Nat → Int → Int → List (I_Term) → Option (Int)
  | 0, _, _, _ => none
  | k + 1, a0_0, a0_1, l0_2 => spec_Parts.l0 k 1 0 a0_0 a0_1 l0_2
end
theorem spec_Parts.mono_l : ∀ k, (∀ y0 y1 y2, LeO (spec_Parts.f k y0 y1 y2) (spec_Parts.f (k + 1) y0 y1 y2)) ∧ (∀ y0 y1 y2 y3 y4, LeO (spec_Parts.l0 k y0 y1 y2 y3 y4) (spec_Parts.l0 (k + 1) y0 y1 y2 y3 y4))
  | 0 => ⟨fun _ _ _ r h => by simp [spec_Parts.f] at h, fun _ _ _ _ _ r h => by simp [spec_Parts.l0] at h⟩
  | k + 1 => by
    obtain ⟨ih0, ih1⟩ := spec_Parts.mono_l k; refine ⟨?_, ?_⟩
    · intro y0 y1 y2
      unfold spec_Parts.f
      repeat' first
      | (with_reducible exact ih0 _ _ _)
      | (with_reducible exact ih1 _ _ _ _ _)
      | (with_reducible exact LeO.refl _)
      | (with_reducible exact LeO.none _)
      | (with_reducible refine LeO.ite ?_ ?_)
      | (with_reducible refine LeO.bind ?_ (fun _ => ?_))
      | exact ih0 _ _ _
      | exact ih1 _ _ _ _ _
      | exact LeO.none _
      | refine LeO.ite ?_ ?_
      | refine LeO.bind ?_ (fun _ => ?_)
    · intro y0 y1 y2 y3 y4
      unfold spec_Parts.l0
      repeat' first
      | (with_reducible exact ih0 _ _ _)
      | (with_reducible exact ih1 _ _ _ _ _)
      | (with_reducible exact LeO.refl _)
      | (with_reducible exact LeO.none _)
      | (with_reducible refine LeO.ite ?_ ?_)
      | (with_reducible refine LeO.bind ?_ (fun _ => ?_))
      | exact ih0 _ _ _
      | exact ih1 _ _ _ _ _
      | exact LeO.none _
      | refine LeO.ite ?_ ?_
      | refine LeO.bind ?_ (fun _ => ?_)
theorem spec_Parts.mono : ∀ a0 a1 a2 k, LeO (spec_Parts.f k a0 a1 a2) (spec_Parts.f (k + 1) a0 a1 a2) := by
  intro a0 a1 a2 k; obtain ⟨ih0, ih1⟩ := spec_Parts.mono_l k; exact ih0 a0 a1 a2
set_option maxHeartbeats 8000000 in
set_option maxRecDepth 100000 in
theorem spec_Parts.calls (k : Nat) : ∀ (a0_0 : Int) (a0_1 : Int) (A0_2 : Option Addr) (c0_2 : Nat) (l0_2 : List (I_Term)) (r : Int) (w : World) (hr0_2 : Kd.C k33 w A0_2 l0_2.length l0_2) (hc0_2 : l0_2.length ≤ c0_2) (h : spec_Parts.f k a0_0 a0_1 l0_2 = some r),
    Calls Try.prog 163 #[.agg #[.int .i64 a0_0, .int .i64 a0_1, .slice A0_2 l0_2.length c0_2]] w fun e w' => e = .returned (.int .i64 r) ∧ Below w.heap.size w w' := by
  induction k using Nat.strongRecOn with
  | _ k ih =>
  intro a0_0 a0_1 A0_2 c0_2 l0_2 r w hr0_2 hc0_2 h
  cases k with
  | zero => exact absurd h (by simp [spec_Parts.f])
  | succ k =>
  simp only [spec_Parts.f] at h
  have hu33 := Try.underlying33; have HR0_2 := Aside0.mk hr0_2; have HC0_2 := Aside0.mk hc0_2; clear hr0_2 hc0_2; have HB := Aside0.mk (Below.refl w.heap.size w); have H : (spec_Parts.l0 k 1 0 a0_0 a0_1 l0_2) = some r := h; clear h; have H' := Aside0.mk H; clear H
  go_enter Try.func163, Try.ntmps163
  go_wp2_with (first | ((with_reducible refine gate_dst (N := 1) rfl ?_); refine bxe_ (N := 1) (cs := #[.int .i64 a0_0, .int .i64 a0_1, .slice A0_2 l0_2.length c0_2]) (t := 33) ?_; intro gb199 hg w2 hbox hb; have n0_ := Aside0.mk (below_step (bl_ HB.out) hb); have n1_ := Aside0.mk (hbox); have n2_ := Aside0.mk (lg_ hg (bl_ HB.out)); have n3_ := Aside0.mk (lg_ hg (bl_ HB.out)); clear HB; have HB := n0_; have BK199 := n1_; have GW199 := n2_; have GE199 := n3_; clear n0_ n1_ n2_ n3_; clear hb hbox hg))
  go_loopg [3, 4] k (fun kq v3 v4 w' => ∃ (x3_1 : Int) (x4_1 : Int), v3 = .int .i64 x3_1 ∧ v4 = .int .i64 x4_1 ∧ Aside0 (spec_Parts.l0 kq x3_1 x4_1 a0_0 a0_1 l0_2 = some r) ∧ Aside0 (kq ≤ k) ∧ Aside0 (w'.heap[gb199]? = some (.cells #[.int .i64 a0_0, .int .i64 a0_1, (.slice A0_2 l0_2.length c0_2)] 33 (0, 0))) ∧ Aside0 (Below w.heap.size w w'))
  case atStart => exact ⟨(1), (0), (by first | rfl | (simp; done) | (simp [*]; done)), (by first | rfl | (simp; done) | (simp [*]; done)), H', ⟨Nat.le_refl _⟩, ⟨bk_ BK199.out⟩, ⟨bs1_ HB.out GE199.out⟩⟩
  case round =>
    clear H'; (try clear c1); (try clear p2); obtain ⟨x3_1, x4_1, rfl, rfl, HA, HK1, BK199, HB⟩ := hrel
    cases gk with
    | zero => exact absurd HA.out (by simp [spec_Parts.l0])
    | succ k1 =>
      have H := HA.out; clear HA
      simp only [spec_Parts.l0] at H
      by_cases c3 : x4_1 < (l0_2.length : Int)
      · rw [if_pos c3] at H; have c3b0 := decide_eq_true c3; clear c3
        by_cases c4 : 0 ≤ x4_1
        · rw [if_pos c4] at H; have c4b0 := decide_eq_true c4; clear c4; replace H := Option.bind_eq_some_iff.mp H; obtain ⟨t201, A50, H⟩ := H; replace H : (spec_Parts.l0 k1 (wrap64 (x3_1 + t201)) (wrap64 (x4_1 + 1)) a0_0 a0_1 l0_2) = some r := H; have A5 := Aside0.mk A50; clear A50; have H' := Aside0.mk H; clear H; have hcz6_0 := bc_ BK199.out 0; have hcz6_1 := bc_ BK199.out 1; have hcz6_2 := bc_ BK199.out 2; have hfz6_0 := blk_frozen BK199.out 0; have hfz6_1 := blk_frozen BK199.out 1; have hfz6_2 := blk_frozen BK199.out 2; have p200 : 0 ≤ (x4_1 : Int) := as_; have q200 : x4_1 < (l0_2.length : Int) := as_; obtain ⟨ad200, A200_2, c200_2, e200, hx200_0, hx200_1, hx200_2, hl200_2, hi200_2⟩ := at_T33 HR0_2.out x4_1 p200 q200
          cases e200
          replace hx200_0 := hbc_ HB.out hx200_0; replace hx200_1 := hbc_ HB.out hx200_1; replace hx200_2 := hbc_ HB.out hx200_2; have HR200_2 := Aside0.mk hi200_2; have HC200_2 := Aside0.mk hl200_2; clear hi200_2 hl200_2; replace p200 := eq_true p200; replace q200 := eq_true q200
          go_wp2_with (first | ((with_reducible refine gate_callee (f := 163) rfl ?_); refine goesM_ (some 18) rfl rfl Try.func163 (by kernel_rfl) rfl #[.agg #[.int .i64 ((rd_I_Term l0_2 x4_1).f0), .int .i64 ((rd_I_Term l0_2 x4_1).f1), .slice A200_2 ((rd_I_Term l0_2 x4_1).f2).length c200_2]] rfl ?_; (with_reducible refine (ih k1 (by have := HK1.out; omega) ((rd_I_Term l0_2 x4_1).f0) ((rd_I_Term l0_2 x4_1).f1) _ _ ((rd_I_Term l0_2 x4_1).f2) t201 _ ?side1 ?side2 A5.out).mono ?_); (case side1 => exact cb_ HR200_2.out HB.out); (case side2 => exact HC200_2.out); rintro e w7 ⟨rfl, hb⟩; refine ⟨_, rfl, ?_⟩; have n0_ := Aside0.mk (blk_below (bk_ BK199.out) hb); have n1_ := Aside0.mk (below_step (bs1_ HB.out GE199.out) hb); clear BK199; clear HB; have BK199 := n0_; have HB := n1_; clear n0_ n1_; (try clear hb); (try clear hb2); (try clear hk); (try clear hi)))
          go_roundg k1
          case measure => have := HK1.out; omega
          case rel => exact ⟨(wrap64 (x3_1 + t201)), (wrap64 (x4_1 + 1)), (by first | rfl | (simp; done) | (simp [*]; done)), (by first | rfl | (simp; done) | (simp [*]; done)), H', ⟨by have := HK1.out; omega⟩, ⟨bk_ BK199.out⟩, ⟨bs1_ HB.out GE199.out⟩⟩
        · rw [if_neg c4] at H; exact absurd H (by simp)
      · rw [if_neg c3] at H; have c3b0 := decide_eq_false c3; clear c3; obtain rfl := Option.some.inj H; have hcz8_0 := bc_ BK199.out 0; have hcz8_1 := bc_ BK199.out 1; have hcz8_2 := bc_ BK199.out 2; have hfz8_0 := blk_frozen BK199.out 0; have hfz8_1 := blk_frozen BK199.out 1; have hfz8_2 := blk_frozen BK199.out 2
        go_wp2
        go_ret
        exact fin_ (bs1_ HB.out GE199.out)

/-! ### spec_TermSame: function 173 -/
mutual
def spec_TermSame.j0 : Nat → Bool → Int → Int → List (I_Term) → Int → Int → List (I_Term) → Option (Bool)
  | 0, _, _, _, _, _, _, _ => none
  | k + 1, x26, x203000, x203001, x203002, x204000, x204001, x204002 => if x26 = true then (some false) else (spec_TermSame.l0 k 0 x203000 x203001 x203002 x204000 x204001 x204002)
def spec_TermSame.l0 : Nat → Int → Int → Int → List (I_Term) → Int → Int → List (I_Term) → Option (Bool)
  | 0, _, _, _, _, _, _, _ => none
  | k + 1, x5, x203000, x203001, x203002, x204000, x204001, x204002 => if x5 < (x203002.length : Int) then (if 0 ≤ x5 then (if x5 < (x204002.length : Int) then ((spec_TermSame.f k ((rd_I_Term x203002 x5).f0) ((rd_I_Term x203002 x5).f1) ((rd_I_Term x203002 x5).f2) ((rd_I_Term x204002 x5).f0) ((rd_I_Term x204002 x5).f1) ((rd_I_Term x204002 x5).f2)).bind fun t206 => (if t206 = true then (spec_TermSame.l0 k (wrap64 (x5 + 1)) x203000 x203001 x203002 x204000 x204001 x204002) else (some false))) else (none)) else (none)) else (some true)
def spec_TermSame.f : Nat → Int → Int → List (I_Term) → Int → Int → List (I_Term) → Option (Bool)
  | 0, _, _, _, _, _, _ => none
  | k + 1, a0_0, a0_1, l0_2, a1_0, a1_1, l1_2 => if a0_0 = a1_0 then (if a0_1 = a1_1 then (spec_TermSame.j0 k ((l0_2.length : Int) != (l1_2.length : Int)) a0_0 a0_1 l0_2 a1_0 a1_1 l1_2) else (spec_TermSame.j0 k true a0_0 a0_1 l0_2 a1_0 a1_1 l1_2)) else (spec_TermSame.j0 k true a0_0 a0_1 l0_2 a1_0 a1_1 l1_2)
end
theorem spec_TermSame.mono_l : ∀ k, (∀ y0 y1 y2 y3 y4 y5, LeO (spec_TermSame.f k y0 y1 y2 y3 y4 y5) (spec_TermSame.f (k + 1) y0 y1 y2 y3 y4 y5)) ∧ (∀ y0 y1 y2 y3 y4 y5 y6, LeO (spec_TermSame.j0 k y0 y1 y2 y3 y4 y5 y6) (spec_TermSame.j0 (k + 1) y0 y1 y2 y3 y4 y5 y6)) ∧ (∀ y0 y1 y2 y3 y4 y5 y6, LeO (spec_TermSame.l0 k y0 y1 y2 y3 y4 y5 y6) (spec_TermSame.l0 (k + 1) y0 y1 y2 y3 y4 y5 y6))
  | 0 => ⟨fun _ _ _ _ _ _ r h => by simp [spec_TermSame.f] at h, fun _ _ _ _ _ _ _ r h => by simp [spec_TermSame.j0] at h, fun _ _ _ _ _ _ _ r h => by simp [spec_TermSame.l0] at h⟩
  | k + 1 => by
    obtain ⟨ih0, ih1, ih2⟩ := spec_TermSame.mono_l k; refine ⟨?_, ?_, ?_⟩
    · intro y0 y1 y2 y3 y4 y5
      unfold spec_TermSame.f
      repeat' first
      | (with_reducible exact ih0 _ _ _ _ _ _)
      | (with_reducible exact ih1 _ _ _ _ _ _ _)
      | (with_reducible exact ih2 _ _ _ _ _ _ _)
      | (with_reducible exact LeO.refl _)
      | (with_reducible exact LeO.none _)
      | (with_reducible refine LeO.ite ?_ ?_)
      | (with_reducible refine LeO.bind ?_ (fun _ => ?_))
      | exact ih0 _ _ _ _ _ _
      | exact ih1 _ _ _ _ _ _ _
      | exact ih2 _ _ _ _ _ _ _
      | exact LeO.none _
      | refine LeO.ite ?_ ?_
      | refine LeO.bind ?_ (fun _ => ?_)
    · intro y0 y1 y2 y3 y4 y5 y6
      unfold spec_TermSame.j0
      repeat' first
      | (with_reducible exact ih0 _ _ _ _ _ _)
      | (with_reducible exact ih1 _ _ _ _ _ _ _)
      | (with_reducible exact ih2 _ _ _ _ _ _ _)
      | (with_reducible exact LeO.refl _)
      | (with_reducible exact LeO.none _)
      | (with_reducible refine LeO.ite ?_ ?_)
      | (with_reducible refine LeO.bind ?_ (fun _ => ?_))
      | exact ih0 _ _ _ _ _ _
      | exact ih1 _ _ _ _ _ _ _
      | exact ih2 _ _ _ _ _ _ _
      | exact LeO.none _
      | refine LeO.ite ?_ ?_
      | refine LeO.bind ?_ (fun _ => ?_)
    · intro y0 y1 y2 y3 y4 y5 y6
      unfold spec_TermSame.l0
      repeat' first
      | (with_reducible exact ih0 _ _ _ _ _ _)
      | (with_reducible exact ih1 _ _ _ _ _ _ _)
      | (with_reducible exact ih2 _ _ _ _ _ _ _)
      | (with_reducible exact LeO.refl _)
      | (with_reducible exact LeO.none _)
      | (with_reducible refine LeO.ite ?_ ?_)
      | (with_reducible refine LeO.bind ?_ (fun _ => ?_))
      | exact ih0 _ _ _ _ _ _
      | exact ih1 _ _ _ _ _ _ _
      | exact ih2 _ _ _ _ _ _ _
      | exact LeO.none _
      | refine LeO.ite ?_ ?_
      | refine LeO.bind ?_ (fun _ => ?_)
theorem spec_TermSame.mono : ∀ a0 a1 a2 a3 a4 a5 k, LeO (spec_TermSame.f k a0 a1 a2 a3 a4 a5) (spec_TermSame.f (k + 1) a0 a1 a2 a3 a4 a5) := by
  intro a0 a1 a2 a3 a4 a5 k; obtain ⟨ih0, ih1, ih2⟩ := spec_TermSame.mono_l k; exact ih0 a0 a1 a2 a3 a4 a5
def spec_TermSame.T6 : Bool × List (List Nat × List Nat) := (true, [([], []), ([0], [0]), ([], []), ([1, 2], [1, 2]), ([3], [3]), ([], []), ([5], [5]), ([], []), ([6, 7], [6, 7]), ([8], [8]), ([4, 9], [4, 9]), ([10], [10])])
def spec_TermSame.B6 : List Nat := [0, 1, 0, 7, 15, 0, 32, 0, 224, 480, 1023, 2047]
theorem spec_TermSame.tab6 : rtab .any (opsOf Try.f173 6) = spec_TermSame.T6 := by kernel_rfl
theorem spec_TermSame.bits6 : waitsOk spec_TermSame.T6.2 spec_TermSame.B6 = true := by kernel_rfl
set_option maxHeartbeats 8000000 in
set_option maxRecDepth 100000 in
theorem spec_TermSame.calls (k : Nat) : ∀ (a0_0 : Int) (a0_1 : Int) (A0_2 : Option Addr) (c0_2 : Nat) (l0_2 : List (I_Term)) (a1_0 : Int) (a1_1 : Int) (A1_2 : Option Addr) (c1_2 : Nat) (l1_2 : List (I_Term)) (r : Bool) (w : World) (hr0_2 : Kd.C k33 w A0_2 l0_2.length l0_2) (hc0_2 : l0_2.length ≤ c0_2) (hr1_2 : Kd.C k33 w A1_2 l1_2.length l1_2) (hc1_2 : l1_2.length ≤ c1_2) (h : spec_TermSame.f k a0_0 a0_1 l0_2 a1_0 a1_1 l1_2 = some r),
    Calls Try.prog 173 #[.agg #[.int .i64 a0_0, .int .i64 a0_1, .slice A0_2 l0_2.length c0_2], .agg #[.int .i64 a1_0, .int .i64 a1_1, .slice A1_2 l1_2.length c1_2]] w fun e w' => e = .returned (.bool r) ∧ Below w.heap.size w w' := by
  induction k using Nat.strongRecOn with
  | _ k ih =>
  intro a0_0 a0_1 A0_2 c0_2 l0_2 a1_0 a1_1 A1_2 c1_2 l1_2 r w hr0_2 hc0_2 hr1_2 hc1_2 h
  cases k with
  | zero => exact absurd h (by simp [spec_TermSame.f])
  | succ k =>
  simp only [spec_TermSame.f] at h
  have hu33 := Try.underlying33; have HR0_2 := Aside0.mk hr0_2; have HC0_2 := Aside0.mk hc0_2; clear hr0_2 hc0_2; have HR1_2 := Aside0.mk hr1_2; have HC1_2 := Aside0.mk hc1_2; clear hr1_2 hc1_2; have HB := Aside0.mk (Below.refl w.heap.size w); have H : (if a0_0 = a1_0 then (if a0_1 = a1_1 then (spec_TermSame.j0 k ((l0_2.length : Int) != (l1_2.length : Int)) a0_0 a0_1 l0_2 a1_0 a1_1 l1_2) else (spec_TermSame.j0 k true a0_0 a0_1 l0_2 a1_0 a1_1 l1_2)) else (spec_TermSame.j0 k true a0_0 a0_1 l0_2 a1_0 a1_1 l1_2)) = some r := h; clear h; have HC3 := Aside0.mk H; clear H
  go_enter Try.func173, Try.ntmps173
  go_upto_region 1 with (first | ((with_reducible refine gate_dst (N := 2) rfl ?_); (try (refine gate_guard (by rfl) ?_; dsimp only)); refine bxe_ (N := 2) (cs := #[.int .i64 a0_0, .int .i64 a0_1, .slice A0_2 l0_2.length c0_2]) (t := 33) ?_; intro gb202 hg w4 hbox hb; have n0_ := Aside0.mk (below_step (bl_ HB.out) hb); have n1_ := Aside0.mk (hbox); have n2_ := Aside0.mk (lg_ hg (bl_ HB.out)); have n3_ := Aside0.mk (lg_ hg (bl_ HB.out)); clear HB; have HB := n0_; have BK202 := n1_; have GW202 := n2_; have GE202 := n3_; clear n0_ n1_ n2_ n3_; clear hb hbox hg) | ((with_reducible refine gate_dst (N := 3) rfl ?_); (try (refine gate_guard (by rfl) ?_; dsimp only)); refine bxe_ (N := 3) (cs := #[.int .i64 a1_0, .int .i64 a1_1, .slice A1_2 l1_2.length c1_2]) (t := 33) ?_; intro gb203 hg w5 hbox hb; have n0_ := Aside0.mk (blk_below (bk_ BK202.out) hb); have n1_ := Aside0.mk (below_step (bs1_ HB.out GE202.out) hb); have n2_ := Aside0.mk (hbox); have n3_ := Aside0.mk (lg_ hg (bs1_ HB.out GE202.out)); have n4_ := Aside0.mk (lg_ hg (bs1_ HB.out GE202.out)); have n5_ := Aside0.mk (nl_ hg (bk_ BK202.out)); have n6_ := Aside0.mk (ng_ hg (bk_ BK202.out)); clear BK202; clear HB; have BK202 := n0_; have HB := n1_; have BK203 := n2_; have GW203 := n3_; have GE203 := n4_; have NB202_203 := n5_; have NB203_202 := n6_; clear n0_ n1_ n2_ n3_ n4_ n5_ n6_; clear hb hbox hg))
  (try simp only [Act.put, List.setIfInBounds_toArray, List.set_cons_zero, List.set_cons_succ])
  go_cut [26] (fun v26 wc => ∃ (kq : Nat) (x26_2 : Bool), v26 = .bool x26_2 ∧ Aside0 (spec_TermSame.j0 kq x26_2 a0_0 a0_1 l0_2 a1_0 a1_1 l1_2 = some r) ∧ Aside0 (kq ≤ k) ∧ Aside0 (wc.heap[gb202]? = some (.cells #[.int .i64 a0_0, .int .i64 a0_1, (.slice A0_2 l0_2.length c0_2)] 33 (0, 0))) ∧ Aside0 (wc.heap[gb203]? = some (.cells #[.int .i64 a1_0, .int .i64 a1_1, (.slice A1_2 l1_2.length c1_2)] 33 (0, 0))) ∧ Aside0 (Below w.heap.size w wc))
  case first =>
    have H := HC3.out; clear HC3
    by_cases c6 : a0_0 = a1_0
    · rw [if_pos c6] at H; have c6b0 : (a0_0 == a1_0) = true := beq_iff_eq.mpr c6; have c6b1 : (a0_0 != a1_0) = false := bne_eq_false_iff_eq.mpr c6; clear c6; (first | rw [c6b0] | (simp only [i64_w, i32_w]; rw [c6b0]) | (rw [show ∀ x_ y_ : Bool, (!(x_ == y_)) = (x_ != y_) from fun _ _ => rfl, c6b0]) | skip)
      by_cases c7 : a0_1 = a1_1
      · rw [if_pos c7] at H; have c7b0 : (a0_1 == a1_1) = true := beq_iff_eq.mpr c7; have c7b1 : (a0_1 != a1_1) = false := bne_eq_false_iff_eq.mpr c7; clear c7; have H' := Aside0.mk H; clear H; have hnb8 := NB202_203.out; have hnc8 := NB203_202.out; have hcz9_0 := bc_ BK202.out 0; have hcz9_1 := bc_ BK202.out 1; have hcz9_2 := bc_ BK202.out 2; have hfz9_0 := blk_frozen BK202.out 0; have hfz9_1 := blk_frozen BK202.out 1; have hfz9_2 := blk_frozen BK202.out 2; have hcz10_0 := bc_ BK203.out 0; have hcz10_1 := bc_ BK203.out 1; have hcz10_2 := bc_ BK203.out 2; have hfz10_0 := blk_frozen BK203.out 0; have hfz10_1 := blk_frozen BK203.out 1; have hfz10_2 := blk_frozen BK203.out 2
        go_wp2
        go_meet
        case rel => exact ⟨_, (((l0_2.length : Int) != (l1_2.length : Int))), (by first | rfl | (simp; done) | (simp [*]; done)), H', ⟨by first | omega | exact Nat.le_refl _⟩, ⟨bk_ BK202.out⟩, ⟨bk_ BK203.out⟩, ⟨bs2_ HB.out GE202.out GE203.out⟩⟩
      · rw [if_neg c7] at H; have c7b0 : (a0_1 == a1_1) = false := beq_eq_false_iff_ne.mpr c7; have c7b1 : (a0_1 != a1_1) = true := bne_iff_ne.mpr c7; have H' := Aside0.mk H; clear H; have hnb11 := NB202_203.out; have hnc11 := NB203_202.out; have hcz12_0 := bc_ BK202.out 0; have hcz12_1 := bc_ BK202.out 1; have hcz12_2 := bc_ BK202.out 2; have hfz12_0 := blk_frozen BK202.out 0; have hfz12_1 := blk_frozen BK202.out 1; have hfz12_2 := blk_frozen BK202.out 2; have hcz13_0 := bc_ BK203.out 0; have hcz13_1 := bc_ BK203.out 1; have hcz13_2 := bc_ BK203.out 2; have hfz13_0 := blk_frozen BK203.out 0; have hfz13_1 := blk_frozen BK203.out 1; have hfz13_2 := blk_frozen BK203.out 2
        go_wp2
        go_meet
        case rel => exact ⟨_, (true), (by first | rfl | (simp; done) | (simp [*]; done)), H', ⟨by first | omega | exact Nat.le_refl _⟩, ⟨bk_ BK202.out⟩, ⟨bk_ BK203.out⟩, ⟨bs2_ HB.out GE202.out GE203.out⟩⟩
    · rw [if_neg c6] at H; have c6b0 : (a0_0 == a1_0) = false := beq_eq_false_iff_ne.mpr c6; have c6b1 : (a0_0 != a1_0) = true := bne_iff_ne.mpr c6; (first | rw [c6b0] | (simp only [i64_w, i32_w]; rw [c6b0]) | (rw [show ∀ x_ y_ : Bool, (!(x_ == y_)) = (x_ != y_) from fun _ _ => rfl, c6b0]) | skip); have H' := Aside0.mk H; clear H; have hnb14 := NB202_203.out; have hnc14 := NB203_202.out; have hcz15_0 := bc_ BK202.out 0; have hcz15_1 := bc_ BK202.out 1; have hcz15_2 := bc_ BK202.out 2; have hfz15_0 := blk_frozen BK202.out 0; have hfz15_1 := blk_frozen BK202.out 1; have hfz15_2 := blk_frozen BK202.out 2; have hcz16_0 := bc_ BK203.out 0; have hcz16_1 := bc_ BK203.out 1; have hcz16_2 := bc_ BK203.out 2; have hfz16_0 := blk_frozen BK203.out 0; have hfz16_1 := blk_frozen BK203.out 1; have hfz16_2 := blk_frozen BK203.out 2
      go_wp2
      go_meet
      case rel => exact ⟨_, (true), (by first | rfl | (simp; done) | (simp [*]; done)), H', ⟨by first | omega | exact Nat.le_refl _⟩, ⟨bk_ BK202.out⟩, ⟨bk_ BK203.out⟩, ⟨bs2_ HB.out GE202.out GE203.out⟩⟩
  case rest =>
    clear HC3; (try clear c1); (try clear p2); (try clear c6); (try clear c6b0); (try clear c6b1); (try clear c7); (try clear c7b0); (try clear c7b1); (try clear c8); (try clear c11); (try clear c14); (try clear hcz10_0); (try clear hcz10_1); (try clear hcz10_2); (try clear hcz12_0); (try clear hcz12_1); (try clear hcz12_2); (try clear hcz13_0); (try clear hcz13_1); (try clear hcz13_2); (try clear hcz15_0); (try clear hcz15_1); (try clear hcz15_2); (try clear hcz16_0); (try clear hcz16_1); (try clear hcz16_2); (try clear hcz9_0); (try clear hcz9_1); (try clear hcz9_2); (try clear hfz10_0); (try clear hfz10_1); (try clear hfz10_2); (try clear hfz12_0); (try clear hfz12_1); (try clear hfz12_2); (try clear hfz13_0); (try clear hfz13_1); (try clear hfz13_2); (try clear hfz15_0); (try clear hfz15_1); (try clear hfz15_2); (try clear hfz16_0); (try clear hfz16_1); (try clear hfz16_2); (try clear hfz9_0); (try clear hfz9_1); (try clear hfz9_2); obtain ⟨kq, x26_2, rfl, HA, HJ2, BK202, BK203, HB⟩ := hcut
    cases kq with
    | zero => exact absurd HA.out (by simp [spec_TermSame.j0])
    | succ kj2 =>
      have H := HA.out; clear HA
      simp only [spec_TermSame.j0] at H
      by_cases c17 : x26_2 = true
      · subst c17; rw [if_pos rfl] at H; obtain rfl := Option.some.inj H
        go_wp2
        go_ret
        exact fin_ (bs2_ HB.out GE202.out GE203.out)
      · replace c17 := Bool.eq_false_iff.mpr c17; subst c17; rw [if_neg (show ¬ (false = true) by decide)] at H; have H' := Aside0.mk H; clear H
        go_wp2
        go_loopg [5] kj2 (fun kq v5 w' => ∃ (x5_2 : Int), v5 = .int .i64 x5_2 ∧ Aside0 (spec_TermSame.l0 kq x5_2 a0_0 a0_1 l0_2 a1_0 a1_1 l1_2 = some r) ∧ Aside0 (kq ≤ kj2) ∧ Aside0 (w'.heap[gb202]? = some (.cells #[.int .i64 a0_0, .int .i64 a0_1, (.slice A0_2 l0_2.length c0_2)] 33 (0, 0))) ∧ Aside0 (w'.heap[gb203]? = some (.cells #[.int .i64 a1_0, .int .i64 a1_1, (.slice A1_2 l1_2.length c1_2)] 33 (0, 0))) ∧ Aside0 (Below w.heap.size w w'))
        case atStart => exact ⟨(0), (by first | rfl | (simp; done) | (simp [*]; done)), H', ⟨Nat.le_refl _⟩, ⟨bk_ BK202.out⟩, ⟨bk_ BK203.out⟩, ⟨bs2_ HB.out GE202.out GE203.out⟩⟩
        case round =>
          clear H'; (try clear c1); (try clear p2); (try clear c6); (try clear c6b0); (try clear c6b1); (try clear c7); (try clear c7b0); (try clear c7b1); (try clear c8); (try clear c11); (try clear c14); (try clear c17); (try clear hcz10_0); (try clear hcz10_1); (try clear hcz10_2); (try clear hcz12_0); (try clear hcz12_1); (try clear hcz12_2); (try clear hcz13_0); (try clear hcz13_1); (try clear hcz13_2); (try clear hcz15_0); (try clear hcz15_1); (try clear hcz15_2); (try clear hcz16_0); (try clear hcz16_1); (try clear hcz16_2); (try clear hcz9_0); (try clear hcz9_1); (try clear hcz9_2); (try clear hfz10_0); (try clear hfz10_1); (try clear hfz10_2); (try clear hfz12_0); (try clear hfz12_1); (try clear hfz12_2); (try clear hfz13_0); (try clear hfz13_1); (try clear hfz13_2); (try clear hfz15_0); (try clear hfz15_1); (try clear hfz15_2); (try clear hfz16_0); (try clear hfz16_1); (try clear hfz16_2); (try clear hfz9_0); (try clear hfz9_1); (try clear hfz9_2); (try clear p2); obtain ⟨x5_2, rfl, HA, HK2, BK202, BK203, HB⟩ := hrel
          cases gk with
          | zero => exact absurd HA.out (by simp [spec_TermSame.l0])
          | succ k2 =>
            have H := HA.out; clear HA
            simp only [spec_TermSame.l0] at H
            by_cases c18 : x5_2 < (l0_2.length : Int)
            · rw [if_pos c18] at H; have c18b0 := decide_eq_true c18; clear c18
              by_cases c19 : 0 ≤ x5_2
              · rw [if_pos c19] at H; have c19b0 := decide_eq_true c19; clear c19
                by_cases c20 : x5_2 < (l1_2.length : Int)
                · rw [if_pos c20] at H; have c20b0 := decide_eq_true c20; clear c20; replace H := Option.bind_eq_some_iff.mp H; obtain ⟨t206, A210, H⟩ := H; replace H : (if t206 = true then (spec_TermSame.l0 k2 (wrap64 (x5_2 + 1)) a0_0 a0_1 l0_2 a1_0 a1_1 l1_2) else (some false)) = some r := H; have A21 := Aside0.mk A210; clear A210
                  by_cases c22 : t206 = true
                  · subst c22; rw [if_pos rfl] at H; have H' := Aside0.mk H; clear H; have hnb23 := NB202_203.out; have hnc23 := NB203_202.out; have hcz24_0 := bc_ BK202.out 0; have hcz24_1 := bc_ BK202.out 1; have hcz24_2 := bc_ BK202.out 2; have hfz24_0 := blk_frozen BK202.out 0; have hfz24_1 := blk_frozen BK202.out 1; have hfz24_2 := blk_frozen BK202.out 2
                    try go_wp2
                    have n0_ := Aside0.mk (blk_drew BK202.out); have n1_ := Aside0.mk (blk_drew BK203.out); have n2_ := Aside0.mk (below_drew1 HB.out); clear BK202; clear BK203; clear HB; have BK202 := n0_; have BK203 := n1_; have HB := n2_; clear n0_ n1_ n2_; have p204 : 0 ≤ (x5_2 : Int) := as_; have q204 : x5_2 < (l0_2.length : Int) := as_; obtain ⟨ad204, A204_2, c204_2, e204, hx204_0, hx204_1, hx204_2, hl204_2, hi204_2⟩ := at_T33 HR0_2.out x5_2 p204 q204; have hw204_2 := hx204_2; have hw204_1 := hx204_1; have hw204_0 := hx204_0
                    cases e204
                    replace hx204_0 := hbc_ HB.out hx204_0; replace hx204_1 := hbc_ HB.out hx204_1; replace hx204_2 := hbc_ HB.out hx204_2; have HR204_2 := Aside0.mk hi204_2; have HC204_2 := Aside0.mk hl204_2; clear hi204_2 hl204_2; replace p204 := eq_true p204; replace q204 := eq_true q204; have p205 : 0 ≤ (x5_2 : Int) := as_; have q205 : x5_2 < (l1_2.length : Int) := as_; obtain ⟨ad205, A205_2, c205_2, e205, hx205_0, hx205_1, hx205_2, hl205_2, hi205_2⟩ := at_T33 HR1_2.out x5_2 p205 q205; have hw205_2 := hx205_2; have hw205_1 := hx205_1; have hw205_0 := hx205_0
                    cases e205
                    replace hx205_0 := hbc_ HB.out hx205_0; replace hx205_1 := hbc_ HB.out hx205_1; replace hx205_2 := hbc_ HB.out hx205_2; have HR205_2 := Aside0.mk hi205_2; have HC205_2 := Aside0.mk hl205_2; clear hi205_2 hl205_2; replace p205 := eq_true p205; replace q205 := eq_true q205; refine start_ (n := 12) (S := fun w' => w'.cell? ⟨gb202, 0, none⟩ = some (.int .i64 a0_0) ∧ w'.cell? ⟨gb202, 1, none⟩ = some (.int .i64 a0_1) ∧ w'.cell? ⟨gb202, 2, none⟩ = some (.slice (some ad204) l0_2.length c0_2) ∧ w'.cell? ⟨gb203, 0, none⟩ = some (.int .i64 a1_0) ∧ w'.cell? ⟨gb203, 1, none⟩ = some (.int .i64 a1_1) ∧ w'.cell? ⟨gb203, 2, none⟩ = some (.slice (some ad205) l1_2.length c1_2) ∧ w'.cell? (ad204.add ((x5_2).toNat * 3)) = some (.int .i64 ((rd_I_Term l0_2 x5_2).f0)) ∧ w'.cell? ⟨(ad204.add ((x5_2).toNat * 3)).block, (ad204.add ((x5_2).toNat * 3)).off + 1, none⟩ = some (.int .i64 ((rd_I_Term l0_2 x5_2).f1)) ∧ w'.cell? ⟨(ad204.add ((x5_2).toNat * 3)).block, (ad204.add ((x5_2).toNat * 3)).off + 2, none⟩ = some (.slice A204_2 ((rd_I_Term l0_2 x5_2).f2).length c204_2) ∧ w'.cell? (ad205.add ((x5_2).toNat * 3)) = some (.int .i64 ((rd_I_Term l1_2 x5_2).f0)) ∧ w'.cell? ⟨(ad205.add ((x5_2).toNat * 3)).block, (ad205.add ((x5_2).toNat * 3)).off + 1, none⟩ = some (.int .i64 ((rd_I_Term l1_2 x5_2).f1)) ∧ w'.cell? ⟨(ad205.add ((x5_2).toNat * 3)).block, (ad205.add ((x5_2).toNat * 3)).off + 2, none⟩ = some (.slice A205_2 ((rd_I_Term l1_2 x5_2).f2).length c205_2)) (ds := []) (bm 12 0) (by kernel_rfl) rfl (by kernel_rfl) ⟨(blk_cell BK202.out 0).trans rfl, (blk_cell BK202.out 1).trans rfl, (blk_cell BK202.out 2).trans rfl, (blk_cell BK203.out 0).trans rfl, (blk_cell BK203.out 1).trans rfl, (blk_cell BK203.out 2).trans rfl, (hbc_ HB.out hw204_0 :), (hbc_ HB.out hw204_1 :), (hbc_ HB.out hw204_2 :), (hbc_ HB.out hw205_0 :), (hbc_ HB.out hw205_1 :), (hbc_ HB.out hw205_2 :)⟩ (fun hHeld => ?_); refine with_tabW spec_TermSame.tab6 spec_TermSame.bits6 (fun HT_ HW_ => ?_)
                    generalize wr.drew = w25 at BK202 BK203 HB HR204_2 HR205_2 hx204_0 hx204_1 hx204_2 hx205_0 hx205_1 hx205_2 hHeld ⊢
                    refine pv_ 0 HT_.out ?_; refine pv_ 2 HT_.out ?_; refine pv_ 5 HT_.out ?_; refine pv_ 7 HT_.out ?_; refine tv_ 1 HT_.out HW_.out hHeld ?_; refine pv_ 3 HT_.out ?_; refine tv_ 4 HT_.out HW_.out hHeld ?_; refine tv_ 6 HT_.out HW_.out hHeld ?_; refine pv_ 8 HT_.out ?_; refine tv_ 9 HT_.out HW_.out hHeld ?_; refine one_ (i := 10) (N := some 44) (bm 12 2047) rfl rfl (one_of HT_.out (by kernel_rfl)) (by decide) (fun K hK => ?_); refine goes_ Try.func173 (by kernel_rfl) rfl #[.agg #[.int .i64 ((rd_I_Term l0_2 x5_2).f0), .int .i64 ((rd_I_Term l0_2 x5_2).f1), .slice A204_2 ((rd_I_Term l0_2 x5_2).f2).length c204_2], .agg #[.int .i64 ((rd_I_Term l1_2 x5_2).f0), .int .i64 ((rd_I_Term l1_2 x5_2).f1), .slice A205_2 ((rd_I_Term l1_2 x5_2).f2).length c205_2]] (by rfl) rfl rfl (by (try simp only [List.map_toArray, List.map_cons, List.map_nil]); first | done | rfl | (simp only [List.length_drop, List.length_take]; rfl)) ?_
                    with_reducible refine (ih k2 (by have := HJ2.out; have := HK2.out; omega) ((rd_I_Term l0_2 x5_2).f0) ((rd_I_Term l0_2 x5_2).f1) _ _ ((rd_I_Term l0_2 x5_2).f2) ((rd_I_Term l1_2 x5_2).f0) ((rd_I_Term l1_2 x5_2).f1) _ _ ((rd_I_Term l1_2 x5_2).f2) true _ ?side1 ?side2 ?side3 ?side4 A21.out).mono ?_
                    (case side1 => exact cb_ HR204_2.out HB.out); (case side2 => exact HC204_2.out); (case side3 => exact cb_ HR205_2.out HB.out); (case side4 => exact HC205_2.out); rintro e w26 ⟨rfl, hb⟩; refine ⟨_, rfl, ?_⟩; have n0_ := Aside0.mk (blk_below (bk_ BK202.out) hb); have n1_ := Aside0.mk (blk_below (bk_ BK203.out) hb); have n2_ := Aside0.mk (below_step (bs2_ HB.out GE202.out GE203.out) hb); clear BK202; clear BK203; clear HB; have BK202 := n0_; have BK203 := n1_; have HB := n2_; clear n0_ n1_ n2_; (try clear hb); (try clear hb2); (try clear hk); (try clear hi); refine hK.out _ _ ⟨(blk_cell BK202.out 0).trans rfl, (blk_cell BK202.out 1).trans rfl, (blk_cell BK202.out 2).trans rfl, (blk_cell BK203.out 0).trans rfl, (blk_cell BK203.out 1).trans rfl, (blk_cell BK203.out 2).trans rfl, (hbc_ HB.out hw204_0 :), (hbc_ HB.out hw204_1 :), (hbc_ HB.out hw204_2 :), (hbc_ HB.out hw205_0 :), (hbc_ HB.out hw205_1 :), (hbc_ HB.out hw205_2 :)⟩ (fun hHeld => ?_); clear hK K; refine norm_ (a' := ?_) ?_ ?_
                    rotate_left
                    · show Act.put _ (some 44) _ = _
                      simp only [Act.put, List.setIfInBounds_toArray, List.set_cons_zero, List.set_cons_succ, i64_w, i32_w]
                      rfl
                    refine pv_ 11 HT_.out ?_; refine done_ (done_of HT_.out (by kernel_rfl)) ?_
                    try go_wp2
                    go_roundg k2
                    case measure => have := HJ2.out; have := HK2.out; omega
                    case rel => exact ⟨(wrap64 (x5_2 + 1)), (by first | rfl | (simp; done) | (simp [*]; done)), H', ⟨by have := HJ2.out; have := HK2.out; omega⟩, ⟨bk_ BK202.out⟩, ⟨bk_ BK203.out⟩, ⟨bs2_ HB.out GE202.out GE203.out⟩⟩
                  · replace c22 := Bool.eq_false_iff.mpr c22; subst c22; rw [if_neg (show ¬ (false = true) by decide)] at H; obtain rfl := Option.some.inj H; have hnb27 := NB202_203.out; have hnc27 := NB203_202.out; have hcz28_0 := bc_ BK202.out 0; have hcz28_1 := bc_ BK202.out 1; have hcz28_2 := bc_ BK202.out 2; have hfz28_0 := blk_frozen BK202.out 0; have hfz28_1 := blk_frozen BK202.out 1; have hfz28_2 := blk_frozen BK202.out 2
                    try go_wp2
                    have n0_ := Aside0.mk (blk_drew BK202.out); have n1_ := Aside0.mk (blk_drew BK203.out); have n2_ := Aside0.mk (below_drew1 HB.out); clear BK202; clear BK203; clear HB; have BK202 := n0_; have BK203 := n1_; have HB := n2_; clear n0_ n1_ n2_; have p204 : 0 ≤ (x5_2 : Int) := as_; have q204 : x5_2 < (l0_2.length : Int) := as_; obtain ⟨ad204, A204_2, c204_2, e204, hx204_0, hx204_1, hx204_2, hl204_2, hi204_2⟩ := at_T33 HR0_2.out x5_2 p204 q204; have hw204_2 := hx204_2; have hw204_1 := hx204_1; have hw204_0 := hx204_0
                    cases e204
                    replace hx204_0 := hbc_ HB.out hx204_0; replace hx204_1 := hbc_ HB.out hx204_1; replace hx204_2 := hbc_ HB.out hx204_2; have HR204_2 := Aside0.mk hi204_2; have HC204_2 := Aside0.mk hl204_2; clear hi204_2 hl204_2; replace p204 := eq_true p204; replace q204 := eq_true q204; have p205 : 0 ≤ (x5_2 : Int) := as_; have q205 : x5_2 < (l1_2.length : Int) := as_; obtain ⟨ad205, A205_2, c205_2, e205, hx205_0, hx205_1, hx205_2, hl205_2, hi205_2⟩ := at_T33 HR1_2.out x5_2 p205 q205; have hw205_2 := hx205_2; have hw205_1 := hx205_1; have hw205_0 := hx205_0
                    cases e205
                    replace hx205_0 := hbc_ HB.out hx205_0; replace hx205_1 := hbc_ HB.out hx205_1; replace hx205_2 := hbc_ HB.out hx205_2; have HR205_2 := Aside0.mk hi205_2; have HC205_2 := Aside0.mk hl205_2; clear hi205_2 hl205_2; replace p205 := eq_true p205; replace q205 := eq_true q205; refine start_ (n := 12) (S := fun w' => w'.cell? ⟨gb202, 0, none⟩ = some (.int .i64 a0_0) ∧ w'.cell? ⟨gb202, 1, none⟩ = some (.int .i64 a0_1) ∧ w'.cell? ⟨gb202, 2, none⟩ = some (.slice (some ad204) l0_2.length c0_2) ∧ w'.cell? ⟨gb203, 0, none⟩ = some (.int .i64 a1_0) ∧ w'.cell? ⟨gb203, 1, none⟩ = some (.int .i64 a1_1) ∧ w'.cell? ⟨gb203, 2, none⟩ = some (.slice (some ad205) l1_2.length c1_2) ∧ w'.cell? (ad204.add ((x5_2).toNat * 3)) = some (.int .i64 ((rd_I_Term l0_2 x5_2).f0)) ∧ w'.cell? ⟨(ad204.add ((x5_2).toNat * 3)).block, (ad204.add ((x5_2).toNat * 3)).off + 1, none⟩ = some (.int .i64 ((rd_I_Term l0_2 x5_2).f1)) ∧ w'.cell? ⟨(ad204.add ((x5_2).toNat * 3)).block, (ad204.add ((x5_2).toNat * 3)).off + 2, none⟩ = some (.slice A204_2 ((rd_I_Term l0_2 x5_2).f2).length c204_2) ∧ w'.cell? (ad205.add ((x5_2).toNat * 3)) = some (.int .i64 ((rd_I_Term l1_2 x5_2).f0)) ∧ w'.cell? ⟨(ad205.add ((x5_2).toNat * 3)).block, (ad205.add ((x5_2).toNat * 3)).off + 1, none⟩ = some (.int .i64 ((rd_I_Term l1_2 x5_2).f1)) ∧ w'.cell? ⟨(ad205.add ((x5_2).toNat * 3)).block, (ad205.add ((x5_2).toNat * 3)).off + 2, none⟩ = some (.slice A205_2 ((rd_I_Term l1_2 x5_2).f2).length c205_2)) (ds := []) (bm 12 0) (by kernel_rfl) rfl (by kernel_rfl) ⟨(blk_cell BK202.out 0).trans rfl, (blk_cell BK202.out 1).trans rfl, (blk_cell BK202.out 2).trans rfl, (blk_cell BK203.out 0).trans rfl, (blk_cell BK203.out 1).trans rfl, (blk_cell BK203.out 2).trans rfl, (hbc_ HB.out hw204_0 :), (hbc_ HB.out hw204_1 :), (hbc_ HB.out hw204_2 :), (hbc_ HB.out hw205_0 :), (hbc_ HB.out hw205_1 :), (hbc_ HB.out hw205_2 :)⟩ (fun hHeld => ?_); refine with_tabW spec_TermSame.tab6 spec_TermSame.bits6 (fun HT_ HW_ => ?_)
                    generalize wr.drew = w29 at BK202 BK203 HB HR204_2 HR205_2 hx204_0 hx204_1 hx204_2 hx205_0 hx205_1 hx205_2 hHeld ⊢
                    refine pv_ 0 HT_.out ?_; refine pv_ 2 HT_.out ?_; refine pv_ 5 HT_.out ?_; refine pv_ 7 HT_.out ?_; refine tv_ 1 HT_.out HW_.out hHeld ?_; refine pv_ 3 HT_.out ?_; refine tv_ 4 HT_.out HW_.out hHeld ?_; refine tv_ 6 HT_.out HW_.out hHeld ?_; refine pv_ 8 HT_.out ?_; refine tv_ 9 HT_.out HW_.out hHeld ?_; refine one_ (i := 10) (N := some 44) (bm 12 2047) rfl rfl (one_of HT_.out (by kernel_rfl)) (by decide) (fun K hK => ?_); refine goes_ Try.func173 (by kernel_rfl) rfl #[.agg #[.int .i64 ((rd_I_Term l0_2 x5_2).f0), .int .i64 ((rd_I_Term l0_2 x5_2).f1), .slice A204_2 ((rd_I_Term l0_2 x5_2).f2).length c204_2], .agg #[.int .i64 ((rd_I_Term l1_2 x5_2).f0), .int .i64 ((rd_I_Term l1_2 x5_2).f1), .slice A205_2 ((rd_I_Term l1_2 x5_2).f2).length c205_2]] (by rfl) rfl rfl (by (try simp only [List.map_toArray, List.map_cons, List.map_nil]); first | done | rfl | (simp only [List.length_drop, List.length_take]; rfl)) ?_
                    with_reducible refine (ih k2 (by have := HJ2.out; have := HK2.out; omega) ((rd_I_Term l0_2 x5_2).f0) ((rd_I_Term l0_2 x5_2).f1) _ _ ((rd_I_Term l0_2 x5_2).f2) ((rd_I_Term l1_2 x5_2).f0) ((rd_I_Term l1_2 x5_2).f1) _ _ ((rd_I_Term l1_2 x5_2).f2) false _ ?side1 ?side2 ?side3 ?side4 A21.out).mono ?_
                    (case side1 => exact cb_ HR204_2.out HB.out); (case side2 => exact HC204_2.out); (case side3 => exact cb_ HR205_2.out HB.out); (case side4 => exact HC205_2.out); rintro e w30 ⟨rfl, hb⟩; refine ⟨_, rfl, ?_⟩; have n0_ := Aside0.mk (blk_below (bk_ BK202.out) hb); have n1_ := Aside0.mk (blk_below (bk_ BK203.out) hb); have n2_ := Aside0.mk (below_step (bs2_ HB.out GE202.out GE203.out) hb); clear BK202; clear BK203; clear HB; have BK202 := n0_; have BK203 := n1_; have HB := n2_; clear n0_ n1_ n2_; (try clear hb); (try clear hb2); (try clear hk); (try clear hi); refine hK.out _ _ ⟨(blk_cell BK202.out 0).trans rfl, (blk_cell BK202.out 1).trans rfl, (blk_cell BK202.out 2).trans rfl, (blk_cell BK203.out 0).trans rfl, (blk_cell BK203.out 1).trans rfl, (blk_cell BK203.out 2).trans rfl, (hbc_ HB.out hw204_0 :), (hbc_ HB.out hw204_1 :), (hbc_ HB.out hw204_2 :), (hbc_ HB.out hw205_0 :), (hbc_ HB.out hw205_1 :), (hbc_ HB.out hw205_2 :)⟩ (fun hHeld => ?_); clear hK K; refine norm_ (a' := ?_) ?_ ?_
                    rotate_left
                    · show Act.put _ (some 44) _ = _
                      simp only [Act.put, List.setIfInBounds_toArray, List.set_cons_zero, List.set_cons_succ, i64_w, i32_w]
                      rfl
                    refine pv_ 11 HT_.out ?_; refine done_ (done_of HT_.out (by kernel_rfl)) ?_
                    try go_wp2
                    go_ret
                    exact fin_ (bs2_ HB.out GE202.out GE203.out)
                · rw [if_neg c20] at H; exact absurd H (by simp)
              · rw [if_neg c19] at H; exact absurd H (by simp)
            · rw [if_neg c18] at H; have c18b0 := decide_eq_false c18; clear c18; obtain rfl := Option.some.inj H; have hnb31 := NB202_203.out; have hnc31 := NB203_202.out; have hcz32_0 := bc_ BK202.out 0; have hcz32_1 := bc_ BK202.out 1; have hcz32_2 := bc_ BK202.out 2; have hfz32_0 := blk_frozen BK202.out 0; have hfz32_1 := blk_frozen BK202.out 1; have hfz32_2 := blk_frozen BK202.out 2
              go_wp2
              go_ret
              exact fin_ (bs2_ HB.out GE202.out GE203.out)

end Go.Proofs.Ytcboagkbcoihjaa.XCloseOk
