-- printed by a program of this session (xprint, turned from the kit's print) for this claim
import Derived.Test.YtcboagkbcoihjaaXSubworldx0
import Derived.Test.YtcboagkbcoihjaaXSubworldx1
namespace Go.Proofs.Ytcboagkbcoihjaa.XSubworld
open Go.RowKit Go.Proofs.Ytcboagkbcoihjaa.XOpens Go.Proofs.YtcboagkbcoihjaaW.PrintWords Go.Proofs.YtcboagkbcoihjaaW.PrintLast Go.Proofs.YtcboagkbcoihjaaW.PrintMore
attribute [local go_sem] max2_int min2_int max_two min_two max_three min_three max_four min_four   -- for this text's walks alone
set_option linter.unusedVariables false
set_option linter.unusedSimpArgs false

attribute [local go_sem high] eqA99
/-! ### laws_eqIntS: function 57 -/
def laws_eqIntS.l0 : Nat → List Int → List Int → Int → Option (Bool)
  | 0, _, _, _ => none
  | k + 1, x0, x1, x5 => if x5 < (x0.length : Int) then (if 0 ≤ x5 then (if x5 < (x1.length : Int) then (if (rd x0 x5) = (rd x1 x5) then (laws_eqIntS.l0 k x0 x1 (wrap64 (x5 + 1))) else (some false)) else (none)) else (none)) else (some true)
def laws_eqIntS.f (k : Nat) (l0 : List Int) (l1 : List Int) : Option (Bool) := if (l0.length : Int) = (l1.length : Int) then (laws_eqIntS.l0 k l0 l1 0) else (some false)
theorem laws_eqIntS.mono_l : ∀ k, (∀ y0 y1 y2, LeO (laws_eqIntS.l0 k y0 y1 y2) (laws_eqIntS.l0 (k + 1) y0 y1 y2))
  | 0 => fun _ _ _ r h => by simp [laws_eqIntS.l0] at h
  | k + 1 => by
    have ih0 := laws_eqIntS.mono_l k
    · intro y0 y1 y2
      unfold laws_eqIntS.l0
      repeat' first | (with_reducible first | exact ih0 _ _ _ | exact LeO.refl _ | exact LeO.none _ | refine LeO.ite ?_ ?_ | refine LeO.bind ?_ (fun _ => ?_)) | exact ih0 _ _ _ | exact LeO.none _ | refine LeO.ite ?_ ?_ | refine LeO.bind ?_ (fun _ => ?_)
theorem laws_eqIntS.mono : ∀ a0 a1 k, LeO (laws_eqIntS.f k a0 a1) (laws_eqIntS.f (k + 1) a0 a1) := by
  intro a0 a1 k; have ih0 := laws_eqIntS.mono_l k
  unfold laws_eqIntS.f
  repeat' first
      | (with_reducible exact ih0 _ _ _)
      | (with_reducible exact LeO.refl _)
      | (with_reducible exact LeO.none _)
      | (with_reducible refine LeO.ite ?_ ?_)
      | (with_reducible refine LeO.bind ?_ (fun _ => ?_))
      | exact ih0 _ _ _
      | exact LeO.none _
      | refine LeO.ite ?_ ?_
      | refine LeO.bind ?_ (fun _ => ?_)
set_option maxHeartbeats 8000000 in
set_option maxRecDepth 100000 in
theorem laws_eqIntS.calls (k : Nat) (A0 : Option Addr) (c0 : Nat) (l0 : List Int) (A1 : Option Addr) (c1 : Nat) (l1 : List Int) (r : Bool) (w : World) (hr0 : Kd.C (Kd.int .i64) w A0 l0.length l0) (hc0 : l0.length ≤ c0) (hr1 : Kd.C (Kd.int .i64) w A1 l1.length l1) (hc1 : l1.length ≤ c1) (h : laws_eqIntS.f k l0 l1 = some r) :
    Calls Try.prog 57 #[.slice A0 l0.length c0, .slice A1 l1.length c1] w fun e w' => e = .returned (.bool r) ∧ Drawn0 w w' := by
  have HR0 := ak hr0; have HC0 := ak hc0; clear hr0 hc0; have HR1 := ak hr1; have HC1 := ak hc1; clear hr1 hc1; have H : (if (l0.length : Int) = (l1.length : Int) then (laws_eqIntS.l0 k l0 l1 0) else (some false)) = some r := h; clear h
  by_cases c3 : (l0.length : Int) = (l1.length : Int)
  · rw [if_pos c3] at H; have c3b0 : ((l0.length : Int) == (l1.length : Int)) = true := beq_iff_eq.mpr c3; have c3b1 : ((l0.length : Int) != (l1.length : Int)) = false := bne_eq_false_iff_eq.mpr c3; have c3b2 : (l0.length == l1.length) = true := by first | simpa using c3 | (simp at c3 ⊢; omega)
    clear c3; have H' := ak H; clear H
    go_enter Try.func57, Try.ntmps57
    go_wp2
    repeat (go_quiet (fail); try go_wp2)
    go_loopg [5] k (fun kq v5 w' => ∃ (x5_1 : Int), v5 = .int .i64 x5_1 ∧ Aside0 (laws_eqIntS.l0 kq l0 l1 x5_1 = some r) ∧ Aside0 (kq ≤ k) ∧ Drawn0 w w')
    case atStart => exact ⟨(0), (by first | rfl | (simp; done) | (simp [*]; done)), H', ⟨Nat.le_refl _⟩, by repeat (first | exact Drawn0.refl _ | apply Drawn0.step)⟩
    case round =>
      clear H'; (try clear c1); (try clear p2); (try clear c3); (try clear c3b0); (try clear c3b1); (try clear c3b2); obtain ⟨x5_1, rfl, HA, HK1, ⟨m1, rfl⟩⟩ := hrel
      cases gk with
      | zero => exact absurd HA.out (by simp [laws_eqIntS.l0])
      | succ k1 =>
        have H := HA.out; clear HA
        simp only [laws_eqIntS.l0] at H
        by_cases c4 : x5_1 < (l0.length : Int)
        · rw [if_pos c4] at H; have c4b0 := decide_eq_true c4; clear c4
          by_cases c5 : 0 ≤ x5_1
          · rw [if_pos c5] at H; have c5b0 := decide_eq_true c5; clear c5
            by_cases c6 : x5_1 < (l1.length : Int)
            · rw [if_pos c6] at H; have c6b0 := decide_eq_true c6; clear c6
              by_cases c7 : (rd l0 x5_1) = (rd l1 x5_1)
              · rw [if_pos c7] at H; have c7b0 : ((rd l0 x5_1) == (rd l1 x5_1)) = true := beq_iff_eq.mpr c7; have c7b1 : ((rd l0 x5_1) != (rd l1 x5_1)) = false := bne_eq_false_iff_eq.mpr c7; clear c7; have H' := ak H; clear H; have p143 : 0 ≤ (x5_1 : Int) := as_; have q143 : x5_1 < (l0.length : Int) := as_; obtain ⟨ad143, e143, hx143_0⟩ := Kd.at_int HR0.out x5_1 p143 q143
                cases e143
                replace p143 := eq_true p143; replace q143 := eq_true q143; have p144 : 0 ≤ (x5_1 : Int) := as_; have q144 : x5_1 < (l1.length : Int) := as_; obtain ⟨ad144, e144, hx144_0⟩ := Kd.at_int HR1.out x5_1 p144 q144
                cases e144
                replace p144 := eq_true p144; replace q144 := eq_true q144
                go_wp2
                repeat (go_quiet (fail); try go_wp2)
                go_roundg k1
                case measure => have := HK1.out; omega
                case rel => exact ⟨(wrap64 (x5_1 + 1)), (by first | rfl | (simp; done) | (simp [*]; done)), H', ⟨by have := HK1.out; omega⟩, by repeat (first | exact Drawn0.refl _ | apply Drawn0.step)⟩
              rw [if_neg c7] at H; have c7b0 : ((rd l0 x5_1) == (rd l1 x5_1)) = false := beq_eq_false_iff_ne.mpr c7; have c7b1 : ((rd l0 x5_1) != (rd l1 x5_1)) = true := bne_iff_ne.mpr c7; obtain rfl := Option.some.inj H; have p143 : 0 ≤ (x5_1 : Int) := as_; have q143 : x5_1 < (l0.length : Int) := as_; obtain ⟨ad143, e143, hx143_0⟩ := Kd.at_int HR0.out x5_1 p143 q143
              cases e143
              replace p143 := eq_true p143; replace q143 := eq_true q143; have p144 : 0 ≤ (x5_1 : Int) := as_; have q144 : x5_1 < (l1.length : Int) := as_; obtain ⟨ad144, e144, hx144_0⟩ := Kd.at_int HR1.out x5_1 p144 q144
              cases e144
              replace p144 := eq_true p144; replace q144 := eq_true q144
              go_wp2
              repeat (go_quiet (fail); try go_wp2)
              go_ret
              exact ⟨by first | rfl | (simp; done) | (simp [*]; done), by repeat (first | exact Drawn0.refl _ | apply Drawn0.step)⟩
            rw [if_neg c6] at H; exact absurd H (by simp)
          rw [if_neg c5] at H; exact absurd H (by simp)
        rw [if_neg c4] at H; have c4b0 := decide_eq_false c4; clear c4; obtain rfl := Option.some.inj H
        go_wp2
        repeat (go_quiet (fail); try go_wp2)
        go_ret
        exact ⟨by first | rfl | (simp; done) | (simp [*]; done), by repeat (first | exact Drawn0.refl _ | apply Drawn0.step)⟩
  rw [if_neg c3] at H; have c3b0 : ((l0.length : Int) == (l1.length : Int)) = false := beq_eq_false_iff_ne.mpr c3; have c3b1 : ((l0.length : Int) != (l1.length : Int)) = true := bne_iff_ne.mpr c3; have c3b2 : (l0.length == l1.length) = false := by first | simpa using c3 | (simp at c3 ⊢; omega)
  obtain rfl := Option.some.inj H
  go_enter Try.func57, Try.ntmps57
  go_wp2
  repeat (go_quiet (fail); try go_wp2)
  go_ret
  exact ⟨by first | rfl | (simp; done) | (simp [*]; done), by repeat (first | exact Drawn0.refl _ | apply Drawn0.step)⟩

/-! ### laws_eqIntSS: function 83 -/
def laws_eqIntSS.l0 : Nat → List (List Int) → List (List Int) → Int → Option (Bool)
  | 0, _, _, _ => none
  | k + 1, x0, x1, x5 => if x5 < (x0.length : Int) then (if 0 ≤ x5 then (if x5 < (x1.length : Int) then ((laws_eqIntS.f k (rd_Ls_i64 x0 x5) (rd_Ls_i64 x1 x5)).bind fun t147 => (if t147 = true then (laws_eqIntSS.l0 k x0 x1 (wrap64 (x5 + 1))) else (some false))) else (none)) else (none)) else (some true)
def laws_eqIntSS.f (k : Nat) (l0 : List (List Int)) (l1 : List (List Int)) : Option (Bool) := if (l0.length : Int) = (l1.length : Int) then (laws_eqIntSS.l0 k l0 l1 0) else (some false)
theorem laws_eqIntSS.mono_l : ∀ k, (∀ y0 y1 y2, LeO (laws_eqIntSS.l0 k y0 y1 y2) (laws_eqIntSS.l0 (k + 1) y0 y1 y2))
  | 0 => fun _ _ _ r h => by simp [laws_eqIntSS.l0] at h
  | k + 1 => by
    have ih0 := laws_eqIntSS.mono_l k
    · intro y0 y1 y2
      unfold laws_eqIntSS.l0
      repeat' first | (with_reducible first | exact ih0 _ _ _ | exact laws_eqIntS.mono _ _ _ | exact LeO.refl _ | exact LeO.none _ | refine LeO.ite ?_ ?_ | refine LeO.bind ?_ (fun _ => ?_)) | exact ih0 _ _ _ | exact laws_eqIntS.mono _ _ _ | exact LeO.none _ | refine LeO.ite ?_ ?_ | refine LeO.bind ?_ (fun _ => ?_)
theorem laws_eqIntSS.mono : ∀ a0 a1 k, LeO (laws_eqIntSS.f k a0 a1) (laws_eqIntSS.f (k + 1) a0 a1) := by
  intro a0 a1 k; have ih0 := laws_eqIntSS.mono_l k
  unfold laws_eqIntSS.f
  repeat' first
      | (with_reducible exact ih0 _ _ _)
      | (with_reducible exact laws_eqIntS.mono _ _ _)
      | (with_reducible exact LeO.refl _)
      | (with_reducible exact LeO.none _)
      | (with_reducible refine LeO.ite ?_ ?_)
      | (with_reducible refine LeO.bind ?_ (fun _ => ?_))
      | exact ih0 _ _ _
      | exact laws_eqIntS.mono _ _ _
      | exact LeO.none _
      | refine LeO.ite ?_ ?_
      | refine LeO.bind ?_ (fun _ => ?_)
set_option maxHeartbeats 8000000 in
set_option maxRecDepth 100000 in
theorem laws_eqIntSS.calls (k : Nat) (A0 : Option Addr) (c0 : Nat) (l0 : List (List Int)) (A1 : Option Addr) (c1 : Nat) (l1 : List (List Int)) (r : Bool) (w : World) (hr0 : Kd.C (Kd.slice 3 (Kd.int .i64)) w A0 l0.length l0) (hc0 : l0.length ≤ c0) (hr1 : Kd.C (Kd.slice 3 (Kd.int .i64)) w A1 l1.length l1) (hc1 : l1.length ≤ c1) (h : laws_eqIntSS.f k l0 l1 = some r) :
    Calls Try.prog 83 #[.slice A0 l0.length c0, .slice A1 l1.length c1] w fun e w' => e = .returned (.bool r) ∧ Drawn0 w w' := by
  have HR0 := ak hr0; have HC0 := ak hc0; clear hr0 hc0; have HR1 := ak hr1; have HC1 := ak hc1; clear hr1 hc1; have H : (if (l0.length : Int) = (l1.length : Int) then (laws_eqIntSS.l0 k l0 l1 0) else (some false)) = some r := h; clear h
  by_cases c3 : (l0.length : Int) = (l1.length : Int)
  · rw [if_pos c3] at H; have c3b0 : ((l0.length : Int) == (l1.length : Int)) = true := beq_iff_eq.mpr c3; have c3b1 : ((l0.length : Int) != (l1.length : Int)) = false := bne_eq_false_iff_eq.mpr c3; have c3b2 : (l0.length == l1.length) = true := by first | simpa using c3 | (simp at c3 ⊢; omega)
    clear c3; have H' := ak H; clear H
    go_enter Try.func83, Try.ntmps83
    go_wp2
    repeat (go_quiet (fail); try go_wp2)
    go_loopg [5] k (fun kq v5 w' => ∃ (x5_1 : Int), v5 = .int .i64 x5_1 ∧ Aside0 (laws_eqIntSS.l0 kq l0 l1 x5_1 = some r) ∧ Aside0 (kq ≤ k) ∧ Drawn0 w w')
    case atStart => exact ⟨(0), (by first | rfl | (simp; done) | (simp [*]; done)), H', ⟨Nat.le_refl _⟩, by repeat (first | exact Drawn0.refl _ | apply Drawn0.step)⟩
    case round =>
      clear H'; (try clear c1); (try clear p2); (try clear c3); (try clear c3b0); (try clear c3b1); (try clear c3b2); obtain ⟨x5_1, rfl, HA, HK1, ⟨m1, rfl⟩⟩ := hrel
      cases gk with
      | zero => exact absurd HA.out (by simp [laws_eqIntSS.l0])
      | succ k1 =>
        have H := HA.out; clear HA
        simp only [laws_eqIntSS.l0] at H
        by_cases c4 : x5_1 < (l0.length : Int)
        · rw [if_pos c4] at H; have c4b0 := decide_eq_true c4; clear c4
          by_cases c5 : 0 ≤ x5_1
          · rw [if_pos c5] at H; have c5b0 := decide_eq_true c5; clear c5
            by_cases c6 : x5_1 < (l1.length : Int)
            · rw [if_pos c6] at H; have c6b0 := decide_eq_true c6; clear c6; replace H := Option.bind_eq_some_iff.mp H; obtain ⟨t147, A70, H⟩ := H; have A7 := ak A70; clear A70
              by_cases c8 : t147 = true
              · subst c8; rw [if_pos rfl] at H; have H' := ak H; clear H; have p145 : 0 ≤ (x5_1 : Int) := as_; have q145 : x5_1 < (l0.length : Int) := as_; obtain ⟨ad145, A145_0, c145_0, e145, hx145_0, hl145_0, hi145_0⟩ := at_L5 HR0.out x5_1 p145 q145
                cases e145
                have HR145_0 := ak hi145_0; have HC145_0 := ak hl145_0; clear hi145_0 hl145_0; replace p145 := eq_true p145; replace q145 := eq_true q145; have p146 : 0 ≤ (x5_1 : Int) := as_; have q146 : x5_1 < (l1.length : Int) := as_; obtain ⟨ad146, A146_0, c146_0, e146, hx146_0, hl146_0, hi146_0⟩ := at_L5 HR1.out x5_1 p146 q146
                cases e146
                have HR146_0 := ak hi146_0; have HC146_0 := ak hl146_0; clear hi146_0 hl146_0; replace p146 := eq_true p146; replace q146 := eq_true q146
                go_wp2_with (first | (go_at_call 57; (with_reducible refine (laws_eqIntS.calls k1 _ _ (rd_Ls_i64 l0 x5_1) _ _ (rd_Ls_i64 l1 x5_1) true _ ?side1 ?side2 ?side3 ?side4 A7.out).mono ?_); (case side1 => exact ca_ HR145_0.out); (case side2 => exact HC145_0.out); (case side3 => exact ca_ HR146_0.out); (case side4 => exact HC146_0.out); rintro e w' ⟨rfl, ⟨nd, rfl⟩⟩; (try first | exact ⟨rfl, _, World.drewN_drewN _ _ _⟩ | exact ⟨rfl, _, Eq.trans (World.drewN_drewN _ _ _) (congrArg (World.drewN _) (Nat.add_assoc _ _ _))⟩)))
                repeat (go_quiet (first | (go_at_call 57; (with_reducible refine (laws_eqIntS.calls k1 _ _ (rd_Ls_i64 l0 x5_1) _ _ (rd_Ls_i64 l1 x5_1) true _ ?side1 ?side2 ?side3 ?side4 A7.out).mono ?_); (case side1 => exact ca_ HR145_0.out); (case side2 => exact HC145_0.out); (case side3 => exact ca_ HR146_0.out); (case side4 => exact HC146_0.out); rintro e w' ⟨rfl, ⟨nd, rfl⟩⟩; (try first | exact ⟨rfl, _, World.drewN_drewN _ _ _⟩ | exact ⟨rfl, _, Eq.trans (World.drewN_drewN _ _ _) (congrArg (World.drewN _) (Nat.add_assoc _ _ _))⟩))); try go_wp2_with (first | (go_at_call 57; (with_reducible refine (laws_eqIntS.calls k1 _ _ (rd_Ls_i64 l0 x5_1) _ _ (rd_Ls_i64 l1 x5_1) true _ ?side1 ?side2 ?side3 ?side4 A7.out).mono ?_); (case side1 => exact ca_ HR145_0.out); (case side2 => exact HC145_0.out); (case side3 => exact ca_ HR146_0.out); (case side4 => exact HC146_0.out); rintro e w' ⟨rfl, ⟨nd, rfl⟩⟩; (try first | exact ⟨rfl, _, World.drewN_drewN _ _ _⟩ | exact ⟨rfl, _, Eq.trans (World.drewN_drewN _ _ _) (congrArg (World.drewN _) (Nat.add_assoc _ _ _))⟩))))
                go_roundg k1
                case measure => have := HK1.out; omega
                case rel => exact ⟨(wrap64 (x5_1 + 1)), (by first | rfl | (simp; done) | (simp [*]; done)), H', ⟨by have := HK1.out; omega⟩, by repeat (first | exact Drawn0.refl _ | apply Drawn0.step)⟩
              replace c8 := Bool.eq_false_iff.mpr c8; subst c8; rw [if_neg (show ¬ (false = true) by decide)] at H; obtain rfl := Option.some.inj H; have p145 : 0 ≤ (x5_1 : Int) := as_; have q145 : x5_1 < (l0.length : Int) := as_; obtain ⟨ad145, A145_0, c145_0, e145, hx145_0, hl145_0, hi145_0⟩ := at_L5 HR0.out x5_1 p145 q145
              cases e145
              have HR145_0 := ak hi145_0; have HC145_0 := ak hl145_0; clear hi145_0 hl145_0; replace p145 := eq_true p145; replace q145 := eq_true q145; have p146 : 0 ≤ (x5_1 : Int) := as_; have q146 : x5_1 < (l1.length : Int) := as_; obtain ⟨ad146, A146_0, c146_0, e146, hx146_0, hl146_0, hi146_0⟩ := at_L5 HR1.out x5_1 p146 q146
              cases e146
              have HR146_0 := ak hi146_0; have HC146_0 := ak hl146_0; clear hi146_0 hl146_0; replace p146 := eq_true p146; replace q146 := eq_true q146
              go_wp2_with (first | (go_at_call 57; (with_reducible refine (laws_eqIntS.calls k1 _ _ (rd_Ls_i64 l0 x5_1) _ _ (rd_Ls_i64 l1 x5_1) false _ ?side1 ?side2 ?side3 ?side4 A7.out).mono ?_); (case side1 => exact ca_ HR145_0.out); (case side2 => exact HC145_0.out); (case side3 => exact ca_ HR146_0.out); (case side4 => exact HC146_0.out); rintro e w' ⟨rfl, ⟨nd, rfl⟩⟩; (try first | exact ⟨rfl, _, World.drewN_drewN _ _ _⟩ | exact ⟨rfl, _, Eq.trans (World.drewN_drewN _ _ _) (congrArg (World.drewN _) (Nat.add_assoc _ _ _))⟩)))
              repeat (go_quiet (first | (go_at_call 57; (with_reducible refine (laws_eqIntS.calls k1 _ _ (rd_Ls_i64 l0 x5_1) _ _ (rd_Ls_i64 l1 x5_1) false _ ?side1 ?side2 ?side3 ?side4 A7.out).mono ?_); (case side1 => exact ca_ HR145_0.out); (case side2 => exact HC145_0.out); (case side3 => exact ca_ HR146_0.out); (case side4 => exact HC146_0.out); rintro e w' ⟨rfl, ⟨nd, rfl⟩⟩; (try first | exact ⟨rfl, _, World.drewN_drewN _ _ _⟩ | exact ⟨rfl, _, Eq.trans (World.drewN_drewN _ _ _) (congrArg (World.drewN _) (Nat.add_assoc _ _ _))⟩))); try go_wp2_with (first | (go_at_call 57; (with_reducible refine (laws_eqIntS.calls k1 _ _ (rd_Ls_i64 l0 x5_1) _ _ (rd_Ls_i64 l1 x5_1) false _ ?side1 ?side2 ?side3 ?side4 A7.out).mono ?_); (case side1 => exact ca_ HR145_0.out); (case side2 => exact HC145_0.out); (case side3 => exact ca_ HR146_0.out); (case side4 => exact HC146_0.out); rintro e w' ⟨rfl, ⟨nd, rfl⟩⟩; (try first | exact ⟨rfl, _, World.drewN_drewN _ _ _⟩ | exact ⟨rfl, _, Eq.trans (World.drewN_drewN _ _ _) (congrArg (World.drewN _) (Nat.add_assoc _ _ _))⟩))))
              go_ret
              exact ⟨by first | rfl | (simp; done) | (simp [*]; done), by repeat (first | exact Drawn0.refl _ | apply Drawn0.step)⟩
            rw [if_neg c6] at H; exact absurd H (by simp)
          rw [if_neg c5] at H; exact absurd H (by simp)
        rw [if_neg c4] at H; have c4b0 := decide_eq_false c4; clear c4; obtain rfl := Option.some.inj H
        go_wp2
        repeat (go_quiet (fail); try go_wp2)
        go_ret
        exact ⟨by first | rfl | (simp; done) | (simp [*]; done), by repeat (first | exact Drawn0.refl _ | apply Drawn0.step)⟩
  rw [if_neg c3] at H; have c3b0 : ((l0.length : Int) == (l1.length : Int)) = false := beq_eq_false_iff_ne.mpr c3; have c3b1 : ((l0.length : Int) != (l1.length : Int)) = true := bne_iff_ne.mpr c3; have c3b2 : (l0.length == l1.length) = false := by first | simpa using c3 | (simp at c3 ⊢; omega)
  obtain rfl := Option.some.inj H
  go_enter Try.func83, Try.ntmps83
  go_wp2
  repeat (go_quiet (fail); try go_wp2)
  go_ret
  exact ⟨by first | rfl | (simp; done) | (simp [*]; done), by repeat (first | exact Drawn0.refl _ | apply Drawn0.step)⟩

/-! ### laws_eqWorld: function 34 -/
def laws_eqWorld.f (k : Nat) (a0_0 : Int) (l0_1 : List (List Int)) (a1_0 : Int) (l1_1 : List (List Int)) : Option (Bool) := if a0_0 = a1_0 then ((laws_eqIntSS.f k l0_1 l1_1).bind fun t150 => (if t150 = true then (some true) else (some false))) else (some false)
theorem laws_eqWorld.mono : ∀ a0 a1 a2 a3 k, LeO (laws_eqWorld.f k a0 a1 a2 a3) (laws_eqWorld.f (k + 1) a0 a1 a2 a3) := by
  intro a0 a1 a2 a3 k
  unfold laws_eqWorld.f
  repeat' first
      | (with_reducible exact laws_eqIntSS.mono _ _ _)
      | (with_reducible exact LeO.refl _)
      | (with_reducible exact LeO.none _)
      | (with_reducible refine LeO.ite ?_ ?_)
      | (with_reducible refine LeO.bind ?_ (fun _ => ?_))
      | exact laws_eqIntSS.mono _ _ _
      | exact LeO.none _
      | refine LeO.ite ?_ ?_
      | refine LeO.bind ?_ (fun _ => ?_)
set_option maxHeartbeats 8000000 in
set_option maxRecDepth 100000 in
theorem laws_eqWorld.calls (k : Nat) (a0_0 : Int) (A0_1 : Option Addr) (c0_1 : Nat) (l0_1 : List (List Int)) (a1_0 : Int) (A1_1 : Option Addr) (c1_1 : Nat) (l1_1 : List (List Int)) (r : Bool) (w : World) (hr0_1 : Kd.C (Kd.slice 3 (Kd.int .i64)) w A0_1 l0_1.length l0_1) (hc0_1 : l0_1.length ≤ c0_1) (hr1_1 : Kd.C (Kd.slice 3 (Kd.int .i64)) w A1_1 l1_1.length l1_1) (hc1_1 : l1_1.length ≤ c1_1) (h : laws_eqWorld.f k a0_0 l0_1 a1_0 l1_1 = some r) :
    Calls Try.prog 34 #[.agg #[.int .i64 a0_0, .slice A0_1 l0_1.length c0_1], .agg #[.int .i64 a1_0, .slice A1_1 l1_1.length c1_1]] w fun e w' => e = .returned (.bool r) ∧ Below w.heap.size w w' := by
  have hu51 := Try.underlying51; have HR0_1 := ak hr0_1; have HC0_1 := ak hc0_1; clear hr0_1 hc0_1; have HR1_1 := ak hr1_1; have HC1_1 := ak hc1_1; clear hr1_1 hc1_1; have HB := ak (Below.refl w.heap.size w); have H : (if a0_0 = a1_0 then ((laws_eqIntSS.f k l0_1 l1_1).bind fun t150 => (if t150 = true then (some true) else (some false))) else (some false)) = some r := h; clear h
  by_cases c3 : a0_0 = a1_0
  · rw [if_pos c3] at H; have c3b0 : (a0_0 == a1_0) = true := beq_iff_eq.mpr c3; have c3b1 : (a0_0 != a1_0) = false := bne_eq_false_iff_eq.mpr c3; clear c3; replace H := Option.bind_eq_some_iff.mp H; obtain ⟨t150, A40, H⟩ := H; have A4 := ak A40; clear A40
    by_cases c5 : t150 = true
    · subst c5; rw [if_pos rfl] at H; obtain rfl := Option.some.inj H
      go_enter Try.func34, Try.ntmps34
      go_wp2_with (first | ((with_reducible refine gate_dst (N := 2) rfl ?_); refine bxe_ (N := 2) (cs := #[.int .i64 a0_0, .slice A0_1 l0_1.length c0_1]) (t := 51) ?_; intro gb148 hg w6 hbox hb; have BK148 := ak (hbox); have GW148 := ak (lg_ hg (bl_ HB.out)); have GE148 := ak (lg_ hg (bl_ HB.out)); replace HB := ak (below_step (bl_ HB.out) hb); clear hb hbox hg) | ((with_reducible refine gate_dst (N := 3) rfl ?_); refine bxe_ (N := 3) (cs := #[.int .i64 a1_0, .slice A1_1 l1_1.length c1_1]) (t := 51) ?_; intro gb149 hg w7 hbox hb; have BK149 := ak (hbox); have GW149 := ak (lg_ hg (bs1_ HB.out GE148.out)); have GE149 := ak (lg_ hg (bs1_ HB.out GE148.out)); replace HB := ak (below_step (bs1_ HB.out GE148.out) hb); have NB148_149 := ak (nl_ hg (bk_ BK148.out)); have NB149_148 := ak (ng_ hg (bk_ BK148.out)); replace BK148 := ak (blk_below (bk_ BK148.out) hb); clear hb hbox hg; have hnb8 := NB148_149.out; have hnc8 := NB149_148.out; have hcz9_0 := bc_ BK148.out 0; have hcz9_1 := bc_ BK148.out 1; have hfz9_0 := blk_frozen BK148.out 0; have hfz9_1 := blk_frozen BK148.out 1; have hcz10_0 := bc_ BK149.out 0; have hcz10_1 := bc_ BK149.out 1; have hfz10_0 := blk_frozen BK149.out 0; have hfz10_1 := blk_frozen BK149.out 1) | ((with_reducible refine gate_callee (f := 83) rfl ?_); refine goesM_ (some 14) rfl rfl Try.func83 (by kernel_rfl) rfl #[.slice A0_1 l0_1.length c0_1, .slice A1_1 l1_1.length c1_1] rfl ?_; (with_reducible refine (laws_eqIntSS.calls k _ _ l0_1 _ _ l1_1 true _ ?side1 ?side2 ?side3 ?side4 A4.out).mono ?_); (case side1 => exact cb_ HR0_1.out HB.out); (case side2 => exact HC0_1.out); (case side3 => exact cb_ HR1_1.out HB.out); (case side4 => exact HC1_1.out); rintro e w' ⟨rfl, ⟨nd, rfl⟩⟩; refine ⟨_, rfl, ?_⟩))
      go_ret
      exact fin_ (bs2_ HB.out GE148.out GE149.out)
    replace c5 := Bool.eq_false_iff.mpr c5; subst c5; rw [if_neg (show ¬ (false = true) by decide)] at H; obtain rfl := Option.some.inj H
    go_enter Try.func34, Try.ntmps34
    go_wp2_with (first | ((with_reducible refine gate_dst (N := 2) rfl ?_); refine bxe_ (N := 2) (cs := #[.int .i64 a0_0, .slice A0_1 l0_1.length c0_1]) (t := 51) ?_; intro gb148 hg w11 hbox hb; have BK148 := ak (hbox); have GW148 := ak (lg_ hg (bl_ HB.out)); have GE148 := ak (lg_ hg (bl_ HB.out)); replace HB := ak (below_step (bl_ HB.out) hb); clear hb hbox hg) | ((with_reducible refine gate_dst (N := 3) rfl ?_); refine bxe_ (N := 3) (cs := #[.int .i64 a1_0, .slice A1_1 l1_1.length c1_1]) (t := 51) ?_; intro gb149 hg w12 hbox hb; have BK149 := ak (hbox); have GW149 := ak (lg_ hg (bs1_ HB.out GE148.out)); have GE149 := ak (lg_ hg (bs1_ HB.out GE148.out)); replace HB := ak (below_step (bs1_ HB.out GE148.out) hb); have NB148_149 := ak (nl_ hg (bk_ BK148.out)); have NB149_148 := ak (ng_ hg (bk_ BK148.out)); replace BK148 := ak (blk_below (bk_ BK148.out) hb); clear hb hbox hg; have hnb13 := NB148_149.out; have hnc13 := NB149_148.out; have hcz14_0 := bc_ BK148.out 0; have hcz14_1 := bc_ BK148.out 1; have hfz14_0 := blk_frozen BK148.out 0; have hfz14_1 := blk_frozen BK148.out 1; have hcz15_0 := bc_ BK149.out 0; have hcz15_1 := bc_ BK149.out 1; have hfz15_0 := blk_frozen BK149.out 0; have hfz15_1 := blk_frozen BK149.out 1) | ((with_reducible refine gate_callee (f := 83) rfl ?_); refine goesM_ (some 14) rfl rfl Try.func83 (by kernel_rfl) rfl #[.slice A0_1 l0_1.length c0_1, .slice A1_1 l1_1.length c1_1] rfl ?_; (with_reducible refine (laws_eqIntSS.calls k _ _ l0_1 _ _ l1_1 false _ ?side1 ?side2 ?side3 ?side4 A4.out).mono ?_); (case side1 => exact cb_ HR0_1.out HB.out); (case side2 => exact HC0_1.out); (case side3 => exact cb_ HR1_1.out HB.out); (case side4 => exact HC1_1.out); rintro e w' ⟨rfl, ⟨nd, rfl⟩⟩; refine ⟨_, rfl, ?_⟩))
    go_ret
    exact fin_ (bs2_ HB.out GE148.out GE149.out)
  rw [if_neg c3] at H; have c3b0 : (a0_0 == a1_0) = false := beq_eq_false_iff_ne.mpr c3; have c3b1 : (a0_0 != a1_0) = true := bne_iff_ne.mpr c3; obtain rfl := Option.some.inj H
  go_enter Try.func34, Try.ntmps34
  go_wp2_with (first | ((with_reducible refine gate_dst (N := 2) rfl ?_); refine bxe_ (N := 2) (cs := #[.int .i64 a0_0, .slice A0_1 l0_1.length c0_1]) (t := 51) ?_; intro gb148 hg w16 hbox hb; have BK148 := ak (hbox); have GW148 := ak (lg_ hg (bl_ HB.out)); have GE148 := ak (lg_ hg (bl_ HB.out)); replace HB := ak (below_step (bl_ HB.out) hb); clear hb hbox hg) | ((with_reducible refine gate_dst (N := 3) rfl ?_); refine bxe_ (N := 3) (cs := #[.int .i64 a1_0, .slice A1_1 l1_1.length c1_1]) (t := 51) ?_; intro gb149 hg w17 hbox hb; have BK149 := ak (hbox); have GW149 := ak (lg_ hg (bs1_ HB.out GE148.out)); have GE149 := ak (lg_ hg (bs1_ HB.out GE148.out)); replace HB := ak (below_step (bs1_ HB.out GE148.out) hb); have NB148_149 := ak (nl_ hg (bk_ BK148.out)); have NB149_148 := ak (ng_ hg (bk_ BK148.out)); replace BK148 := ak (blk_below (bk_ BK148.out) hb); clear hb hbox hg; have hnb18 := NB148_149.out; have hnc18 := NB149_148.out; have hcz19_0 := bc_ BK148.out 0; have hcz19_1 := bc_ BK148.out 1; have hfz19_0 := blk_frozen BK148.out 0; have hfz19_1 := blk_frozen BK148.out 1; have hcz20_0 := bc_ BK149.out 0; have hcz20_1 := bc_ BK149.out 1; have hfz20_0 := blk_frozen BK149.out 0; have hfz20_1 := blk_frozen BK149.out 1))
  go_ret
  exact fin_ (bs2_ HB.out GE148.out GE149.out)

/-! ### spec_l1In: function 79 -/
def spec_l1In.f (a0 : Int) (a1 : Int) (a2 : Int) : Option (Bool) := if a0 ≥ a1 then (some (decide (a0 ≤ a2))) else (some false)
set_option maxHeartbeats 8000000 in
set_option maxRecDepth 100000 in
theorem spec_l1In.calls (a0 : Int) (a1 : Int) (a2 : Int) (r : Bool) (w : World) (h : spec_l1In.f a0 a1 a2 = some r) :
    Calls Try.prog 79 #[.int .i64 a0, .int .i64 a1, .int .i64 a2] w fun e w' => e = .returned (.bool r) ∧ Drawn0 w w' := by
  have H : (if a0 ≥ a1 then (some (decide (a0 ≤ a2))) else (some false)) = some r := h; clear h
  by_cases c4 : a0 ≥ a1
  · rw [if_pos c4] at H; have c4b0 := decide_eq_true c4; clear c4; obtain rfl := Option.some.inj H
    go_enter Try.func79, Try.ntmps79
    go_wp2
    go_ret
    exact ⟨by first | rfl | (simp; done) | (simp [*]; done), by repeat (first | exact Drawn0.refl _ | apply Drawn0.step)⟩
  rw [if_neg c4] at H; have c4b0 := decide_eq_false c4; clear c4; obtain rfl := Option.some.inj H
  go_enter Try.func79, Try.ntmps79
  go_wp2
  go_ret
  exact ⟨by first | rfl | (simp; done) | (simp [*]; done), by repeat (first | exact Drawn0.refl _ | apply Drawn0.step)⟩

/-! ### spec_NameOk: function 140 -/
def spec_NameOk.l0 : Nat → ByteArray → Int → Option (Bool)
  | 0, _, _ => none
  | k + 1, x0, x3 => if x3 < (x0.size : Int) then (if 0 ≤ x3 then (if (bt x0 x3) ≥ 97 then (if (bt x0 x3) ≤ 122 then (spec_NameOk.l0 k x0 (wrap64 (x3 + 1))) else (if x3 > 0 then (if (bt x0 x3) ≥ 48 then (if ((bt x0 x3) ≤ 57) then (spec_NameOk.l0 k x0 (wrap64 (x3 + 1))) else (some false)) else (some false)) else (some false))) else (if x3 > 0 then (if (bt x0 x3) ≥ 48 then (if ((bt x0 x3) ≤ 57) then (spec_NameOk.l0 k x0 (wrap64 (x3 + 1))) else (some false)) else (some false)) else (some false))) else (none)) else ((spec_l1In.f (x0.size : Int) 1 8).bind fun t151 => (some t151))
def spec_NameOk.f (k : Nat) (a0 : ByteArray) : Option (Bool) := spec_NameOk.l0 k a0 0
theorem spec_NameOk.mono_l : ∀ k, (∀ y0 y1, LeO (spec_NameOk.l0 k y0 y1) (spec_NameOk.l0 (k + 1) y0 y1))
  | 0 => fun _ _ r h => by simp [spec_NameOk.l0] at h
  | k + 1 => by
    have ih0 := spec_NameOk.mono_l k
    · intro y0 y1
      unfold spec_NameOk.l0
      repeat' first | (with_reducible first | exact ih0 _ _ | exact LeO.refl _ | exact LeO.none _ | refine LeO.ite ?_ ?_ | refine LeO.bind ?_ (fun _ => ?_)) | exact ih0 _ _ | exact LeO.none _ | refine LeO.ite ?_ ?_ | refine LeO.bind ?_ (fun _ => ?_)
theorem spec_NameOk.mono : ∀ a0 k, LeO (spec_NameOk.f k a0) (spec_NameOk.f (k + 1) a0) := by
  intro a0 k; have ih0 := spec_NameOk.mono_l k
  unfold spec_NameOk.f
  repeat' first
      | (with_reducible exact ih0 _ _)
      | (with_reducible exact LeO.refl _)
      | (with_reducible exact LeO.none _)
      | (with_reducible refine LeO.ite ?_ ?_)
      | (with_reducible refine LeO.bind ?_ (fun _ => ?_))
      | exact ih0 _ _
      | exact LeO.none _
      | refine LeO.ite ?_ ?_
      | refine LeO.bind ?_ (fun _ => ?_)
set_option maxHeartbeats 8000000 in
set_option maxRecDepth 100000 in
theorem spec_NameOk.calls (k : Nat) (a0 : ByteArray) (r : Bool) (w : World) (h : spec_NameOk.f k a0 = some r) :
    Calls Try.prog 140 #[.string a0] w fun e w' => e = .returned (.bool r) ∧ Drawn0 w w' := by
  have H : (spec_NameOk.l0 k a0 0) = some r := h; clear h; have H' := ak H; clear H
  go_enter Try.func140, Try.ntmps140
  go_wp2
  go_loopg [3] k (fun kq v3 w' => ∃ (x3_1 : Int), v3 = .int .i64 x3_1 ∧ Aside0 (spec_NameOk.l0 kq a0 x3_1 = some r) ∧ Aside0 (kq ≤ k) ∧ Drawn0 w w')
  case atStart => exact ⟨(0), (by first | rfl | (simp; done) | (simp [*]; done)), H', ⟨Nat.le_refl _⟩, by repeat (first | exact Drawn0.refl _ | apply Drawn0.step)⟩
  case round =>
    clear H'; (try clear c1); obtain ⟨x3_1, rfl, HA, HK1, ⟨m1, rfl⟩⟩ := hrel
    cases gk with
    | zero => exact absurd HA.out (by simp [spec_NameOk.l0])
    | succ k1 =>
      have H := HA.out; clear HA
      simp only [spec_NameOk.l0] at H
      by_cases c2 : x3_1 < (a0.size : Int)
      · rw [if_pos c2] at H; have c2b0 := decide_eq_true c2; clear c2
        by_cases c3 : 0 ≤ x3_1
        · rw [if_pos c3] at H; have c3b0 := decide_eq_true c3; clear c3
          by_cases c5 : (bt a0 x3_1) ≥ 97
          · rw [if_pos c5] at H; have c5b0 := decide_eq_true c5; clear c5
            by_cases c7 : (bt a0 x3_1) ≤ 122
            · rw [if_pos c7] at H; have c7b0 := decide_eq_true c7; clear c7; have H' := ak H; clear H; have p4 : 0 ≤ (x3_1 : Int) := as_; have q4 : x3_1 < (a0.size : Int) := as_; have hx4 := bt_at a0 x3_1; replace p4 := eq_true p4; replace q4 := eq_true q4; have p6 : 0 ≤ (x3_1 : Int) := as_; have q6 : x3_1 < (a0.size : Int) := as_; have hx6 := bt_at a0 x3_1; replace p6 := eq_true p6; replace q6 := eq_true q6
              go_wp2
              go_roundg k1
              case measure => have := HK1.out; omega
              case rel => exact ⟨(wrap64 (x3_1 + 1)), (by first | rfl | (simp; done) | (simp [*]; done)), H', ⟨by have := HK1.out; omega⟩, by repeat (first | exact Drawn0.refl _ | apply Drawn0.step)⟩
            rw [if_neg c7] at H; have c7b0 := decide_eq_false c7; clear c7
            by_cases c8 : x3_1 > 0
            · rw [if_pos c8] at H; have c8b0 := decide_eq_true c8; clear c8
              by_cases c10 : (bt a0 x3_1) ≥ 48
              · rw [if_pos c10] at H; have c10b0 := decide_eq_true c10; clear c10
                by_cases c12 : ((bt a0 x3_1) ≤ 57)
                · rw [if_pos c12] at H; have c12b0 := decide_eq_true c12; clear c12; have H' := ak H; clear H; have p4 : 0 ≤ (x3_1 : Int) := as_; have q4 : x3_1 < (a0.size : Int) := as_; have hx4 := bt_at a0 x3_1; replace p4 := eq_true p4; replace q4 := eq_true q4; have p6 : 0 ≤ (x3_1 : Int) := as_; have q6 : x3_1 < (a0.size : Int) := as_; have hx6 := bt_at a0 x3_1; replace p6 := eq_true p6; replace q6 := eq_true q6; have p9 : 0 ≤ (x3_1 : Int) := as_; have q9 : x3_1 < (a0.size : Int) := as_; have hx9 := bt_at a0 x3_1; replace p9 := eq_true p9; replace q9 := eq_true q9; have p11 : 0 ≤ (x3_1 : Int) := as_; have q11 : x3_1 < (a0.size : Int) := as_; have hx11 := bt_at a0 x3_1; replace p11 := eq_true p11; replace q11 := eq_true q11
                  go_wp2
                  go_roundg k1
                  case measure => have := HK1.out; omega
                  case rel => exact ⟨(wrap64 (x3_1 + 1)), (by first | rfl | (simp; done) | (simp [*]; done)), H', ⟨by have := HK1.out; omega⟩, by repeat (first | exact Drawn0.refl _ | apply Drawn0.step)⟩
                rw [if_neg c12] at H; have c12b0 := decide_eq_false c12; clear c12; obtain rfl := Option.some.inj H; have p4 : 0 ≤ (x3_1 : Int) := as_; have q4 : x3_1 < (a0.size : Int) := as_; have hx4 := bt_at a0 x3_1; replace p4 := eq_true p4; replace q4 := eq_true q4; have p6 : 0 ≤ (x3_1 : Int) := as_; have q6 : x3_1 < (a0.size : Int) := as_; have hx6 := bt_at a0 x3_1; replace p6 := eq_true p6; replace q6 := eq_true q6; have p9 : 0 ≤ (x3_1 : Int) := as_; have q9 : x3_1 < (a0.size : Int) := as_; have hx9 := bt_at a0 x3_1; replace p9 := eq_true p9; replace q9 := eq_true q9; have p11 : 0 ≤ (x3_1 : Int) := as_; have q11 : x3_1 < (a0.size : Int) := as_; have hx11 := bt_at a0 x3_1; replace p11 := eq_true p11; replace q11 := eq_true q11
                go_wp2
                go_ret
                exact ⟨by first | rfl | (simp; done) | (simp [*]; done), by repeat (first | exact Drawn0.refl _ | apply Drawn0.step)⟩
              rw [if_neg c10] at H; have c10b0 := decide_eq_false c10; clear c10; obtain rfl := Option.some.inj H; have p4 : 0 ≤ (x3_1 : Int) := as_; have q4 : x3_1 < (a0.size : Int) := as_; have hx4 := bt_at a0 x3_1; replace p4 := eq_true p4; replace q4 := eq_true q4; have p6 : 0 ≤ (x3_1 : Int) := as_; have q6 : x3_1 < (a0.size : Int) := as_; have hx6 := bt_at a0 x3_1; replace p6 := eq_true p6; replace q6 := eq_true q6; have p9 : 0 ≤ (x3_1 : Int) := as_; have q9 : x3_1 < (a0.size : Int) := as_; have hx9 := bt_at a0 x3_1; replace p9 := eq_true p9; replace q9 := eq_true q9
              go_wp2
              go_ret
              exact ⟨by first | rfl | (simp; done) | (simp [*]; done), by repeat (first | exact Drawn0.refl _ | apply Drawn0.step)⟩
            rw [if_neg c8] at H; have c8b0 := decide_eq_false c8; clear c8; obtain rfl := Option.some.inj H; have p4 : 0 ≤ (x3_1 : Int) := as_; have q4 : x3_1 < (a0.size : Int) := as_; have hx4 := bt_at a0 x3_1; replace p4 := eq_true p4; replace q4 := eq_true q4; have p6 : 0 ≤ (x3_1 : Int) := as_; have q6 : x3_1 < (a0.size : Int) := as_; have hx6 := bt_at a0 x3_1; replace p6 := eq_true p6; replace q6 := eq_true q6
            go_wp2
            go_ret
            exact ⟨by first | rfl | (simp; done) | (simp [*]; done), by repeat (first | exact Drawn0.refl _ | apply Drawn0.step)⟩
          rw [if_neg c5] at H; have c5b0 := decide_eq_false c5; clear c5
          by_cases c13 : x3_1 > 0
          · rw [if_pos c13] at H; have c13b0 := decide_eq_true c13; clear c13
            by_cases c15 : (bt a0 x3_1) ≥ 48
            · rw [if_pos c15] at H; have c15b0 := decide_eq_true c15; clear c15
              by_cases c17 : ((bt a0 x3_1) ≤ 57)
              · rw [if_pos c17] at H; have c17b0 := decide_eq_true c17; clear c17; have H' := ak H; clear H; have p4 : 0 ≤ (x3_1 : Int) := as_; have q4 : x3_1 < (a0.size : Int) := as_; have hx4 := bt_at a0 x3_1; replace p4 := eq_true p4; replace q4 := eq_true q4; have p14 : 0 ≤ (x3_1 : Int) := as_; have q14 : x3_1 < (a0.size : Int) := as_; have hx14 := bt_at a0 x3_1; replace p14 := eq_true p14; replace q14 := eq_true q14; have p16 : 0 ≤ (x3_1 : Int) := as_; have q16 : x3_1 < (a0.size : Int) := as_; have hx16 := bt_at a0 x3_1; replace p16 := eq_true p16; replace q16 := eq_true q16
                go_wp2
                go_roundg k1
                case measure => have := HK1.out; omega
                case rel => exact ⟨(wrap64 (x3_1 + 1)), (by first | rfl | (simp; done) | (simp [*]; done)), H', ⟨by have := HK1.out; omega⟩, by repeat (first | exact Drawn0.refl _ | apply Drawn0.step)⟩
              rw [if_neg c17] at H; have c17b0 := decide_eq_false c17; clear c17; obtain rfl := Option.some.inj H; have p4 : 0 ≤ (x3_1 : Int) := as_; have q4 : x3_1 < (a0.size : Int) := as_; have hx4 := bt_at a0 x3_1; replace p4 := eq_true p4; replace q4 := eq_true q4; have p14 : 0 ≤ (x3_1 : Int) := as_; have q14 : x3_1 < (a0.size : Int) := as_; have hx14 := bt_at a0 x3_1; replace p14 := eq_true p14; replace q14 := eq_true q14; have p16 : 0 ≤ (x3_1 : Int) := as_; have q16 : x3_1 < (a0.size : Int) := as_; have hx16 := bt_at a0 x3_1; replace p16 := eq_true p16; replace q16 := eq_true q16
              go_wp2
              go_ret
              exact ⟨by first | rfl | (simp; done) | (simp [*]; done), by repeat (first | exact Drawn0.refl _ | apply Drawn0.step)⟩
            rw [if_neg c15] at H; have c15b0 := decide_eq_false c15; clear c15; obtain rfl := Option.some.inj H; have p4 : 0 ≤ (x3_1 : Int) := as_; have q4 : x3_1 < (a0.size : Int) := as_; have hx4 := bt_at a0 x3_1; replace p4 := eq_true p4; replace q4 := eq_true q4; have p14 : 0 ≤ (x3_1 : Int) := as_; have q14 : x3_1 < (a0.size : Int) := as_; have hx14 := bt_at a0 x3_1; replace p14 := eq_true p14; replace q14 := eq_true q14
            go_wp2
            go_ret
            exact ⟨by first | rfl | (simp; done) | (simp [*]; done), by repeat (first | exact Drawn0.refl _ | apply Drawn0.step)⟩
          rw [if_neg c13] at H; have c13b0 := decide_eq_false c13; clear c13; obtain rfl := Option.some.inj H; have p4 : 0 ≤ (x3_1 : Int) := as_; have q4 : x3_1 < (a0.size : Int) := as_; have hx4 := bt_at a0 x3_1; replace p4 := eq_true p4; replace q4 := eq_true q4
          go_wp2
          go_ret
          exact ⟨by first | rfl | (simp; done) | (simp [*]; done), by repeat (first | exact Drawn0.refl _ | apply Drawn0.step)⟩
        rw [if_neg c3] at H; exact absurd H (by simp)
      rw [if_neg c2] at H; have c2b0 := decide_eq_false c2; clear c2; replace H := Option.bind_eq_some_iff.mp H; obtain ⟨t151, A180, H⟩ := H; have A18 := ak A180; clear A180; obtain rfl := Option.some.inj H
      go_wp2_with (first | ((with_reducible refine gate_callee (f := 79) rfl ?_); refine goesM_ (some 39) rfl rfl Try.func79 (by kernel_rfl) rfl #[.int .i64 (a0.size : Int), .int .i64 1, .int .i64 8] rfl ?_; (with_reducible refine (spec_l1In.calls (a0.size : Int) 1 8 t151 _ A18.out).mono ?_); rintro e w' ⟨rfl, ⟨nd, rfl⟩⟩; refine ⟨_, rfl, ?_⟩))
      go_ret
      exact ⟨by first | rfl | (simp; done) | (simp [*]; done), by repeat (first | exact Drawn0.refl _ | apply Drawn0.step)⟩

/-! ### spec_SymOf: function 141 -/
def spec_SymOf.l0 : Nat → List (I_Sym) → ByteArray → Int → Option (Int)
  | 0, _, _, _ => none
  | k + 1, x0, x1, x5 => if x5 < (x0.length : Int) then (if 0 ≤ x5 then (if ((rd_I_Sym x0 x5).f0).toList = x1.toList then (some x5) else (spec_SymOf.l0 k x0 x1 (wrap64 (x5 + 1)))) else (none)) else (some (-1))
def spec_SymOf.f (k : Nat) (l0 : List (I_Sym)) (a1 : ByteArray) : Option (Int) := spec_SymOf.l0 k l0 a1 0
theorem spec_SymOf.mono_l : ∀ k, (∀ y0 y1 y2, LeO (spec_SymOf.l0 k y0 y1 y2) (spec_SymOf.l0 (k + 1) y0 y1 y2))
  | 0 => fun _ _ _ r h => by simp [spec_SymOf.l0] at h
  | k + 1 => by
    have ih0 := spec_SymOf.mono_l k
    · intro y0 y1 y2
      unfold spec_SymOf.l0
      repeat' first | (with_reducible first | exact ih0 _ _ _ | exact LeO.refl _ | exact LeO.none _ | refine LeO.ite ?_ ?_ | refine LeO.bind ?_ (fun _ => ?_)) | exact ih0 _ _ _ | exact LeO.none _ | refine LeO.ite ?_ ?_ | refine LeO.bind ?_ (fun _ => ?_)
theorem spec_SymOf.mono : ∀ a0 a1 k, LeO (spec_SymOf.f k a0 a1) (spec_SymOf.f (k + 1) a0 a1) := by
  intro a0 a1 k; have ih0 := spec_SymOf.mono_l k
  unfold spec_SymOf.f
  repeat' first
      | (with_reducible exact ih0 _ _ _)
      | (with_reducible exact LeO.refl _)
      | (with_reducible exact LeO.none _)
      | (with_reducible refine LeO.ite ?_ ?_)
      | (with_reducible refine LeO.bind ?_ (fun _ => ?_))
      | exact ih0 _ _ _
      | exact LeO.none _
      | refine LeO.ite ?_ ?_
      | refine LeO.bind ?_ (fun _ => ?_)
set_option maxHeartbeats 8000000 in
set_option maxRecDepth 100000 in
theorem spec_SymOf.calls (k : Nat) (A0 : Option Addr) (c0 : Nat) (l0 : List (I_Sym)) (a1 : ByteArray) (r : Int) (w : World) (hr0 : Kd.C k99 w A0 l0.length l0) (hc0 : l0.length ≤ c0) (h : spec_SymOf.f k l0 a1 = some r) :
    Calls Try.prog 141 #[.slice A0 l0.length c0, .string a1] w fun e w' => e = .returned (.int .i64 r) ∧ Drawn0 w w' := by
  have HR0 := ak hr0; have HC0 := ak hc0; clear hr0 hc0; have H : (spec_SymOf.l0 k l0 a1 0) = some r := h; clear h; have H' := ak H; clear H
  go_enter Try.func141, Try.ntmps141
  go_wp2
  go_loopg [5] k (fun kq v5 w' => ∃ (x5_1 : Int), v5 = .int .i64 x5_1 ∧ Aside0 (spec_SymOf.l0 kq l0 a1 x5_1 = some r) ∧ Aside0 (kq ≤ k) ∧ Drawn0 w w')
  case atStart => exact ⟨(0), (by first | rfl | (simp; done) | (simp [*]; done)), H', ⟨Nat.le_refl _⟩, by repeat (first | exact Drawn0.refl _ | apply Drawn0.step)⟩
  case round =>
    clear H'; (try clear c1); (try clear p2); obtain ⟨x5_1, rfl, HA, HK1, ⟨m1, rfl⟩⟩ := hrel
    cases gk with
    | zero => exact absurd HA.out (by simp [spec_SymOf.l0])
    | succ k1 =>
      have H := HA.out; clear HA
      simp only [spec_SymOf.l0] at H
      by_cases c3 : x5_1 < (l0.length : Int)
      · rw [if_pos c3] at H; have c3b0 := decide_eq_true c3; clear c3
        by_cases c4 : 0 ≤ x5_1
        · rw [if_pos c4] at H; have c4b0 := decide_eq_true c4; clear c4
          by_cases c5 : ((rd_I_Sym l0 x5_1).f0).toList = a1.toList
          · rw [if_pos c5] at H; have c5b0 : (((rd_I_Sym l0 x5_1).f0).toList == a1.toList) = true := beq_iff_eq.mpr c5; have c5b1 : (((rd_I_Sym l0 x5_1).f0).toList != a1.toList) = false := bne_eq_false_iff_eq.mpr c5; clear c5; obtain rfl := Option.some.inj H; have p152 : 0 ≤ (x5_1 : Int) := as_; have q152 : x5_1 < (l0.length : Int) := as_; obtain ⟨ad152, e152, hx152_0, hx152_1, hx152_2⟩ := at_T99 HR0.out x5_1 p152 q152
            cases e152
            replace p152 := eq_true p152; replace q152 := eq_true q152
            go_wp2
            go_ret
            exact ⟨by first | rfl | (simp; done) | (simp [*]; done), by repeat (first | exact Drawn0.refl _ | apply Drawn0.step)⟩
          rw [if_neg c5] at H; have c5b0 : (((rd_I_Sym l0 x5_1).f0).toList == a1.toList) = false := beq_eq_false_iff_ne.mpr c5; have c5b1 : (((rd_I_Sym l0 x5_1).f0).toList != a1.toList) = true := bne_iff_ne.mpr c5; have H' := ak H; clear H; have p152 : 0 ≤ (x5_1 : Int) := as_; have q152 : x5_1 < (l0.length : Int) := as_; obtain ⟨ad152, e152, hx152_0, hx152_1, hx152_2⟩ := at_T99 HR0.out x5_1 p152 q152
          cases e152
          replace p152 := eq_true p152; replace q152 := eq_true q152
          go_wp2
          go_roundg k1
          case measure => have := HK1.out; omega
          case rel => exact ⟨(wrap64 (x5_1 + 1)), (by first | rfl | (simp; done) | (simp [*]; done)), H', ⟨by have := HK1.out; omega⟩, by repeat (first | exact Drawn0.refl _ | apply Drawn0.step)⟩
        rw [if_neg c4] at H; exact absurd H (by simp)
      rw [if_neg c3] at H; have c3b0 := decide_eq_false c3; clear c3; obtain rfl := Option.some.inj H
      go_wp2
      go_ret
      exact ⟨by first | rfl | (simp; done) | (simp [*]; done), by repeat (first | exact Drawn0.refl _ | apply Drawn0.step)⟩

/-! ### spec_SigOk: function 78 -/
def spec_SigOk.l0 : Nat → List (I_Sym) → Int → Option (Bool)
  | 0, _, _ => none
  | k + 1, x0, x3 => if x3 < (x0.length : Int) then (if 0 ≤ x3 then ((spec_NameOk.f k ((rd_I_Sym x0 x3).f0)).bind fun t156 => (if t156 = true then ((spec_SymOf.f k x0 ((rd_I_Sym x0 x3).f0)).bind fun t158 => (if t158 = x3 then ((spec_l1In.f ((rd_I_Sym x0 x3).f1) 0 3).bind fun t160 => (if t160 = true then (if (rd_I_Sym x0 x3).f2 = true then (if ((rd_I_Sym x0 x3).f1) = 2 then (spec_SigOk.l0 k x0 (wrap64 (x3 + 1))) else (some false)) else (spec_SigOk.l0 k x0 (wrap64 (x3 + 1)))) else (some false))) else (some false))) else (some false))) else (none)) else ((spec_l1In.f (x0.length : Int) 1 8).bind fun t153 => (if t153 = true then (if 0 < (x0.length : Int) then (some ((((rd_I_Sym x0 0).f0).toList) == ([116, 116] : List UInt8) && (((rd_I_Sym x0 0).f1) == 0 && (!((rd_I_Sym x0 0).f2))))) else (none)) else (some false)))
def spec_SigOk.f (k : Nat) (l0 : List (I_Sym)) : Option (Bool) := spec_SigOk.l0 k l0 0
theorem spec_SigOk.mono_l : ∀ k, (∀ y0 y1, LeO (spec_SigOk.l0 k y0 y1) (spec_SigOk.l0 (k + 1) y0 y1))
  | 0 => fun _ _ r h => by simp [spec_SigOk.l0] at h
  | k + 1 => by
    have ih0 := spec_SigOk.mono_l k
    · intro y0 y1
      unfold spec_SigOk.l0
      repeat' first | (with_reducible first | exact ih0 _ _ | exact spec_NameOk.mono _ _ | exact spec_SymOf.mono _ _ _ | exact LeO.refl _ | exact LeO.none _ | refine LeO.ite ?_ ?_ | refine LeO.bind ?_ (fun _ => ?_)) | exact ih0 _ _ | exact spec_NameOk.mono _ _ | exact spec_SymOf.mono _ _ _ | exact LeO.none _ | refine LeO.ite ?_ ?_ | refine LeO.bind ?_ (fun _ => ?_)
theorem spec_SigOk.mono : ∀ a0 k, LeO (spec_SigOk.f k a0) (spec_SigOk.f (k + 1) a0) := by
  intro a0 k; have ih0 := spec_SigOk.mono_l k
  unfold spec_SigOk.f
  repeat' first
      | (with_reducible exact ih0 _ _)
      | (with_reducible exact spec_NameOk.mono _ _)
      | (with_reducible exact spec_SymOf.mono _ _ _)
      | (with_reducible exact LeO.refl _)
      | (with_reducible exact LeO.none _)
      | (with_reducible refine LeO.ite ?_ ?_)
      | (with_reducible refine LeO.bind ?_ (fun _ => ?_))
      | exact ih0 _ _
      | exact spec_NameOk.mono _ _
      | exact spec_SymOf.mono _ _ _
      | exact LeO.none _
      | refine LeO.ite ?_ ?_
      | refine LeO.bind ?_ (fun _ => ?_)
set_option maxHeartbeats 8000000 in
set_option maxRecDepth 100000 in
theorem spec_SigOk.calls (k : Nat) (A0 : Option Addr) (c0 : Nat) (l0 : List (I_Sym)) (r : Bool) (w : World) (hr0 : Kd.C k99 w A0 l0.length l0) (hc0 : l0.length ≤ c0) (h : spec_SigOk.f k l0 = some r) :
    Calls Try.prog 78 #[.slice A0 l0.length c0] w fun e w' => e = .returned (.bool r) ∧ Drawn0 w w' := by
  have hu99 := Try.underlying99; have HR0 := ak hr0; have HC0 := ak hc0; clear hr0 hc0; have H : (spec_SigOk.l0 k l0 0) = some r := h; clear h; have H' := ak H; clear H
  go_enter Try.func78, Try.ntmps78
  go_wp2
  go_loopg [3] k (fun kq v3 w' => ∃ (x3_1 : Int), v3 = .int .i64 x3_1 ∧ Aside0 (spec_SigOk.l0 kq l0 x3_1 = some r) ∧ Aside0 (kq ≤ k) ∧ Drawn0 w w')
  case atStart => exact ⟨(0), (by first | rfl | (simp; done) | (simp [*]; done)), H', ⟨Nat.le_refl _⟩, by repeat (first | exact Drawn0.refl _ | apply Drawn0.step)⟩
  case round =>
    clear H'; obtain ⟨x3_1, rfl, HA, HK1, ⟨m1, rfl⟩⟩ := hrel
    cases gk with
    | zero => exact absurd HA.out (by simp [spec_SigOk.l0])
    | succ k1 =>
      have H := HA.out; clear HA
      simp only [spec_SigOk.l0] at H
      by_cases c2 : x3_1 < (l0.length : Int)
      · rw [if_pos c2] at H; have c2b0 := decide_eq_true c2; clear c2
        by_cases c3 : 0 ≤ x3_1
        · rw [if_pos c3] at H; have c3b0 := decide_eq_true c3; clear c3; replace H := Option.bind_eq_some_iff.mp H; obtain ⟨t156, A40, H⟩ := H; have A4 := ak A40; clear A40
          by_cases c5 : t156 = true
          · subst c5; rw [if_pos rfl] at H; replace H := Option.bind_eq_some_iff.mp H; obtain ⟨t158, A60, H⟩ := H; have A6 := ak A60; clear A60
            by_cases c7 : t158 = x3_1
            · rw [if_pos c7] at H; have c7b0 : (t158 == x3_1) = true := beq_iff_eq.mpr c7; have c7b1 : (t158 != x3_1) = false := bne_eq_false_iff_eq.mpr c7; clear c7; replace H := Option.bind_eq_some_iff.mp H; obtain ⟨t160, A80, H⟩ := H; have A8 := ak A80; clear A80
              by_cases c9 : t160 = true
              · subst c9; rw [if_pos rfl] at H; obtain ⟨bq10, hbq10⟩ : ∃ b_ : Bool, b_ = ((rd_I_Sym l0 x3_1).f2) := ⟨_, rfl⟩; replace H : (if bq10 = true then (if ((rd_I_Sym l0 x3_1).f1) = 2 then (spec_SigOk.l0 k1 l0 (wrap64 (x3_1 + 1))) else (some false)) else (spec_SigOk.l0 k1 l0 (wrap64 (x3_1 + 1)))) = some r := by rw [← hbq10] at H; exact H
                have Nbq10 := ak hbq10; clear hbq10
                by_cases c11 : bq10 = true
                · subst c11; rw [if_pos rfl] at H
                  by_cases c12 : ((rd_I_Sym l0 x3_1).f1) = 2
                  · rw [if_pos c12] at H; have c12b0 : (((rd_I_Sym l0 x3_1).f1) == 2) = true := beq_iff_eq.mpr c12; have c12b1 : (((rd_I_Sym l0 x3_1).f1) != 2) = false := bne_eq_false_iff_eq.mpr c12; clear c12; have H' := ak H; clear H; have p155 : 0 ≤ (x3_1 : Int) := as_; have q155 : x3_1 < (l0.length : Int) := as_; obtain ⟨ad155, e155, hx155_0, hx155_1, hx155_2⟩ := at_T99 HR0.out x3_1 p155 q155; (try rw [← Nbq10.out] at hx155_2); (try rw [← Nbq10.out] at hw155_2)
                    cases e155
                    replace p155 := eq_true p155; replace q155 := eq_true q155
                    go_wp2_with (first | ((with_reducible refine gate_callee (f := 140) rfl ?_); refine goesM_ (some 15) rfl rfl Try.func140 (by kernel_rfl) rfl #[.string ((rd_I_Sym l0 x3_1).f0)] rfl ?_; (with_reducible refine (spec_NameOk.calls k1 ((rd_I_Sym l0 x3_1).f0) true _ A4.out).mono ?_); rintro e w' ⟨rfl, ⟨nd, rfl⟩⟩; refine ⟨_, rfl, ?_⟩; have p157 : 0 ≤ (x3_1 : Int) := as_; have q157 : x3_1 < (l0.length : Int) := as_; obtain ⟨ad157, e157, hx157_0, hx157_1, hx157_2⟩ := at_T99 HR0.out x3_1 p157 q157; (try rw [← Nbq10.out] at hx157_2); obtain rfl : ad155 = ad157 := (by injection e157); replace p157 := eq_true p157; replace q157 := eq_true q157) | (go_at_call 141; (with_reducible refine (spec_SymOf.calls k1 _ _ l0 ((rd_I_Sym l0 x3_1).f0) t158 _ ?side1 ?side2 A6.out).mono ?_); (case side1 => exact ca_ HR0.out); (case side2 => exact HC0.out); rintro e w' ⟨rfl, ⟨nd, rfl⟩⟩; have p159 : 0 ≤ (x3_1 : Int) := as_; have q159 : x3_1 < (l0.length : Int) := as_; obtain ⟨ad159, e159, hx159_0, hx159_1, hx159_2⟩ := at_T99 HR0.out x3_1 p159 q159; (try rw [← Nbq10.out] at hx159_2); obtain rfl : ad155 = ad159 := (by injection e159); replace p159 := eq_true p159; replace q159 := eq_true q159) | (go_at_call 79; (with_reducible refine (spec_l1In.calls ((rd_I_Sym l0 x3_1).f1) 0 3 true _ A8.out).mono ?_); rintro e w' ⟨rfl, ⟨nd, rfl⟩⟩; have p161 : 0 ≤ (x3_1 : Int) := as_; have q161 : x3_1 < (l0.length : Int) := as_; obtain ⟨ad161, e161, hx161_0, hx161_1, hx161_2⟩ := at_T99 HR0.out x3_1 p161 q161; (try rw [← Nbq10.out] at hx161_2); obtain rfl : ad155 = ad161 := (by injection e161); replace p161 := eq_true p161; replace q161 := eq_true q161; have p162 : 0 ≤ (x3_1 : Int) := as_; have q162 : x3_1 < (l0.length : Int) := as_; obtain ⟨ad162, e162, hx162_0, hx162_1, hx162_2⟩ := at_T99 HR0.out x3_1 p162 q162; (try rw [← Nbq10.out] at hx162_2); obtain rfl : ad155 = ad162 := (by injection e162); replace p162 := eq_true p162; replace q162 := eq_true q162))
                    go_roundg k1
                    case measure => have := HK1.out; omega
                    case rel => exact ⟨(wrap64 (x3_1 + 1)), (by first | rfl | (simp; done) | (simp [*]; done)), H', ⟨by have := HK1.out; omega⟩, by repeat (first | exact Drawn0.refl _ | apply Drawn0.step)⟩
                  rw [if_neg c12] at H; have c12b0 : (((rd_I_Sym l0 x3_1).f1) == 2) = false := beq_eq_false_iff_ne.mpr c12; have c12b1 : (((rd_I_Sym l0 x3_1).f1) != 2) = true := bne_iff_ne.mpr c12; obtain rfl := Option.some.inj H; have p155 : 0 ≤ (x3_1 : Int) := as_; have q155 : x3_1 < (l0.length : Int) := as_; obtain ⟨ad155, e155, hx155_0, hx155_1, hx155_2⟩ := at_T99 HR0.out x3_1 p155 q155; (try rw [← Nbq10.out] at hx155_2); (try rw [← Nbq10.out] at hw155_2)
                  cases e155
                  replace p155 := eq_true p155; replace q155 := eq_true q155
                  go_wp2_with (first | ((with_reducible refine gate_callee (f := 140) rfl ?_); refine goesM_ (some 15) rfl rfl Try.func140 (by kernel_rfl) rfl #[.string ((rd_I_Sym l0 x3_1).f0)] rfl ?_; (with_reducible refine (spec_NameOk.calls k1 ((rd_I_Sym l0 x3_1).f0) true _ A4.out).mono ?_); rintro e w' ⟨rfl, ⟨nd, rfl⟩⟩; refine ⟨_, rfl, ?_⟩; have p157 : 0 ≤ (x3_1 : Int) := as_; have q157 : x3_1 < (l0.length : Int) := as_; obtain ⟨ad157, e157, hx157_0, hx157_1, hx157_2⟩ := at_T99 HR0.out x3_1 p157 q157; (try rw [← Nbq10.out] at hx157_2); obtain rfl : ad155 = ad157 := (by injection e157); replace p157 := eq_true p157; replace q157 := eq_true q157) | (go_at_call 141; (with_reducible refine (spec_SymOf.calls k1 _ _ l0 ((rd_I_Sym l0 x3_1).f0) t158 _ ?side1 ?side2 A6.out).mono ?_); (case side1 => exact ca_ HR0.out); (case side2 => exact HC0.out); rintro e w' ⟨rfl, ⟨nd, rfl⟩⟩; have p159 : 0 ≤ (x3_1 : Int) := as_; have q159 : x3_1 < (l0.length : Int) := as_; obtain ⟨ad159, e159, hx159_0, hx159_1, hx159_2⟩ := at_T99 HR0.out x3_1 p159 q159; (try rw [← Nbq10.out] at hx159_2); obtain rfl : ad155 = ad159 := (by injection e159); replace p159 := eq_true p159; replace q159 := eq_true q159) | (go_at_call 79; (with_reducible refine (spec_l1In.calls ((rd_I_Sym l0 x3_1).f1) 0 3 true _ A8.out).mono ?_); rintro e w' ⟨rfl, ⟨nd, rfl⟩⟩; have p161 : 0 ≤ (x3_1 : Int) := as_; have q161 : x3_1 < (l0.length : Int) := as_; obtain ⟨ad161, e161, hx161_0, hx161_1, hx161_2⟩ := at_T99 HR0.out x3_1 p161 q161; (try rw [← Nbq10.out] at hx161_2); obtain rfl : ad155 = ad161 := (by injection e161); replace p161 := eq_true p161; replace q161 := eq_true q161; have p162 : 0 ≤ (x3_1 : Int) := as_; have q162 : x3_1 < (l0.length : Int) := as_; obtain ⟨ad162, e162, hx162_0, hx162_1, hx162_2⟩ := at_T99 HR0.out x3_1 p162 q162; (try rw [← Nbq10.out] at hx162_2); obtain rfl : ad155 = ad162 := (by injection e162); replace p162 := eq_true p162; replace q162 := eq_true q162))
                  go_ret
                  exact ⟨by first | rfl | (simp; done) | (simp [*]; done), by repeat (first | exact Drawn0.refl _ | apply Drawn0.step)⟩
                replace c11 := Bool.eq_false_iff.mpr c11; subst c11; rw [if_neg (show ¬ (false = true) by decide)] at H; have H' := ak H; clear H; have p155 : 0 ≤ (x3_1 : Int) := as_; have q155 : x3_1 < (l0.length : Int) := as_; obtain ⟨ad155, e155, hx155_0, hx155_1, hx155_2⟩ := at_T99 HR0.out x3_1 p155 q155; (try rw [← Nbq10.out] at hx155_2); (try rw [← Nbq10.out] at hw155_2)
                cases e155
                replace p155 := eq_true p155; replace q155 := eq_true q155
                go_wp2_with (first | ((with_reducible refine gate_callee (f := 140) rfl ?_); refine goesM_ (some 15) rfl rfl Try.func140 (by kernel_rfl) rfl #[.string ((rd_I_Sym l0 x3_1).f0)] rfl ?_; (with_reducible refine (spec_NameOk.calls k1 ((rd_I_Sym l0 x3_1).f0) true _ A4.out).mono ?_); rintro e w' ⟨rfl, ⟨nd, rfl⟩⟩; refine ⟨_, rfl, ?_⟩; have p157 : 0 ≤ (x3_1 : Int) := as_; have q157 : x3_1 < (l0.length : Int) := as_; obtain ⟨ad157, e157, hx157_0, hx157_1, hx157_2⟩ := at_T99 HR0.out x3_1 p157 q157; (try rw [← Nbq10.out] at hx157_2); obtain rfl : ad155 = ad157 := (by injection e157); replace p157 := eq_true p157; replace q157 := eq_true q157) | (go_at_call 141; (with_reducible refine (spec_SymOf.calls k1 _ _ l0 ((rd_I_Sym l0 x3_1).f0) t158 _ ?side1 ?side2 A6.out).mono ?_); (case side1 => exact ca_ HR0.out); (case side2 => exact HC0.out); rintro e w' ⟨rfl, ⟨nd, rfl⟩⟩; have p159 : 0 ≤ (x3_1 : Int) := as_; have q159 : x3_1 < (l0.length : Int) := as_; obtain ⟨ad159, e159, hx159_0, hx159_1, hx159_2⟩ := at_T99 HR0.out x3_1 p159 q159; (try rw [← Nbq10.out] at hx159_2); obtain rfl : ad155 = ad159 := (by injection e159); replace p159 := eq_true p159; replace q159 := eq_true q159) | (go_at_call 79; (with_reducible refine (spec_l1In.calls ((rd_I_Sym l0 x3_1).f1) 0 3 true _ A8.out).mono ?_); rintro e w' ⟨rfl, ⟨nd, rfl⟩⟩; have p161 : 0 ≤ (x3_1 : Int) := as_; have q161 : x3_1 < (l0.length : Int) := as_; obtain ⟨ad161, e161, hx161_0, hx161_1, hx161_2⟩ := at_T99 HR0.out x3_1 p161 q161; (try rw [← Nbq10.out] at hx161_2); obtain rfl : ad155 = ad161 := (by injection e161); replace p161 := eq_true p161; replace q161 := eq_true q161))
                go_roundg k1
                case measure => have := HK1.out; omega
                case rel => exact ⟨(wrap64 (x3_1 + 1)), (by first | rfl | (simp; done) | (simp [*]; done)), H', ⟨by have := HK1.out; omega⟩, by repeat (first | exact Drawn0.refl _ | apply Drawn0.step)⟩
              replace c9 := Bool.eq_false_iff.mpr c9; subst c9; rw [if_neg (show ¬ (false = true) by decide)] at H; obtain rfl := Option.some.inj H; have p155 : 0 ≤ (x3_1 : Int) := as_; have q155 : x3_1 < (l0.length : Int) := as_; obtain ⟨ad155, e155, hx155_0, hx155_1, hx155_2⟩ := at_T99 HR0.out x3_1 p155 q155
              cases e155
              replace p155 := eq_true p155; replace q155 := eq_true q155
              go_wp2_with (first | ((with_reducible refine gate_callee (f := 140) rfl ?_); refine goesM_ (some 15) rfl rfl Try.func140 (by kernel_rfl) rfl #[.string ((rd_I_Sym l0 x3_1).f0)] rfl ?_; (with_reducible refine (spec_NameOk.calls k1 ((rd_I_Sym l0 x3_1).f0) true _ A4.out).mono ?_); rintro e w' ⟨rfl, ⟨nd, rfl⟩⟩; refine ⟨_, rfl, ?_⟩; have p157 : 0 ≤ (x3_1 : Int) := as_; have q157 : x3_1 < (l0.length : Int) := as_; obtain ⟨ad157, e157, hx157_0, hx157_1, hx157_2⟩ := at_T99 HR0.out x3_1 p157 q157; obtain rfl : ad155 = ad157 := (by injection e157); replace p157 := eq_true p157; replace q157 := eq_true q157) | (go_at_call 141; (with_reducible refine (spec_SymOf.calls k1 _ _ l0 ((rd_I_Sym l0 x3_1).f0) t158 _ ?side1 ?side2 A6.out).mono ?_); (case side1 => exact ca_ HR0.out); (case side2 => exact HC0.out); rintro e w' ⟨rfl, ⟨nd, rfl⟩⟩; have p159 : 0 ≤ (x3_1 : Int) := as_; have q159 : x3_1 < (l0.length : Int) := as_; obtain ⟨ad159, e159, hx159_0, hx159_1, hx159_2⟩ := at_T99 HR0.out x3_1 p159 q159; obtain rfl : ad155 = ad159 := (by injection e159); replace p159 := eq_true p159; replace q159 := eq_true q159) | (go_at_call 79; (with_reducible refine (spec_l1In.calls ((rd_I_Sym l0 x3_1).f1) 0 3 false _ A8.out).mono ?_); rintro e w' ⟨rfl, ⟨nd, rfl⟩⟩))
              go_ret
              exact ⟨by first | rfl | (simp; done) | (simp [*]; done), by repeat (first | exact Drawn0.refl _ | apply Drawn0.step)⟩
            rw [if_neg c7] at H; have c7b0 : (t158 == x3_1) = false := beq_eq_false_iff_ne.mpr c7; have c7b1 : (t158 != x3_1) = true := bne_iff_ne.mpr c7; obtain rfl := Option.some.inj H; have p155 : 0 ≤ (x3_1 : Int) := as_; have q155 : x3_1 < (l0.length : Int) := as_; obtain ⟨ad155, e155, hx155_0, hx155_1, hx155_2⟩ := at_T99 HR0.out x3_1 p155 q155
            cases e155
            replace p155 := eq_true p155; replace q155 := eq_true q155
            go_wp2_with (first | ((with_reducible refine gate_callee (f := 140) rfl ?_); refine goesM_ (some 15) rfl rfl Try.func140 (by kernel_rfl) rfl #[.string ((rd_I_Sym l0 x3_1).f0)] rfl ?_; (with_reducible refine (spec_NameOk.calls k1 ((rd_I_Sym l0 x3_1).f0) true _ A4.out).mono ?_); rintro e w' ⟨rfl, ⟨nd, rfl⟩⟩; refine ⟨_, rfl, ?_⟩; have p157 : 0 ≤ (x3_1 : Int) := as_; have q157 : x3_1 < (l0.length : Int) := as_; obtain ⟨ad157, e157, hx157_0, hx157_1, hx157_2⟩ := at_T99 HR0.out x3_1 p157 q157; obtain rfl : ad155 = ad157 := (by injection e157); replace p157 := eq_true p157; replace q157 := eq_true q157) | (go_at_call 141; (with_reducible refine (spec_SymOf.calls k1 _ _ l0 ((rd_I_Sym l0 x3_1).f0) t158 _ ?side1 ?side2 A6.out).mono ?_); (case side1 => exact ca_ HR0.out); (case side2 => exact HC0.out); rintro e w' ⟨rfl, ⟨nd, rfl⟩⟩))
            go_ret
            exact ⟨by first | rfl | (simp; done) | (simp [*]; done), by repeat (first | exact Drawn0.refl _ | apply Drawn0.step)⟩
          replace c5 := Bool.eq_false_iff.mpr c5; subst c5; rw [if_neg (show ¬ (false = true) by decide)] at H; obtain rfl := Option.some.inj H; have p155 : 0 ≤ (x3_1 : Int) := as_; have q155 : x3_1 < (l0.length : Int) := as_; obtain ⟨ad155, e155, hx155_0, hx155_1, hx155_2⟩ := at_T99 HR0.out x3_1 p155 q155
          cases e155
          replace p155 := eq_true p155; replace q155 := eq_true q155
          go_wp2_with (first | ((with_reducible refine gate_callee (f := 140) rfl ?_); refine goesM_ (some 15) rfl rfl Try.func140 (by kernel_rfl) rfl #[.string ((rd_I_Sym l0 x3_1).f0)] rfl ?_; (with_reducible refine (spec_NameOk.calls k1 ((rd_I_Sym l0 x3_1).f0) false _ A4.out).mono ?_); rintro e w' ⟨rfl, ⟨nd, rfl⟩⟩; refine ⟨_, rfl, ?_⟩))
          go_ret
          exact ⟨by first | rfl | (simp; done) | (simp [*]; done), by repeat (first | exact Drawn0.refl _ | apply Drawn0.step)⟩
        rw [if_neg c3] at H; exact absurd H (by simp)
      rw [if_neg c2] at H; have c2b0 := decide_eq_false c2; clear c2; replace H := Option.bind_eq_some_iff.mp H; obtain ⟨t153, A130, H⟩ := H; have A13 := ak A130; clear A130
      by_cases c14 : t153 = true
      · subst c14; rw [if_pos rfl] at H
        by_cases c15 : 0 < (l0.length : Int)
        · rw [if_pos c15] at H; have c15b0 := decide_eq_true c15; have c15b1 : decide (0 < l0.length) = true := decide_eq_true (by omega); clear c15; obtain rfl := Option.some.inj H
          go_wp2_with (first | ((with_reducible refine gate_callee (f := 79) rfl ?_); refine goesM_ (some 54) rfl rfl Try.func79 (by kernel_rfl) rfl #[.int .i64 (l0.length : Int), .int .i64 1, .int .i64 8] rfl ?_; (with_reducible refine (spec_l1In.calls (l0.length : Int) 1 8 true _ A13.out).mono ?_); rintro e w' ⟨rfl, ⟨nd, rfl⟩⟩; refine ⟨_, rfl, ?_⟩; have p154 : 0 ≤ (0 : Int) := (by omega); have q154 : 0 < (l0.length : Int) := as_; obtain ⟨ad154, e154, hx154_0, hx154_1, hx154_2⟩ := at_T99 HR0.out 0 p154 q154; cases e154; have qi154 : (0 < l0.length) = True := eq_true (by omega); (try rw [show ((0 : Int)).toNat = 0 from rfl] at hx154_0); (try rw [show 0 * 3 = 0 from rfl] at hx154_0); (try rw [Addr.add_zero'] at hx154_0); (try rw [show ((0 : Int)).toNat = 0 from rfl] at hx154_1); (try rw [show 0 * 3 = 0 from rfl] at hx154_1); (try rw [Addr.add_zero'] at hx154_1); (try rw [show ((0 : Int)).toNat = 0 from rfl] at hx154_2); (try rw [show 0 * 3 = 0 from rfl] at hx154_2); (try rw [Addr.add_zero'] at hx154_2); replace p154 := eq_true p154; replace q154 := eq_true q154))
          go_ret
          exact ⟨by first | rfl | (simp; done) | (simp [*]; done), by repeat (first | exact Drawn0.refl _ | apply Drawn0.step)⟩
        rw [if_neg c15] at H; exact absurd H (by simp)
      replace c14 := Bool.eq_false_iff.mpr c14; subst c14; rw [if_neg (show ¬ (false = true) by decide)] at H; obtain rfl := Option.some.inj H
      go_wp2_with (first | ((with_reducible refine gate_callee (f := 79) rfl ?_); refine goesM_ (some 54) rfl rfl Try.func79 (by kernel_rfl) rfl #[.int .i64 (l0.length : Int), .int .i64 1, .int .i64 8] rfl ?_; (with_reducible refine (spec_l1In.calls (l0.length : Int) 1 8 false _ A13.out).mono ?_); rintro e w' ⟨rfl, ⟨nd, rfl⟩⟩; refine ⟨_, rfl, ?_⟩))
      go_ret
      exact ⟨by first | rfl | (simp; done) | (simp [*]; done), by repeat (first | exact Drawn0.refl _ | apply Drawn0.step)⟩

/-! ### spec_l24Power: function 84 -/
def spec_l24Power.l0 : Nat → Int → Int → Int → Int → Option (Int)
  | 0, _, _, _, _ => none
  | k + 1, x0, x1, x5, x6 => if x6 < x1 then (spec_l24Power.l0 k x0 x1 (wrap64 (x5 * x0)) (wrap64 (x6 + 1))) else (some x5)
def spec_l24Power.f (k : Nat) (a0 : Int) (a1 : Int) : Option (Int) := spec_l24Power.l0 k a0 a1 1 0
theorem spec_l24Power.mono_l : ∀ k, (∀ y0 y1 y2 y3, LeO (spec_l24Power.l0 k y0 y1 y2 y3) (spec_l24Power.l0 (k + 1) y0 y1 y2 y3))
  | 0 => fun _ _ _ _ r h => by simp [spec_l24Power.l0] at h
  | k + 1 => by
    have ih0 := spec_l24Power.mono_l k
    · intro y0 y1 y2 y3
      unfold spec_l24Power.l0
      repeat' first | (with_reducible first | exact ih0 _ _ _ _ | exact LeO.refl _ | exact LeO.none _ | refine LeO.ite ?_ ?_ | refine LeO.bind ?_ (fun _ => ?_)) | exact ih0 _ _ _ _ | exact LeO.none _ | refine LeO.ite ?_ ?_ | refine LeO.bind ?_ (fun _ => ?_)
theorem spec_l24Power.mono : ∀ a0 a1 k, LeO (spec_l24Power.f k a0 a1) (spec_l24Power.f (k + 1) a0 a1) := by
  intro a0 a1 k; have ih0 := spec_l24Power.mono_l k
  unfold spec_l24Power.f
  repeat' first
      | (with_reducible exact ih0 _ _ _ _)
      | (with_reducible exact LeO.refl _)
      | (with_reducible exact LeO.none _)
      | (with_reducible refine LeO.ite ?_ ?_)
      | (with_reducible refine LeO.bind ?_ (fun _ => ?_))
      | exact ih0 _ _ _ _
      | exact LeO.none _
      | refine LeO.ite ?_ ?_
      | refine LeO.bind ?_ (fun _ => ?_)
set_option maxHeartbeats 8000000 in
set_option maxRecDepth 100000 in
theorem spec_l24Power.calls (k : Nat) (a0 : Int) (a1 : Int) (r : Int) (w : World) (h : spec_l24Power.f k a0 a1 = some r) :
    Calls Try.prog 84 #[.int .i64 a0, .int .i64 a1] w fun e w' => e = .returned (.int .i64 r) ∧ Drawn0 w w' := by
  have H : (spec_l24Power.l0 k a0 a1 1 0) = some r := h; clear h; have H' := ak H; clear H
  go_enter Try.func84, Try.ntmps84
  go_wp2
  go_loopg [5, 6] k (fun kq v5 v6 w' => ∃ (x5_1 : Int) (x6_1 : Int), v5 = .int .i64 x5_1 ∧ v6 = .int .i64 x6_1 ∧ Aside0 (spec_l24Power.l0 kq a0 a1 x5_1 x6_1 = some r) ∧ Aside0 (kq ≤ k) ∧ Drawn0 w w')
  case atStart => exact ⟨(1), (0), (by first | rfl | (simp; done) | (simp [*]; done)), (by first | rfl | (simp; done) | (simp [*]; done)), H', ⟨Nat.le_refl _⟩, by repeat (first | exact Drawn0.refl _ | apply Drawn0.step)⟩
  case round =>
    clear H'; (try clear p2); obtain ⟨x5_1, x6_1, rfl, rfl, HA, HK1, ⟨m1, rfl⟩⟩ := hrel
    cases gk with
    | zero => exact absurd HA.out (by simp [spec_l24Power.l0])
    | succ k1 =>
      have H := HA.out; clear HA
      simp only [spec_l24Power.l0] at H
      by_cases c3 : x6_1 < a1
      · rw [if_pos c3] at H; have c3b0 := decide_eq_true c3; clear c3; have H' := ak H; clear H
        go_wp2
        go_roundg k1
        case measure => have := HK1.out; omega
        case rel => exact ⟨(wrap64 (x5_1 * a0)), (wrap64 (x6_1 + 1)), (by first | rfl | (simp; done) | (simp [*]; done)), (by first | rfl | (simp; done) | (simp [*]; done)), H', ⟨by have := HK1.out; omega⟩, by repeat (first | exact Drawn0.refl _ | apply Drawn0.step)⟩
      rw [if_neg c3] at H; have c3b0 := decide_eq_false c3; clear c3; obtain rfl := Option.some.inj H
      go_wp2
      go_ret
      exact ⟨by first | rfl | (simp; done) | (simp [*]; done), by repeat (first | exact Drawn0.refl _ | apply Drawn0.step)⟩

/-! ### spec_l24Two: function 143 -/
def spec_l24Two.f (a0_0 : Int) (l0_1 : List (List Int)) (a1 : Int) (a2 : Int) (a3 : Int) : Option (Int) := if 0 ≤ a1 then (if a1 < (l0_1.length : Int) then (if 0 ≤ (wrap64 (a2 + (wrap64 (a0_0 * a3)))) then (if (wrap64 (a2 + (wrap64 (a0_0 * a3)))) < ((rd_Ls_i64 l0_1 a1).length : Int) then (some (rd (rd_Ls_i64 l0_1 a1) (wrap64 (a2 + (wrap64 (a0_0 * a3)))))) else (none)) else (none)) else (none)) else (none)
set_option maxHeartbeats 8000000 in
set_option maxRecDepth 100000 in
theorem spec_l24Two.calls (a0_0 : Int) (A0_1 : Option Addr) (c0_1 : Nat) (l0_1 : List (List Int)) (a1 : Int) (a2 : Int) (a3 : Int) (r : Int) (w : World) (hr0_1 : Kd.C (Kd.slice 3 (Kd.int .i64)) w A0_1 l0_1.length l0_1) (hc0_1 : l0_1.length ≤ c0_1) (h : spec_l24Two.f a0_0 l0_1 a1 a2 a3 = some r) :
    Calls Try.prog 143 #[.agg #[.int .i64 a0_0, .slice A0_1 l0_1.length c0_1], .int .i64 a1, .int .i64 a2, .int .i64 a3] w fun e w' => e = .returned (.int .i64 r) ∧ Below w.heap.size w w' := by
  have hu51 := Try.underlying51; have HR0_1 := ak hr0_1; have HC0_1 := ak hc0_1; clear hr0_1 hc0_1; have HB := ak (Below.refl w.heap.size w); have H : (if 0 ≤ a1 then (if a1 < (l0_1.length : Int) then (if 0 ≤ (wrap64 (a2 + (wrap64 (a0_0 * a3)))) then (if (wrap64 (a2 + (wrap64 (a0_0 * a3)))) < ((rd_Ls_i64 l0_1 a1).length : Int) then (some (rd (rd_Ls_i64 l0_1 a1) (wrap64 (a2 + (wrap64 (a0_0 * a3)))))) else (none)) else (none)) else (none)) else (none)) = some r := h; clear h
  by_cases c5 : 0 ≤ a1
  · rw [if_pos c5] at H; have c5b0 := decide_eq_true c5; clear c5
    by_cases c6 : a1 < (l0_1.length : Int)
    · rw [if_pos c6] at H; have c6b0 := decide_eq_true c6; clear c6; obtain ⟨ji7, hji7⟩ : ∃ j_ : Int, (wrap64 (a2 + (wrap64 (a0_0 * a3)))) = j_ := ⟨_, rfl⟩; replace H : (if 0 ≤ (ji7) then (if (ji7) < ((rd_Ls_i64 l0_1 a1).length : Int) then (some (rd (rd_Ls_i64 l0_1 a1) (ji7))) else (none)) else (none)) = some r := by first | (rw [hji7] at H; exact H) | (simp only [hji7] at H ⊢; exact H)
      have hji7w : (IntKind.i64.wrap (a2 + (wrap64 (a0_0 * a3)))) = ji7 := (i64_w _).trans hji7
      by_cases c8 : 0 ≤ (ji7)
      · rw [if_pos c8] at H; have c8b0 := decide_eq_true c8; clear c8
        by_cases c9 : (ji7) < ((rd_Ls_i64 l0_1 a1).length : Int)
        · rw [if_pos c9] at H; have c9b0 := decide_eq_true c9; clear c9; obtain rfl := Option.some.inj H
          go_enter Try.func143, Try.ntmps143
          go_wp2_with (first | ((with_reducible refine gate_dst (N := 4) rfl ?_); refine bxe_ (N := 4) (cs := #[.int .i64 a0_0, .slice A0_1 l0_1.length c0_1]) (t := 51) ?_; intro gb163 hg w10 hbox hb; have BK163 := ak (hbox); have GW163 := ak (lg_ hg (bl_ HB.out)); have GE163 := ak (lg_ hg (bl_ HB.out)); replace HB := ak (below_step (bl_ HB.out) hb); clear hb hbox hg; have hcz11_0 := bc_ BK163.out 0; have hcz11_1 := bc_ BK163.out 1; have hfz11_0 := blk_frozen BK163.out 0; have hfz11_1 := blk_frozen BK163.out 1; have p164 : 0 ≤ (a1 : Int) := as_; have q164 : a1 < (l0_1.length : Int) := as_; obtain ⟨ad164, A164_0, c164_0, e164, hx164_0, hl164_0, hi164_0⟩ := at_L5 HR0_1.out a1 p164 q164; cases e164; replace hx164_0 := hbc_ HB.out hx164_0; have HR164_0 := ak hi164_0; have HC164_0 := ak hl164_0; clear hi164_0 hl164_0; replace p164 := eq_true p164; replace q164 := eq_true q164; have p165 : 0 ≤ ((ji7) : Int) := as_; have q165 : (ji7) < ((rd_Ls_i64 l0_1 a1).length : Int) := as_; obtain ⟨ad165, e165, hx165_0⟩ := Kd.at_int HR164_0.out (ji7) p165 q165; cases e165; replace hx165_0 := hbc_ HB.out hx165_0; replace p165 := eq_true p165; replace q165 := eq_true q165))
          repeat (go_quiet (first | ((with_reducible refine gate_dst (N := 4) rfl ?_); refine bxe_ (N := 4) (cs := #[.int .i64 a0_0, .slice A0_1 l0_1.length c0_1]) (t := 51) ?_; intro gb163 hg w10 hbox hb; have BK163 := ak (hbox); have GW163 := ak (lg_ hg (bl_ HB.out)); have GE163 := ak (lg_ hg (bl_ HB.out)); replace HB := ak (below_step (bl_ HB.out) hb); clear hb hbox hg; have hcz11_0 := bc_ BK163.out 0; have hcz11_1 := bc_ BK163.out 1; have hfz11_0 := blk_frozen BK163.out 0; have hfz11_1 := blk_frozen BK163.out 1; have p164 : 0 ≤ (a1 : Int) := as_; have q164 : a1 < (l0_1.length : Int) := as_; obtain ⟨ad164, A164_0, c164_0, e164, hx164_0, hl164_0, hi164_0⟩ := at_L5 HR0_1.out a1 p164 q164; cases e164; replace hx164_0 := hbc_ HB.out hx164_0; have HR164_0 := ak hi164_0; have HC164_0 := ak hl164_0; clear hi164_0 hl164_0; replace p164 := eq_true p164; replace q164 := eq_true q164; have p165 : 0 ≤ ((ji7) : Int) := as_; have q165 : (ji7) < ((rd_Ls_i64 l0_1 a1).length : Int) := as_; obtain ⟨ad165, e165, hx165_0⟩ := Kd.at_int HR164_0.out (ji7) p165 q165; cases e165; replace hx165_0 := hbc_ HB.out hx165_0; replace p165 := eq_true p165; replace q165 := eq_true q165)); try go_wp2_with (first | ((with_reducible refine gate_dst (N := 4) rfl ?_); refine bxe_ (N := 4) (cs := #[.int .i64 a0_0, .slice A0_1 l0_1.length c0_1]) (t := 51) ?_; intro gb163 hg w10 hbox hb; have BK163 := ak (hbox); have GW163 := ak (lg_ hg (bl_ HB.out)); have GE163 := ak (lg_ hg (bl_ HB.out)); replace HB := ak (below_step (bl_ HB.out) hb); clear hb hbox hg; have hcz11_0 := bc_ BK163.out 0; have hcz11_1 := bc_ BK163.out 1; have hfz11_0 := blk_frozen BK163.out 0; have hfz11_1 := blk_frozen BK163.out 1; have p164 : 0 ≤ (a1 : Int) := as_; have q164 : a1 < (l0_1.length : Int) := as_; obtain ⟨ad164, A164_0, c164_0, e164, hx164_0, hl164_0, hi164_0⟩ := at_L5 HR0_1.out a1 p164 q164; cases e164; replace hx164_0 := hbc_ HB.out hx164_0; have HR164_0 := ak hi164_0; have HC164_0 := ak hl164_0; clear hi164_0 hl164_0; replace p164 := eq_true p164; replace q164 := eq_true q164; have p165 : 0 ≤ ((ji7) : Int) := as_; have q165 : (ji7) < ((rd_Ls_i64 l0_1 a1).length : Int) := as_; obtain ⟨ad165, e165, hx165_0⟩ := Kd.at_int HR164_0.out (ji7) p165 q165; cases e165; replace hx165_0 := hbc_ HB.out hx165_0; replace p165 := eq_true p165; replace q165 := eq_true q165)))
          go_ret
          exact ⟨by first | rfl | (simp [errW_none, errW_some] <;> rfl) | (simp only [← hji7]; first | rfl | (simp [errW_none, errW_some] <;> rfl)) | (simp [*, errW_none, errW_some] <;> rfl), by repeat (first | (with_reducible first | exact HB.out | apply below_alloc | apply pw_below_drewN | apply below_drew1 | refine below_set ?_ GE163.out) | exact HB.out)⟩
        rw [if_neg c9] at H; exact absurd H (by simp)
      rw [if_neg c8] at H; exact absurd H (by simp)
    rw [if_neg c6] at H; exact absurd H (by simp)
  rw [if_neg c5] at H; exact absurd H (by simp)

end Go.Proofs.Ytcboagkbcoihjaa.XSubworld
