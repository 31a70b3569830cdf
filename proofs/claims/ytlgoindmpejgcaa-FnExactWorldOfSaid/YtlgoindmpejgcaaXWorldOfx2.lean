-- printed by a program of this session (xprint, turned from the kit's print) for this claim
import Derived.Test.YtlgoindmpejgcaaXWorldOfx0
import Derived.Test.YtlgoindmpejgcaaXWorldOfx1
namespace Go.Proofs.Ytlgoindmpejgcaa.XWorldOf
open Go.RowKit Go.Proofs.Ytlgoindmpejgcaa.XOpens Go.Proofs.YtlgoindmpejgcaaW.PrintWords Go.Proofs.YtlgoindmpejgcaaW.PrintLast Go.Proofs.YtlgoindmpejgcaaW.PrintMore
attribute [local go_sem] max2_int min2_int max_two min_two max_three min_three max_four min_four   -- for this text's walks alone
set_option linter.unusedVariables false
set_option linter.unusedSimpArgs false

/-! ### laws_eqIntSS: function 79 -/
def laws_eqIntSS.l0 : Nat → List (List Int) → List (List Int) → Int → Option (Bool)
  | 0, _, _, _ => none
  | k + 1, x0, x1, x5 => if x5 < (x0.length : Int) then (if 0 ≤ x5 then (if x5 < (x1.length : Int) then ((laws_eqIntS.f k (rd_Ls_i64 x0 x5) (rd_Ls_i64 x1 x5)).bind fun t167 => (if t167 = true then (laws_eqIntSS.l0 k x0 x1 (wrap64 (x5 + 1))) else (some false))) else (none)) else (none)) else (some true)
def laws_eqIntSS.f (k : Nat) (l0 : List (List Int)) (l1 : List (List Int)) : Option (Bool) := if (l0.length : Int) = (l1.length : Int) then (laws_eqIntSS.l0 k l0 l1 0) else (some false)
theorem laws_eqIntSS.mono_l : ∀ k, (∀ y0 y1 y2, LeO (laws_eqIntSS.l0 k y0 y1 y2) (laws_eqIntSS.l0 (k + 1) y0 y1 y2))
  | 0 => fun _ _ _ r h => by simp [laws_eqIntSS.l0] at h
  | k + 1 => by
    have ih0 := laws_eqIntSS.mono_l k
    · intro y0 y1 y2
      unfold laws_eqIntSS.l0
      repeat' first | (with_reducible first | exact ih0 _ _ _ | exact laws_eqIntS.mono _ _ _ | exact LeO.refl _ | exact LeO.none _ | refine LeO.ite ?_ ?_ | refine LeO.bind ?_ (fun _ => ?_)) | exact ih0 _ _ _ | exact laws_eqIntS.mono _ _ _ | exact LeO.none _ | refine LeO.ite ?_ ?_ | refine LeO.bind ?_ (fun _ => ?_)
theorem laws_eqIntSS.mono : ∀ a0 a1 k, LeO (laws_eqIntSS.f k a0 a1) (laws_eqIntSS.f (k + 1) a0 a1) := by
  intro a0 a1 k; have ih0 := laws_eqIntSS.mono_l k
  unfold laws_eqIntSS.f
  repeat' first
      | (with_reducible exact ih0 _ _ _)
      | (with_reducible exact laws_eqIntS.mono _ _ _)
      | (with_reducible exact LeO.refl _)
      | (with_reducible exact LeO.none _)
      | (with_reducible refine LeO.ite ?_ ?_)
      | (with_reducible refine LeO.bind ?_ (fun _ => ?_))
      | exact ih0 _ _ _
      | exact laws_eqIntS.mono _ _ _
      | exact LeO.none _
      | refine LeO.ite ?_ ?_
      | refine LeO.bind ?_ (fun _ => ?_)
set_option maxHeartbeats 8000000 in
set_option maxRecDepth 100000 in
theorem laws_eqIntSS.calls (k : Nat) (A0 : Option Addr) (c0 : Nat) (l0 : List (List Int)) (A1 : Option Addr) (c1 : Nat) (l1 : List (List Int)) (r : Bool) (w : World) (hr0 : Kd.C (Kd.slice 3 (Kd.int .i64)) w A0 l0.length l0) (hc0 : l0.length ≤ c0) (hr1 : Kd.C (Kd.slice 3 (Kd.int .i64)) w A1 l1.length l1) (hc1 : l1.length ≤ c1) (h : laws_eqIntSS.f k l0 l1 = some r) :
    Calls Try.prog 79 #[.slice A0 l0.length c0, .slice A1 l1.length c1] w fun e w' => e = .returned (.bool r) ∧ Drawn0 w w' := by
  have HR0 := ak hr0; have HC0 := ak hc0; clear hr0 hc0; have HR1 := ak hr1; have HC1 := ak hc1; clear hr1 hc1; have H : (if (l0.length : Int) = (l1.length : Int) then (laws_eqIntSS.l0 k l0 l1 0) else (some false)) = some r := h; clear h
  by_cases c3 : (l0.length : Int) = (l1.length : Int)
  · rw [if_pos c3] at H; have c3b0 : ((l0.length : Int) == (l1.length : Int)) = true := beq_iff_eq.mpr c3; have c3b1 : ((l0.length : Int) != (l1.length : Int)) = false := bne_eq_false_iff_eq.mpr c3; have c3b2 : (l0.length == l1.length) = true := by first | simpa using c3 | (simp at c3 ⊢; omega)
    clear c3; have H' := ak H; clear H
    go_enter Try.func79, Try.ntmps79
    go_wp2
    repeat (go_quiet (fail); try go_wp2)
    go_loopg [5] k (fun kq v5 w' => ∃ (x5_1 : Int), v5 = .int .i64 x5_1 ∧ Aside0 (laws_eqIntSS.l0 kq l0 l1 x5_1 = some r) ∧ Aside0 (kq ≤ k) ∧ Drawn0 w w')
    case atStart => exact ⟨(0), (by first | rfl | (simp; done) | (simp [*]; done)), H', ⟨Nat.le_refl _⟩, by repeat (first | exact Drawn0.refl _ | apply Drawn0.step)⟩
    case round =>
      clear H'; (try clear c1); (try clear p2); (try clear c3); (try clear c3b0); (try clear c3b1); (try clear c3b2); obtain ⟨x5_1, rfl, HA, HK1, ⟨m1, rfl⟩⟩ := hrel
      cases gk with
      | zero => exact absurd HA.out (by simp [laws_eqIntSS.l0])
      | succ k1 =>
        have H := HA.out; clear HA
        simp only [laws_eqIntSS.l0] at H
        by_cases c4 : x5_1 < (l0.length : Int)
        · rw [if_pos c4] at H; have c4b0 := decide_eq_true c4; clear c4
          by_cases c5 : 0 ≤ x5_1
          · rw [if_pos c5] at H; have c5b0 := decide_eq_true c5; clear c5
            by_cases c6 : x5_1 < (l1.length : Int)
            · rw [if_pos c6] at H; have c6b0 := decide_eq_true c6; clear c6; replace H := Option.bind_eq_some_iff.mp H; obtain ⟨t167, A70, H⟩ := H; have A7 := ak A70; clear A70
              by_cases c8 : t167 = true
              · subst c8; rw [if_pos rfl] at H; have H' := ak H; clear H; have p165 : 0 ≤ (x5_1 : Int) := as_; have q165 : x5_1 < (l0.length : Int) := as_; obtain ⟨ad165, A165_0, c165_0, e165, hx165_0, hl165_0, hi165_0⟩ := at_L1 HR0.out x5_1 p165 q165
                cases e165
                have HR165_0 := ak hi165_0; have HC165_0 := ak hl165_0; clear hi165_0 hl165_0; replace p165 := eq_true p165; replace q165 := eq_true q165; have p166 : 0 ≤ (x5_1 : Int) := as_; have q166 : x5_1 < (l1.length : Int) := as_; obtain ⟨ad166, A166_0, c166_0, e166, hx166_0, hl166_0, hi166_0⟩ := at_L1 HR1.out x5_1 p166 q166
                cases e166
                have HR166_0 := ak hi166_0; have HC166_0 := ak hl166_0; clear hi166_0 hl166_0; replace p166 := eq_true p166; replace q166 := eq_true q166
                go_wp2_with (first | (go_at_call 61; (with_reducible refine (laws_eqIntS.calls k1 _ _ (rd_Ls_i64 l0 x5_1) _ _ (rd_Ls_i64 l1 x5_1) true _ ?side1 ?side2 ?side3 ?side4 A7.out).mono ?_); (case side1 => exact ca_ HR165_0.out); (case side2 => exact HC165_0.out); (case side3 => exact ca_ HR166_0.out); (case side4 => exact HC166_0.out); rintro e w' ⟨rfl, ⟨nd, rfl⟩⟩; (try first | exact ⟨rfl, _, World.drewN_drewN _ _ _⟩ | exact ⟨rfl, _, Eq.trans (World.drewN_drewN _ _ _) (congrArg (World.drewN _) (Nat.add_assoc _ _ _))⟩)))
                repeat (go_quiet (first | (go_at_call 61; (with_reducible refine (laws_eqIntS.calls k1 _ _ (rd_Ls_i64 l0 x5_1) _ _ (rd_Ls_i64 l1 x5_1) true _ ?side1 ?side2 ?side3 ?side4 A7.out).mono ?_); (case side1 => exact ca_ HR165_0.out); (case side2 => exact HC165_0.out); (case side3 => exact ca_ HR166_0.out); (case side4 => exact HC166_0.out); rintro e w' ⟨rfl, ⟨nd, rfl⟩⟩; (try first | exact ⟨rfl, _, World.drewN_drewN _ _ _⟩ | exact ⟨rfl, _, Eq.trans (World.drewN_drewN _ _ _) (congrArg (World.drewN _) (Nat.add_assoc _ _ _))⟩))); try go_wp2_with (first | (go_at_call 61; (with_reducible refine (laws_eqIntS.calls k1 _ _ (rd_Ls_i64 l0 x5_1) _ _ (rd_Ls_i64 l1 x5_1) true _ ?side1 ?side2 ?side3 ?side4 A7.out).mono ?_); (case side1 => exact ca_ HR165_0.out); (case side2 => exact HC165_0.out); (case side3 => exact ca_ HR166_0.out); (case side4 => exact HC166_0.out); rintro e w' ⟨rfl, ⟨nd, rfl⟩⟩; (try first | exact ⟨rfl, _, World.drewN_drewN _ _ _⟩ | exact ⟨rfl, _, Eq.trans (World.drewN_drewN _ _ _) (congrArg (World.drewN _) (Nat.add_assoc _ _ _))⟩))))
                go_roundg k1
                case measure => have := HK1.out; omega
                case rel => exact ⟨(wrap64 (x5_1 + 1)), (by first | rfl | (simp; done) | (simp [*]; done)), H', ⟨by have := HK1.out; omega⟩, by repeat (first | exact Drawn0.refl _ | apply Drawn0.step)⟩
              replace c8 := Bool.eq_false_iff.mpr c8; subst c8; rw [if_neg (show ¬ (false = true) by decide)] at H; obtain rfl := Option.some.inj H; have p165 : 0 ≤ (x5_1 : Int) := as_; have q165 : x5_1 < (l0.length : Int) := as_; obtain ⟨ad165, A165_0, c165_0, e165, hx165_0, hl165_0, hi165_0⟩ := at_L1 HR0.out x5_1 p165 q165
              cases e165
              have HR165_0 := ak hi165_0; have HC165_0 := ak hl165_0; clear hi165_0 hl165_0; replace p165 := eq_true p165; replace q165 := eq_true q165; have p166 : 0 ≤ (x5_1 : Int) := as_; have q166 : x5_1 < (l1.length : Int) := as_; obtain ⟨ad166, A166_0, c166_0, e166, hx166_0, hl166_0, hi166_0⟩ := at_L1 HR1.out x5_1 p166 q166
              cases e166
              have HR166_0 := ak hi166_0; have HC166_0 := ak hl166_0; clear hi166_0 hl166_0; replace p166 := eq_true p166; replace q166 := eq_true q166
              go_wp2_with (first | (go_at_call 61; (with_reducible refine (laws_eqIntS.calls k1 _ _ (rd_Ls_i64 l0 x5_1) _ _ (rd_Ls_i64 l1 x5_1) false _ ?side1 ?side2 ?side3 ?side4 A7.out).mono ?_); (case side1 => exact ca_ HR165_0.out); (case side2 => exact HC165_0.out); (case side3 => exact ca_ HR166_0.out); (case side4 => exact HC166_0.out); rintro e w' ⟨rfl, ⟨nd, rfl⟩⟩; (try first | exact ⟨rfl, _, World.drewN_drewN _ _ _⟩ | exact ⟨rfl, _, Eq.trans (World.drewN_drewN _ _ _) (congrArg (World.drewN _) (Nat.add_assoc _ _ _))⟩)))
              repeat (go_quiet (first | (go_at_call 61; (with_reducible refine (laws_eqIntS.calls k1 _ _ (rd_Ls_i64 l0 x5_1) _ _ (rd_Ls_i64 l1 x5_1) false _ ?side1 ?side2 ?side3 ?side4 A7.out).mono ?_); (case side1 => exact ca_ HR165_0.out); (case side2 => exact HC165_0.out); (case side3 => exact ca_ HR166_0.out); (case side4 => exact HC166_0.out); rintro e w' ⟨rfl, ⟨nd, rfl⟩⟩; (try first | exact ⟨rfl, _, World.drewN_drewN _ _ _⟩ | exact ⟨rfl, _, Eq.trans (World.drewN_drewN _ _ _) (congrArg (World.drewN _) (Nat.add_assoc _ _ _))⟩))); try go_wp2_with (first | (go_at_call 61; (with_reducible refine (laws_eqIntS.calls k1 _ _ (rd_Ls_i64 l0 x5_1) _ _ (rd_Ls_i64 l1 x5_1) false _ ?side1 ?side2 ?side3 ?side4 A7.out).mono ?_); (case side1 => exact ca_ HR165_0.out); (case side2 => exact HC165_0.out); (case side3 => exact ca_ HR166_0.out); (case side4 => exact HC166_0.out); rintro e w' ⟨rfl, ⟨nd, rfl⟩⟩; (try first | exact ⟨rfl, _, World.drewN_drewN _ _ _⟩ | exact ⟨rfl, _, Eq.trans (World.drewN_drewN _ _ _) (congrArg (World.drewN _) (Nat.add_assoc _ _ _))⟩))))
              go_ret
              exact ⟨by first | rfl | (simp; done) | (simp [*]; done), by repeat (first | exact Drawn0.refl _ | apply Drawn0.step)⟩
            rw [if_neg c6] at H; exact absurd H (by simp)
          rw [if_neg c5] at H; exact absurd H (by simp)
        rw [if_neg c4] at H; have c4b0 := decide_eq_false c4; clear c4; obtain rfl := Option.some.inj H
        go_wp2
        repeat (go_quiet (fail); try go_wp2)
        go_ret
        exact ⟨by first | rfl | (simp; done) | (simp [*]; done), by repeat (first | exact Drawn0.refl _ | apply Drawn0.step)⟩
  rw [if_neg c3] at H; have c3b0 : ((l0.length : Int) == (l1.length : Int)) = false := beq_eq_false_iff_ne.mpr c3; have c3b1 : ((l0.length : Int) != (l1.length : Int)) = true := bne_iff_ne.mpr c3; have c3b2 : (l0.length == l1.length) = false := by first | simpa using c3 | (simp at c3 ⊢; omega)
  obtain rfl := Option.some.inj H
  go_enter Try.func79, Try.ntmps79
  go_wp2
  repeat (go_quiet (fail); try go_wp2)
  go_ret
  exact ⟨by first | rfl | (simp; done) | (simp [*]; done), by repeat (first | exact Drawn0.refl _ | apply Drawn0.step)⟩

/-! ### laws_eqWorld: function 41 -/
def laws_eqWorld.f (k : Nat) (a0_0 : Int) (l0_1 : List (List Int)) (a1_0 : Int) (l1_1 : List (List Int)) : Option (Bool) := if a0_0 = a1_0 then ((laws_eqIntSS.f k l0_1 l1_1).bind fun t170 => (if t170 = true then (some true) else (some false))) else (some false)
theorem laws_eqWorld.mono : ∀ a0 a1 a2 a3 k, LeO (laws_eqWorld.f k a0 a1 a2 a3) (laws_eqWorld.f (k + 1) a0 a1 a2 a3) := by
  intro a0 a1 a2 a3 k
  unfold laws_eqWorld.f
  repeat' first
      | (with_reducible exact laws_eqIntSS.mono _ _ _)
      | (with_reducible exact LeO.refl _)
      | (with_reducible exact LeO.none _)
      | (with_reducible refine LeO.ite ?_ ?_)
      | (with_reducible refine LeO.bind ?_ (fun _ => ?_))
      | exact laws_eqIntSS.mono _ _ _
      | exact LeO.none _
      | refine LeO.ite ?_ ?_
      | refine LeO.bind ?_ (fun _ => ?_)
set_option maxHeartbeats 8000000 in
set_option maxRecDepth 100000 in
theorem laws_eqWorld.calls (k : Nat) (a0_0 : Int) (A0_1 : Option Addr) (c0_1 : Nat) (l0_1 : List (List Int)) (a1_0 : Int) (A1_1 : Option Addr) (c1_1 : Nat) (l1_1 : List (List Int)) (r : Bool) (w : World) (hr0_1 : Kd.C (Kd.slice 3 (Kd.int .i64)) w A0_1 l0_1.length l0_1) (hc0_1 : l0_1.length ≤ c0_1) (hr1_1 : Kd.C (Kd.slice 3 (Kd.int .i64)) w A1_1 l1_1.length l1_1) (hc1_1 : l1_1.length ≤ c1_1) (h : laws_eqWorld.f k a0_0 l0_1 a1_0 l1_1 = some r) :
    Calls Try.prog 41 #[.agg #[.int .i64 a0_0, .slice A0_1 l0_1.length c0_1], .agg #[.int .i64 a1_0, .slice A1_1 l1_1.length c1_1]] w fun e w' => e = .returned (.bool r) ∧ Below w.heap.size w w' := by
  have hu60 := Try.underlying60; have HR0_1 := ak hr0_1; have HC0_1 := ak hc0_1; clear hr0_1 hc0_1; have HR1_1 := ak hr1_1; have HC1_1 := ak hc1_1; clear hr1_1 hc1_1; have HB := ak (Below.refl w.heap.size w); have H : (if a0_0 = a1_0 then ((laws_eqIntSS.f k l0_1 l1_1).bind fun t170 => (if t170 = true then (some true) else (some false))) else (some false)) = some r := h; clear h
  by_cases c3 : a0_0 = a1_0
  · rw [if_pos c3] at H; have c3b0 : (a0_0 == a1_0) = true := beq_iff_eq.mpr c3; have c3b1 : (a0_0 != a1_0) = false := bne_eq_false_iff_eq.mpr c3; clear c3; replace H := Option.bind_eq_some_iff.mp H; obtain ⟨t170, A40, H⟩ := H; have A4 := ak A40; clear A40
    by_cases c5 : t170 = true
    · subst c5; rw [if_pos rfl] at H; obtain rfl := Option.some.inj H
      go_enter Try.func41, Try.ntmps41
      go_wp2_with (first | ((with_reducible refine gate_dst (N := 2) rfl ?_); refine bxe_ (N := 2) (cs := #[.int .i64 a0_0, .slice A0_1 l0_1.length c0_1]) (t := 60) ?_; intro gb168 hg w6 hbox hb; have BK168 := ak (hbox); have GW168 := ak (lg_ hg (bl_ HB.out)); have GE168 := ak (lg_ hg (bl_ HB.out)); replace HB := ak (below_step (bl_ HB.out) hb); clear hb hbox hg) | ((with_reducible refine gate_dst (N := 3) rfl ?_); refine bxe_ (N := 3) (cs := #[.int .i64 a1_0, .slice A1_1 l1_1.length c1_1]) (t := 60) ?_; intro gb169 hg w7 hbox hb; have BK169 := ak (hbox); have GW169 := ak (lg_ hg (bs1_ HB.out GE168.out)); have GE169 := ak (lg_ hg (bs1_ HB.out GE168.out)); replace HB := ak (below_step (bs1_ HB.out GE168.out) hb); have NB168_169 := ak (nl_ hg (bk_ BK168.out)); have NB169_168 := ak (ng_ hg (bk_ BK168.out)); replace BK168 := ak (blk_below (bk_ BK168.out) hb); clear hb hbox hg; have hnb8 := NB168_169.out; have hnc8 := NB169_168.out; have hcz9_0 := bc_ BK168.out 0; have hcz9_1 := bc_ BK168.out 1; have hfz9_0 := blk_frozen BK168.out 0; have hfz9_1 := blk_frozen BK168.out 1; have hcz10_0 := bc_ BK169.out 0; have hcz10_1 := bc_ BK169.out 1; have hfz10_0 := blk_frozen BK169.out 0; have hfz10_1 := blk_frozen BK169.out 1) | ((with_reducible refine gate_callee (f := 79) rfl ?_); refine goesM_ (some 14) rfl rfl Try.func79 (by kernel_rfl) rfl #[.slice A0_1 l0_1.length c0_1, .slice A1_1 l1_1.length c1_1] rfl ?_; (with_reducible refine (laws_eqIntSS.calls k _ _ l0_1 _ _ l1_1 true _ ?side1 ?side2 ?side3 ?side4 A4.out).mono ?_); (case side1 => exact cb_ HR0_1.out HB.out); (case side2 => exact HC0_1.out); (case side3 => exact cb_ HR1_1.out HB.out); (case side4 => exact HC1_1.out); rintro e w' ⟨rfl, ⟨nd, rfl⟩⟩; refine ⟨_, rfl, ?_⟩))
      go_ret
      exact fin_ (bs2_ HB.out GE168.out GE169.out)
    replace c5 := Bool.eq_false_iff.mpr c5; subst c5; rw [if_neg (show ¬ (false = true) by decide)] at H; obtain rfl := Option.some.inj H
    go_enter Try.func41, Try.ntmps41
    go_wp2_with (first | ((with_reducible refine gate_dst (N := 2) rfl ?_); refine bxe_ (N := 2) (cs := #[.int .i64 a0_0, .slice A0_1 l0_1.length c0_1]) (t := 60) ?_; intro gb168 hg w11 hbox hb; have BK168 := ak (hbox); have GW168 := ak (lg_ hg (bl_ HB.out)); have GE168 := ak (lg_ hg (bl_ HB.out)); replace HB := ak (below_step (bl_ HB.out) hb); clear hb hbox hg) | ((with_reducible refine gate_dst (N := 3) rfl ?_); refine bxe_ (N := 3) (cs := #[.int .i64 a1_0, .slice A1_1 l1_1.length c1_1]) (t := 60) ?_; intro gb169 hg w12 hbox hb; have BK169 := ak (hbox); have GW169 := ak (lg_ hg (bs1_ HB.out GE168.out)); have GE169 := ak (lg_ hg (bs1_ HB.out GE168.out)); replace HB := ak (below_step (bs1_ HB.out GE168.out) hb); have NB168_169 := ak (nl_ hg (bk_ BK168.out)); have NB169_168 := ak (ng_ hg (bk_ BK168.out)); replace BK168 := ak (blk_below (bk_ BK168.out) hb); clear hb hbox hg; have hnb13 := NB168_169.out; have hnc13 := NB169_168.out; have hcz14_0 := bc_ BK168.out 0; have hcz14_1 := bc_ BK168.out 1; have hfz14_0 := blk_frozen BK168.out 0; have hfz14_1 := blk_frozen BK168.out 1; have hcz15_0 := bc_ BK169.out 0; have hcz15_1 := bc_ BK169.out 1; have hfz15_0 := blk_frozen BK169.out 0; have hfz15_1 := blk_frozen BK169.out 1) | ((with_reducible refine gate_callee (f := 79) rfl ?_); refine goesM_ (some 14) rfl rfl Try.func79 (by kernel_rfl) rfl #[.slice A0_1 l0_1.length c0_1, .slice A1_1 l1_1.length c1_1] rfl ?_; (with_reducible refine (laws_eqIntSS.calls k _ _ l0_1 _ _ l1_1 false _ ?side1 ?side2 ?side3 ?side4 A4.out).mono ?_); (case side1 => exact cb_ HR0_1.out HB.out); (case side2 => exact HC0_1.out); (case side3 => exact cb_ HR1_1.out HB.out); (case side4 => exact HC1_1.out); rintro e w' ⟨rfl, ⟨nd, rfl⟩⟩; refine ⟨_, rfl, ?_⟩))
    go_ret
    exact fin_ (bs2_ HB.out GE168.out GE169.out)
  rw [if_neg c3] at H; have c3b0 : (a0_0 == a1_0) = false := beq_eq_false_iff_ne.mpr c3; have c3b1 : (a0_0 != a1_0) = true := bne_iff_ne.mpr c3; obtain rfl := Option.some.inj H
  go_enter Try.func41, Try.ntmps41
  go_wp2_with (first | ((with_reducible refine gate_dst (N := 2) rfl ?_); refine bxe_ (N := 2) (cs := #[.int .i64 a0_0, .slice A0_1 l0_1.length c0_1]) (t := 60) ?_; intro gb168 hg w16 hbox hb; have BK168 := ak (hbox); have GW168 := ak (lg_ hg (bl_ HB.out)); have GE168 := ak (lg_ hg (bl_ HB.out)); replace HB := ak (below_step (bl_ HB.out) hb); clear hb hbox hg) | ((with_reducible refine gate_dst (N := 3) rfl ?_); refine bxe_ (N := 3) (cs := #[.int .i64 a1_0, .slice A1_1 l1_1.length c1_1]) (t := 60) ?_; intro gb169 hg w17 hbox hb; have BK169 := ak (hbox); have GW169 := ak (lg_ hg (bs1_ HB.out GE168.out)); have GE169 := ak (lg_ hg (bs1_ HB.out GE168.out)); replace HB := ak (below_step (bs1_ HB.out GE168.out) hb); have NB168_169 := ak (nl_ hg (bk_ BK168.out)); have NB169_168 := ak (ng_ hg (bk_ BK168.out)); replace BK168 := ak (blk_below (bk_ BK168.out) hb); clear hb hbox hg; have hnb18 := NB168_169.out; have hnc18 := NB169_168.out; have hcz19_0 := bc_ BK168.out 0; have hcz19_1 := bc_ BK168.out 1; have hfz19_0 := blk_frozen BK168.out 0; have hfz19_1 := blk_frozen BK168.out 1; have hcz20_0 := bc_ BK169.out 0; have hcz20_1 := bc_ BK169.out 1; have hfz20_0 := blk_frozen BK169.out 0; have hfz20_1 := blk_frozen BK169.out 1))
  go_ret
  exact fin_ (bs2_ HB.out GE168.out GE169.out)

/-! ### laws_eqModel: function 42 -/
def laws_eqModel.f (k : Nat) (l0_0 : List (List Int)) (l1_0 : List (List Int)) : Option (Bool) := (laws_eqIntSS.f k l0_0 l1_0).bind fun t173 => (if t173 = true then (some true) else (some false))
theorem laws_eqModel.mono : ∀ a0 a1 k, LeO (laws_eqModel.f k a0 a1) (laws_eqModel.f (k + 1) a0 a1) := by
  intro a0 a1 k
  unfold laws_eqModel.f
  repeat' first
      | (with_reducible exact laws_eqIntSS.mono _ _ _)
      | (with_reducible exact LeO.refl _)
      | (with_reducible exact LeO.none _)
      | (with_reducible refine LeO.ite ?_ ?_)
      | (with_reducible refine LeO.bind ?_ (fun _ => ?_))
      | exact laws_eqIntSS.mono _ _ _
      | exact LeO.none _
      | refine LeO.ite ?_ ?_
      | refine LeO.bind ?_ (fun _ => ?_)
set_option maxHeartbeats 8000000 in
set_option maxRecDepth 100000 in
theorem laws_eqModel.calls (k : Nat) (A0_0 : Option Addr) (c0_0 : Nat) (l0_0 : List (List Int)) (A1_0 : Option Addr) (c1_0 : Nat) (l1_0 : List (List Int)) (r : Bool) (w : World) (hr0_0 : Kd.C (Kd.slice 3 (Kd.int .i64)) w A0_0 l0_0.length l0_0) (hc0_0 : l0_0.length ≤ c0_0) (hr1_0 : Kd.C (Kd.slice 3 (Kd.int .i64)) w A1_0 l1_0.length l1_0) (hc1_0 : l1_0.length ≤ c1_0) (h : laws_eqModel.f k l0_0 l1_0 = some r) :
    Calls Try.prog 42 #[.agg #[.slice A0_0 l0_0.length c0_0], .agg #[.slice A1_0 l1_0.length c1_0]] w fun e w' => e = .returned (.bool r) ∧ Below w.heap.size w w' := by
  have hu62 := Try.underlying62; have HR0_0 := ak hr0_0; have HC0_0 := ak hc0_0; clear hr0_0 hc0_0; have HR1_0 := ak hr1_0; have HC1_0 := ak hc1_0; clear hr1_0 hc1_0; have HB := ak (Below.refl w.heap.size w); have H : ((laws_eqIntSS.f k l0_0 l1_0).bind fun t173 => (if t173 = true then (some true) else (some false))) = some r := h; clear h; replace H := Option.bind_eq_some_iff.mp H; obtain ⟨t173, A30, H⟩ := H; have A3 := ak A30; clear A30
  by_cases c4 : t173 = true
  · subst c4; rw [if_pos rfl] at H; obtain rfl := Option.some.inj H
    go_enter Try.func42, Try.ntmps42
    go_wp2_with (first | ((with_reducible refine gate_dst (N := 2) rfl ?_); refine bxe_ (N := 2) (cs := #[.slice A0_0 l0_0.length c0_0]) (t := 62) ?_; intro gb171 hg w5 hbox hb; have BK171 := ak (hbox); have GW171 := ak (lg_ hg (bl_ HB.out)); have GE171 := ak (lg_ hg (bl_ HB.out)); replace HB := ak (below_step (bl_ HB.out) hb); clear hb hbox hg) | ((with_reducible refine gate_dst (N := 3) rfl ?_); refine bxe_ (N := 3) (cs := #[.slice A1_0 l1_0.length c1_0]) (t := 62) ?_; intro gb172 hg w6 hbox hb; have BK172 := ak (hbox); have GW172 := ak (lg_ hg (bs1_ HB.out GE171.out)); have GE172 := ak (lg_ hg (bs1_ HB.out GE171.out)); replace HB := ak (below_step (bs1_ HB.out GE171.out) hb); have NB171_172 := ak (nl_ hg (bk_ BK171.out)); have NB172_171 := ak (ng_ hg (bk_ BK171.out)); replace BK171 := ak (blk_below (bk_ BK171.out) hb); clear hb hbox hg; have hnb7 := NB171_172.out; have hnc7 := NB172_171.out; have hcz8_0 := bc_ BK171.out 0; have hfz8_0 := blk_frozen BK171.out 0; have hcz9_0 := bc_ BK172.out 0; have hfz9_0 := blk_frozen BK172.out 0) | ((with_reducible refine gate_callee (f := 79) rfl ?_); refine goesM_ (some 9) rfl rfl Try.func79 (by kernel_rfl) rfl #[.slice A0_0 l0_0.length c0_0, .slice A1_0 l1_0.length c1_0] rfl ?_; (with_reducible refine (laws_eqIntSS.calls k _ _ l0_0 _ _ l1_0 true _ ?side1 ?side2 ?side3 ?side4 A3.out).mono ?_); (case side1 => exact cb_ HR0_0.out HB.out); (case side2 => exact HC0_0.out); (case side3 => exact cb_ HR1_0.out HB.out); (case side4 => exact HC1_0.out); rintro e w' ⟨rfl, ⟨nd, rfl⟩⟩; refine ⟨_, rfl, ?_⟩))
    go_ret
    exact fin_ (bs2_ HB.out GE171.out GE172.out)
  replace c4 := Bool.eq_false_iff.mpr c4; subst c4; rw [if_neg (show ¬ (false = true) by decide)] at H; obtain rfl := Option.some.inj H
  go_enter Try.func42, Try.ntmps42
  go_wp2_with (first | ((with_reducible refine gate_dst (N := 2) rfl ?_); refine bxe_ (N := 2) (cs := #[.slice A0_0 l0_0.length c0_0]) (t := 62) ?_; intro gb171 hg w10 hbox hb; have BK171 := ak (hbox); have GW171 := ak (lg_ hg (bl_ HB.out)); have GE171 := ak (lg_ hg (bl_ HB.out)); replace HB := ak (below_step (bl_ HB.out) hb); clear hb hbox hg) | ((with_reducible refine gate_dst (N := 3) rfl ?_); refine bxe_ (N := 3) (cs := #[.slice A1_0 l1_0.length c1_0]) (t := 62) ?_; intro gb172 hg w11 hbox hb; have BK172 := ak (hbox); have GW172 := ak (lg_ hg (bs1_ HB.out GE171.out)); have GE172 := ak (lg_ hg (bs1_ HB.out GE171.out)); replace HB := ak (below_step (bs1_ HB.out GE171.out) hb); have NB171_172 := ak (nl_ hg (bk_ BK171.out)); have NB172_171 := ak (ng_ hg (bk_ BK171.out)); replace BK171 := ak (blk_below (bk_ BK171.out) hb); clear hb hbox hg; have hnb12 := NB171_172.out; have hnc12 := NB172_171.out; have hcz13_0 := bc_ BK171.out 0; have hfz13_0 := blk_frozen BK171.out 0; have hcz14_0 := bc_ BK172.out 0; have hfz14_0 := blk_frozen BK172.out 0) | ((with_reducible refine gate_callee (f := 79) rfl ?_); refine goesM_ (some 9) rfl rfl Try.func79 (by kernel_rfl) rfl #[.slice A0_0 l0_0.length c0_0, .slice A1_0 l1_0.length c1_0] rfl ?_; (with_reducible refine (laws_eqIntSS.calls k _ _ l0_0 _ _ l1_0 false _ ?side1 ?side2 ?side3 ?side4 A3.out).mono ?_); (case side1 => exact cb_ HR0_0.out HB.out); (case side2 => exact HC0_0.out); (case side3 => exact cb_ HR1_0.out HB.out); (case side4 => exact HC1_0.out); rintro e w' ⟨rfl, ⟨nd, rfl⟩⟩; refine ⟨_, rfl, ?_⟩))
  go_ret
  exact fin_ (bs2_ HB.out GE171.out GE172.out)

/-! ### laws_markIntS: function 66 -/
def laws_markIntS.l0 : Nat → List Int → Int → Int → Option (Int × List Int)
  | 0, _, _, _ => none
  | k + 1, x0, x1, x5 => if x5 < (x0.length : Int) then (if 0 ≤ x5 then (laws_markIntS.l0 k (x0.set (x5 : Int).toNat x1) (wrap64 (x1 + 1)) (wrap64 (x5 + 1))) else (none)) else (some (x1, x0))
def laws_markIntS.f (k : Nat) (l0 : List Int) (a1 : Int) : Option (Int × List Int) := laws_markIntS.l0 k l0 a1 0
theorem laws_markIntS.mono_l : ∀ k, (∀ y0 y1 y2, LeO (laws_markIntS.l0 k y0 y1 y2) (laws_markIntS.l0 (k + 1) y0 y1 y2))
  | 0 => fun _ _ _ r h => by simp [laws_markIntS.l0] at h
  | k + 1 => by
    have ih0 := laws_markIntS.mono_l k
    · intro y0 y1 y2
      unfold laws_markIntS.l0
      repeat' first | (with_reducible first | exact ih0 _ _ _ | exact LeO.refl _ | exact LeO.none _ | refine LeO.ite ?_ ?_ | refine LeO.bind ?_ (fun _ => ?_)) | exact ih0 _ _ _ | exact LeO.none _ | refine LeO.ite ?_ ?_ | refine LeO.bind ?_ (fun _ => ?_)
theorem laws_markIntS.mono : ∀ a0 a1 k, LeO (laws_markIntS.f k a0 a1) (laws_markIntS.f (k + 1) a0 a1) := by
  intro a0 a1 k; have ih0 := laws_markIntS.mono_l k
  unfold laws_markIntS.f
  repeat' first
      | (with_reducible exact ih0 _ _ _)
      | (with_reducible exact LeO.refl _)
      | (with_reducible exact LeO.none _)
      | (with_reducible refine LeO.ite ?_ ?_)
      | (with_reducible refine LeO.bind ?_ (fun _ => ?_))
      | exact ih0 _ _ _
      | exact LeO.none _
      | refine LeO.ite ?_ ?_
      | refine LeO.bind ?_ (fun _ => ?_)
set_option maxHeartbeats 8000000 in
set_option maxRecDepth 100000 in
theorem laws_markIntS.calls (k : Nat) (P0_ : Nat → Prop) (u9000_ : Value) (l0 : List Int) (a1 : Int) (r1 : Int) (r2 : List Int) (w0 w : World) (hB : Below w0.heap.size w0 w) (ho0 : Kd.R (Kd.int .i64) 3 w w0.heap.size P0_ u9000_ l0) (h : laws_markIntS.f k l0 a1 = some (r1, r2)) :
    Calls Try.prog 66 #[u9000_, .int .i64 a1] w fun e w' => e = .returned (.int .i64 r1) ∧ Kd.R (Kd.int .i64) 3 w' w0.heap.size (fun k_ => (P0_ k_ ∨ w.heap.size ≤ k_)) u9000_ r2 ∧ Below w0.heap.size w0 w' ∧ Kept w w' (fun k_ => P0_ k_) := by
  have HO0 := ak (show Kd.R (Kd.int .i64) 3 w w0.heap.size (fun k_ => (P0_ k_ ∨ w.heap.size ≤ k_)) u9000_ l0 from Kd.R_mono ho0 (fun k_ hk => (.inl hk))); have HK := ak (Kept.refl w (fun k_ => P0_ k_)); have HW0 := ak hB.size; have HB := ak hB; clear hB; have H : (laws_markIntS.l0 k l0 a1 0) = some (r1, r2) := h; clear h; have H' := ak H; clear H
  go_enter Try.func66, Try.ntmps66
  go_wp2
  go_loopg [1, 5] k (fun kq v1 v5 w' => ∃ (x0_1 : List Int) (x1_1 : Int) (x5_1 : Int), v1 = .int .i64 x1_1 ∧ v5 = .int .i64 x5_1 ∧ Aside0 (laws_markIntS.l0 kq x0_1 x1_1 x5_1 = some (r1, r2)) ∧ Aside0 (kq ≤ k) ∧ Aside0 (Kd.R (Kd.int .i64) 3 w' w0.heap.size (fun k_ => (P0_ k_ ∨ w.heap.size ≤ k_)) u9000_ x0_1) ∧ Aside0 (Kept w w' (fun k_ => P0_ k_)) ∧ Aside0 (Below w0.heap.size w0 w'))
  case atStart => exact ⟨(l0), (a1), (0), (by first | rfl | (simp; done) | (simp [*]; done)), (by first | rfl | (simp; done) | (simp [*]; done)), H', ⟨Nat.le_refl _⟩, ⟨by (with_reducible repeat (first | apply Kd.R_alloc | apply Kd.R_drewN | apply Kd.R_drew)); exact HO0.out⟩, ⟨by repeat (first | (with_reducible first | exact HK.out | apply Kept.alloc | apply Kept.drewN | apply Kept.drew) | exact HK.out)⟩, ⟨by repeat (first | (with_reducible first | exact HB.out | apply below_alloc | apply pw_below_drewN | apply below_drew1) | exact HB.out)⟩⟩
  case round =>
    clear H'; (try clear p2); obtain ⟨x0_1, x1_1, x5_1, rfl, rfl, HA, HK1, HO_0, HK, HB⟩ := hrel
    cases gk with
    | zero => exact absurd HA.out (by simp [laws_markIntS.l0])
    | succ k1 =>
      have H := HA.out; clear HA
      simp only [laws_markIntS.l0] at H
      by_cases c3 : x5_1 < (x0_1.length : Int)
      · rw [if_pos c3] at H; have c3b0 := decide_eq_true c3; clear c3
        by_cases c4 : 0 ≤ x5_1
        · rw [if_pos c4] at H; have c4b0 := decide_eq_true c4; clear c4; obtain ⟨y174, hy174⟩ : ∃ y_ : List Int, y_ = (x0_1.set (x5_1 : Int).toNat x1_1) := ⟨_, rfl⟩; replace H : (laws_markIntS.l0 k1 y174 (wrap64 (x1_1 + 1)) (wrap64 (x5_1 + 1))) = some (r1, r2) := by first | (rw [hy174]; with_reducible exact H) | (have H2_ := (Option.bind_some _ _).symm.trans H; rw [hy174]; with_reducible exact H2_) | (have H2_ := (Option.bind_some _ _).symm.trans H; with_reducible exact H2_) | with_reducible exact H | (rw [hy174]; exact H) | exact H
          have Ny174 := ak hy174; clear hy174; have H' := ak H; clear H; obtain ⟨Ao6, co6, eo6⟩ := Kd.R_slice HO_0.out; subst eo6; have p5 : 0 ≤ (x5_1 : Int) := as_; have q5 : (x5_1 : Int) < ((x0_1.length : Int) : Int) := as_; obtain ⟨go5, co5, eo5, gb5, gl5, cl5, HG5⟩ := Kd.R_form HO_0.out (by omega); (first | cases eo5 | (injection eo5 with ea_ en_ ec_; (first | subst ea_ | (injection ea_ with ea_; subst ea_)); subst ec_; clear en_)); have GB5 := ak gb5; have GG5 := ak HG5; clear gb5 gl5 HG5; have HMgo5 := ak (show (P0_ go5 ∨ w.heap.size ≤ go5) from (HO_0.out.1 _ rfl)); obtain ⟨hx5_0, hf5_0⟩ := Kd.R_celln 0 HO_0.out (x5_1 : Int) p5 q5; replace p5 := eq_true p5; replace q5 := eq_true q5; have HP7 := Kd.R_putg HO_0.out (x5_1 : Int) x1_1
          go_wp2_with (first | ((with_reducible refine gate_store (t := 3) (p := 15) rfl ?_); refine store_event (t := 3) (p := 15) (v := ?vo_w8) (w1 := (wr.setCell ⟨go5, (x5_1 : Int).toNat, none⟩ (.int .i64 x1_1))) ?hg ?ho ?hn ?hr ?_; (case ho => rfl); (case hg => rfl); (case hn => rfl); (case hr => first | (go_simp; done) | (go_simp; rfl)); intro w8 hw; have hg : wr.grownBy w8 (some go5) := (by rw [hw]; exact HP7.2); have hp_ : Kd.R (Kd.int .i64) 3 w8 w0.heap.size (fun k_ => (P0_ k_ ∨ w.heap.size ≤ k_)) (.slice (some ⟨go5, 0, none⟩) x0_1.length co6) y174 := (by rw [hw, Ny174.out]; exact HP7.1); clear HP7; replace HB := ak (by rw [hw]; exact below_set (HB.out) GB5.out : Below w0.heap.size w0 w8); replace HK := ak (Kept.of_grown (S := (fun k_ => P0_ k_)) hg (by repeat (first | (with_reducible first | exact HK.out | apply Kept.alloc | apply Kept.drewN | apply Kept.drew) | exact HK.out)) (fun k_ e_ => (HO_0.out.1 k_ e_))); replace HO_0 := ak (hp_); clear hg hw hp_))
          go_roundg k1
          case measure => have := HK1.out; omega
          case rel => exact ⟨(y174), (wrap64 (x1_1 + 1)), (wrap64 (x5_1 + 1)), (by first | rfl | (simp; done) | (simp [*]; done)), (by first | rfl | (simp; done) | (simp [*]; done)), H', ⟨by have := HK1.out; omega⟩, ⟨by (with_reducible repeat (first | apply Kd.R_alloc | apply Kd.R_drewN | apply Kd.R_drew)); exact HO_0.out⟩, ⟨by repeat (first | (with_reducible first | exact HK.out | apply Kept.alloc | apply Kept.drewN | apply Kept.drew) | exact HK.out)⟩, ⟨by repeat (first | (with_reducible first | exact HB.out | apply below_alloc | apply pw_below_drewN | apply below_drew1) | exact HB.out)⟩⟩
        rw [if_neg c4] at H; exact absurd H (by simp)
      rw [if_neg c3] at H; have c3b0 := decide_eq_false c3; clear c3
      simp only [Option.some.injEq, Prod.mk.injEq] at H
      obtain ⟨rfl, rfl⟩ := H; obtain ⟨Ao9, co9, eo9⟩ := Kd.R_slice HO_0.out; subst eo9
      go_wp2
      go_ret
      exact fin_ ⟨by (with_reducible repeat (first | apply Kd.R_alloc | apply Kd.R_drewN | apply Kd.R_drew)); exact HO_0.out, by repeat (first | (with_reducible first | exact HB.out | apply below_alloc | apply pw_below_drewN | apply below_drew1) | exact HB.out), by repeat (first | (with_reducible first | exact HK.out | apply Kept.alloc | apply Kept.drewN | apply Kept.drew) | exact HK.out)⟩

/-! ### laws_markIntSS: function 80 -/
theorem gR_pred {α : Type} {d : Kd α} {e base : Nat} {ok : Nat → Prop} {W : World} {v : Value} {xs : List α} (h : Kd.R d e W base ok v xs) : ∃ P : Nat → Prop, (∀ k, P k → ok k) ∧ (∀ k, P k → k < W.heap.size ∧ ∃ q, q ∈ e :: d.E ∧ ∃ cells, W.heap[k]? = some (.cells cells q (0, 0))) ∧ Kd.R d e W base P v xs := ⟨_, fun _ h_ => h_.1, fun _ h_ => h_.2.2, Kd.R_bound h⟩
theorem gS_pred {α : Type} {d : Kd α} {e base : Nat} {ok : Nat → Prop} {W : World} {v : Value} {xs : List α} (h : Kd.S d e W base ok v xs) : ∃ P : Nat → Prop, (∀ k, P k → ok k) ∧ (∀ k, P k → k < W.heap.size ∧ ∃ q, q ∈ e :: d.E ∧ ∃ cells, W.heap[k]? = some (.cells cells q (0, 0))) ∧ Kd.S d e W base P v xs := ⟨_, fun _ h_ => h_.1, fun _ h_ => h_.2.2, Kd.S_bound h⟩
theorem gS_lt {α : Type} {d : Kd α} {e base n : Nat} {ok : Nat → Prop} {W : World} {v : Value} {xs : List α} (h : Kd.S d e W base ok v xs) (hn : n = W.heap.size) : Kd.S d e W base (fun k => ok k ∧ k < n) v xs := Kd.S_mono (Kd.S_bound h) (fun _ h_ => ⟨h_.1, hn ▸ h_.2.2.1⟩)
theorem gR_lt {α : Type} {d : Kd α} {e base n : Nat} {ok : Nat → Prop} {W : World} {v : Value} {xs : List α} (h : Kd.R d e W base ok v xs) (hn : n = W.heap.size) : Kd.R d e W base (fun k => ok k ∧ k < n) v xs := Kd.R_mono (Kd.R_bound h) (fun _ h_ => ⟨h_.1, hn ▸ h_.2.2.1⟩)
theorem gS_ge {α : Type} {d : Kd α} {e n b : Nat} {ok : Nat → Prop} {w1 : World} {v : Value} {xs : List α} (h : Kd.S d e w1 b ok v xs) (hn : n = b) : Kd.S d e w1 b (fun k => ok k ∧ n ≤ k) v xs := Kd.S_mono (Kd.S_bound h) (fun _ h_ => ⟨h_.1, hn ▸ h_.2.1⟩)
theorem gR_ge {α : Type} {d : Kd α} {e n b : Nat} {ok : Nat → Prop} {w1 : World} {v : Value} {xs : List α} (h : Kd.R d e w1 b ok v xs) (hn : n = b) : Kd.R d e w1 b (fun k => ok k ∧ n ≤ k) v xs := Kd.R_mono (Kd.R_bound h) (fun _ h_ => ⟨h_.1, hn ▸ h_.2.1⟩)
theorem gh_ {W w1 : World} (hb : Below W.heap.size W w1) : ∃ n, n = W.heap.size := ⟨_, rfl⟩
theorem gS_off {α : Type} {d : Kd α} {e base : Nat} {ok P : Nat → Prop} {L : List Nat} {W : World} {v : Value} {xs : List α} (h : Kd.S d e W base ok v xs) (hP : ∀ k, P k → k < W.heap.size ∧ ∃ q, q ∈ L ∧ ∃ cells, W.heap[k]? = some (.cells cells q (0, 0))) (ht : ∀ q, q ∈ e :: d.E → q ∉ L) : Kd.S d e W base (fun k => ok k ∧ ¬ P k) v xs := by
  refine Kd.S_mono (Kd.S_bound h) (fun k h_ => ⟨h_.1, fun hp => ?_⟩)
  obtain ⟨_, _, _, q, hq, cells, hc⟩ := h_
  obtain ⟨_, q2, hq2, cells2, hc2⟩ := hP k hp
  rw [hc] at hc2; injection hc2 with hc2; injection hc2 with _ hqq; subst hqq; exact ht _ hq hq2
theorem gR_off {α : Type} {d : Kd α} {e base : Nat} {ok P : Nat → Prop} {L : List Nat} {W : World} {v : Value} {xs : List α} (h : Kd.R d e W base ok v xs) (hP : ∀ k, P k → k < W.heap.size ∧ ∃ q, q ∈ L ∧ ∃ cells, W.heap[k]? = some (.cells cells q (0, 0))) (ht : ∀ q, q ∈ e :: d.E → q ∉ L) : Kd.R d e W base (fun k => ok k ∧ ¬ P k) v xs := by
  refine Kd.R_mono (Kd.R_bound h) (fun k h_ => ⟨h_.1, fun hp => ?_⟩)
  obtain ⟨_, _, _, q, hq, cells, hc⟩ := h_
  obtain ⟨_, q2, hq2, cells2, hc2⟩ := hP k hp
  rw [hc] at hc2; injection hc2 with hc2; injection hc2 with _ hqq; subst hqq; exact ht _ hq hq2
theorem gP_box {P : Nat → Prop} {L : List Nat} {W : World} {g t : Nat} {cs : Array Value} (hP : ∀ k, P k → k < W.heap.size ∧ ∃ q, q ∈ L ∧ ∃ cells, W.heap[k]? = some (.cells cells q (0, 0))) (hb : W.heap[g]? = some (.cells cs t (0, 0))) (ht : t ∉ L) : ¬ P g := by
  intro hp
  obtain ⟨_, q2, hq2, cells2, hc2⟩ := hP g hp
  rw [hb] at hc2; injection hc2 with hc2; injection hc2 with _ hqq; subst hqq; exact ht hq2

def laws_markIntSS.l0 : Nat → List (List Int) → Int → Int → Option (Int × List (List Int))
  | 0, _, _, _ => none
  | k + 1, x0, x1, x5 => if x5 < (x0.length : Int) then (if 0 ≤ x5 then ((laws_markIntS.f k (rd_Ls_i64 x0 x5) x1).bind fun t295 => (laws_markIntSS.l0 k (x0.set (x5 : Int).toNat t295.2) t295.1 (wrap64 (x5 + 1)))) else (none)) else (some (x1, x0))
def laws_markIntSS.f (k : Nat) (l0 : List (List Int)) (a1 : Int) : Option (Int × List (List Int)) := laws_markIntSS.l0 k l0 a1 0
theorem laws_markIntSS.mono_l : ∀ k, (∀ y0 y1 y2, LeO (laws_markIntSS.l0 k y0 y1 y2) (laws_markIntSS.l0 (k + 1) y0 y1 y2))
  | 0 => fun _ _ _ r h => by simp [laws_markIntSS.l0] at h
  | k + 1 => by
    have ih0 := laws_markIntSS.mono_l k
    · intro y0 y1 y2
      unfold laws_markIntSS.l0
      repeat' first
      | (with_reducible exact ih0 _ _ _)
      | (with_reducible exact laws_markIntS.mono _ _ _)
      | (with_reducible exact LeO.refl _)
      | (with_reducible exact LeO.none _)
      | (with_reducible refine LeO.ite ?_ ?_)
      | (with_reducible refine LeO.bind ?_ (fun _ => ?_))
      | exact ih0 _ _ _
      | exact laws_markIntS.mono _ _ _
      | exact LeO.none _
      | refine LeO.ite ?_ ?_
      | refine LeO.bind ?_ (fun _ => ?_)
theorem laws_markIntSS.mono : ∀ a0 a1 k, LeO (laws_markIntSS.f k a0 a1) (laws_markIntSS.f (k + 1) a0 a1) := by
  intro a0 a1 k
  have ih0 := laws_markIntSS.mono_l k
  unfold laws_markIntSS.f
  repeat' first
      | (with_reducible exact ih0 _ _ _)
      | (with_reducible exact laws_markIntS.mono _ _ _)
      | (with_reducible exact LeO.refl _)
      | (with_reducible exact LeO.none _)
      | (with_reducible refine LeO.ite ?_ ?_)
      | (with_reducible refine LeO.bind ?_ (fun _ => ?_))
      | exact ih0 _ _ _
      | exact laws_markIntS.mono _ _ _
      | exact LeO.none _
      | refine LeO.ite ?_ ?_
      | refine LeO.bind ?_ (fun _ => ?_)
set_option maxHeartbeats 8000000 in
set_option maxRecDepth 100000 in
theorem laws_markIntSS.calls (k : Nat) (P0_ : Nat → Prop) (u9000_ : Value) (l0 : List (List Int)) (a1 : Int) (r1 : Int) (r2 : List (List Int)) (w0 w : World) (hB : Below w0.heap.size w0 w) (ho0 : Kd.S (Kd.slice 3 (Kd.int .i64)) 84 w w0.heap.size P0_ u9000_ l0) (h : laws_markIntSS.f k l0 a1 = some (r1, r2)) :
    Calls Try.prog 80 #[u9000_, .int .i64 a1] w fun e w' => e = .returned (.int .i64 r1) ∧ Kd.S (Kd.slice 3 (Kd.int .i64)) 84 w' w0.heap.size P0_ u9000_ r2 ∧ Below w0.heap.size w0 w' ∧ Kept w w' (fun k_ => P0_ k_) := by
  have HO0 := ak ho0; have HK := ak (Kept.refl w (fun k_ => P0_ k_)); have HW0 := ak hB.size; have HB := ak hB; clear hB ho0; have H : (laws_markIntSS.l0 k l0 a1 0) = some (r1, r2) := h; clear h; have H' := ak H; clear H
  go_enter Try.func80, Try.ntmps80
  go_wp2
  go_loopg [1, 5] k (fun kq v1 v5 w' => ∃ (x0_1 : List (List Int)) (x1_1 : Int) (x5_1 : Int), v1 = .int .i64 x1_1 ∧ v5 = .int .i64 x5_1 ∧ Aside0 (laws_markIntSS.l0 kq x0_1 x1_1 x5_1 = some (r1, r2)) ∧ Aside0 (kq ≤ k) ∧ Aside0 (Kd.S (Kd.slice 3 (Kd.int .i64)) 84 w' w0.heap.size P0_ u9000_ x0_1) ∧ Aside0 (Kept w w' (fun k_ => P0_ k_)) ∧ Aside0 (Below w0.heap.size w0 w'))
  case atStart => exact ⟨(l0), (a1), (0), (by first | rfl | (simp; done) | (simp [*]; done)), (by first | rfl | (simp; done) | (simp [*]; done)), H', ⟨Nat.le_refl _⟩, ⟨sa_ HO0.out⟩, ⟨by repeat (first | (with_reducible first | exact HK.out | apply Kept.alloc | apply Kept.drewN | apply Kept.drew) | exact HK.out)⟩, ⟨by repeat (first | (with_reducible first | exact HB.out | apply below_alloc | apply pw_below_drewN | apply below_drew1) | exact HB.out)⟩⟩
  case round =>
    clear H'; (try clear p2); obtain ⟨x0_1, x1_1, x5_1, rfl, rfl, HA, HK1, HO_0, HK, HB⟩ := hrel
    obtain ⟨Ao6, co6, eo6⟩ := Kd.S_slice HO_0.out; subst eo6
    cases gk with
    | zero => exact absurd HA.out (by simp [laws_markIntSS.l0])
    | succ k1 =>
      have H := HA.out; clear HA
      simp only [laws_markIntSS.l0] at H
      by_cases c3 : x5_1 < (x0_1.length : Int)
      · rw [if_pos c3] at H; have c3b0 := decide_eq_true c3; clear c3
        by_cases c4 : 0 ≤ x5_1
        · rw [if_pos c4] at H; have c4b0 := decide_eq_true c4; clear c4; replace H := Option.bind_eq_some_iff.mp H; obtain ⟨⟨t1, t2⟩, A50, H⟩ := H; have A5 := ak A50; clear A50; have H' := ak H; clear H
          have p5 : 0 ≤ (x5_1 : Int) := as_; have q5 : (x5_1 : Int) < ((x0_1.length : Int) : Int) := as_
          obtain ⟨go5, co5, eo5, gb5, gl5, cl5, HG5⟩ := Kd.R_form (Kd.S_R HO_0.out) (by omega); (first | cases eo5 | (injection eo5 with ea_ en_ ec_; (first | subst ea_ | (injection ea_ with ea_; subst ea_)); subst ec_; clear en_)); clear gl5 HG5
          obtain ⟨oki, ce, hcl, hM, hcells, hoki, hH⟩ := Kd.S_lend HO_0.out ([] : List Int) x5_1 p5 q5
          obtain ⟨ve, hve, hRe⟩ := hM
          subst hve
          obtain ⟨Ae, cae, ee⟩ := Kd.R_slice hRe
          subst ee
          have hx5_0 : wr.cell? ⟨go5, (x5_1 : Int).toNat, none⟩ = some (.slice Ae (rd_Ls_i64 x0_1 x5_1).length cae) := by have h_ : wr.cell? ⟨go5, (x5_1 : Int).toNat * (Kd.slice 3 (Kd.int .i64)).sz + 0, none⟩ = some (.slice Ae (rd_Ls_i64 x0_1 x5_1).length cae) := hcells 0 _ rfl; rwa [show (x5_1 : Int).toNat * (Kd.slice 3 (Kd.int .i64)).sz + 0 = (x5_1 : Int).toNat from by show (x5_1 : Int).toNat * 1 + 0 = _; omega] at h_
          have HE := ak hRe; have HH := ak hH; have HI := ak hoki; clear hRe hH hoki hcells hcl
          replace p5 := eq_true p5; replace q5 := eq_true q5
          go_wp2_with (first | ((with_reducible refine gate_callee (f := 66) rfl ?_); refine goesM_ (some 17) rfl rfl Try.func66 (by kernel_rfl) rfl #[.slice Ae (rd_Ls_i64 x0_1 x5_1).length cae, .int .i64 x1_1] rfl ?_; (with_reducible refine (laws_markIntS.calls k1 oki _ (rd_Ls_i64 x0_1 x5_1) x1_1 t1 t2 w0 _ ?sideB ?side1 A5.out).mono ?_); (case sideB => exact bl_ HB.out); (case side1 => exact ra_ HE.out); rintro e w2 ⟨rfl, hy, hb, hkp⟩; refine ⟨_, rfl, ?_⟩; have hs2 := Kd.H_back (Kd.H_kept HH.out hkp (fun k_ _ hn hs => hn hs)) (show (Kd.slice 3 (Kd.int .i64)).M w2 w0.heap.size oki t2 [.slice Ae (rd_Ls_i64 x0_1 x5_1).length cae] from ⟨_, rfl, Kd.R_reok rfl hy (fun k_ e_ => HE.out.1 k_ e_)⟩) (fun _ h_ => h_); replace HK := ak (Kept.then_ (S := (fun k_ => P0_ k_)) HK.out hkp (fun k_ hs_ => .inl (HI.out k_ hs_).1)); replace HB := ak hb; replace HO_0 := ak hs2; clear hs2 hy hb hkp))
          go_roundg k1
          case measure => have := HK1.out; omega
          case rel => exact ⟨(x0_1.set (x5_1 : Int).toNat t2), (t1), (wrap64 (x5_1 + 1)), (by first | rfl | (simp; done) | (simp [*]; done)), (by first | rfl | (simp; done) | (simp [*]; done)), H', ⟨by have := HK1.out; omega⟩, ⟨HO_0.out⟩, ⟨by repeat (first | (with_reducible first | exact HK.out | apply Kept.alloc | apply Kept.drewN | apply Kept.drew) | exact HK.out)⟩, ⟨by repeat (first | (with_reducible first | exact HB.out | apply below_alloc | apply pw_below_drewN | apply below_drew1) | exact HB.out)⟩⟩
        rw [if_neg c4] at H; exact absurd H (by simp)
      rw [if_neg c3] at H; have c3b0 := decide_eq_false c3; clear c3
      simp only [Option.some.injEq, Prod.mk.injEq] at H
      obtain ⟨rfl, rfl⟩ := H
      go_wp2
      go_ret
      exact fin_ ⟨HO_0.out, by repeat (first | (with_reducible first | exact HB.out | apply below_alloc | apply pw_below_drewN | apply below_drew1) | exact HB.out), by repeat (first | (with_reducible first | exact HK.out | apply Kept.alloc | apply Kept.drewN | apply Kept.drew) | exact HK.out)⟩

theorem laws_markIntSS.callsE (k : Nat) (ok_ : Nat → Prop) (u9000_ : Value) (l0 : List (List Int)) (a1 : Int) (r1 : Int) (r2 : List (List Int)) (w0 w : World) (hB : Below w0.heap.size w0 w) (ho0 : Kd.S (Kd.slice 3 (Kd.int .i64)) 84 w w0.heap.size ok_ u9000_ l0) (h : laws_markIntSS.f k l0 a1 = some (r1, r2)) :
    Calls Try.prog 80 #[u9000_, .int .i64 a1] w fun e w' => ∃ P0_ : Nat → Prop, (∀ k, P0_ k → ok_ k) ∧ (∀ k, P0_ k → k < w.heap.size ∧ ∃ q, q ∈ [84, 3] ∧ ∃ cells, w.heap[k]? = some (.cells cells q (0, 0))) ∧ e = .returned (.int .i64 r1) ∧ Kd.S (Kd.slice 3 (Kd.int .i64)) 84 w' w0.heap.size ok_ u9000_ r2 ∧ Below w0.heap.size w0 w' ∧ Kept w w' P0_ := by
  obtain ⟨P, h1, h2, h3⟩ := gS_pred ho0
  exact (laws_markIntSS.calls k P u9000_ l0 a1 r1 r2 w0 w hB h3 h).mono (fun e w' ⟨ha, hb, hc, hd⟩ => ⟨P, h1, h2, ha, Kd.S_mono hb h1, hc, hd⟩)

/-! ### laws_markModel: function 43 -/
def laws_markModel.f (k : Nat) (l0_0 : List (List Int)) (a1 : Int) : Option (Int × List (List Int)) := laws_markIntSS.f k l0_0 a1
theorem laws_markModel.mono : ∀ a0 a1 k, LeO (laws_markModel.f k a0 a1) (laws_markModel.f (k + 1) a0 a1) := by
  intro a0 a1 k
  unfold laws_markModel.f
  repeat' first
      | (with_reducible exact laws_markIntSS.mono _ _ _)
      | (with_reducible exact LeO.refl _)
      | (with_reducible exact LeO.none _)
      | (with_reducible refine LeO.ite ?_ ?_)
      | (with_reducible refine LeO.bind ?_ (fun _ => ?_))
      | exact laws_markIntSS.mono _ _ _
      | exact LeO.none _
      | refine LeO.ite ?_ ?_
      | refine LeO.bind ?_ (fun _ => ?_)
theorem laws_markModel.calls (k : Nat) (P0_ : Nat → Prop) (A0_0 : Option Addr) (n0_0 c0_0 : Nat) (l0_0 : List (List Int)) (a1 : Int) (r1 : Int) (r2 : List (List Int)) (w0 w : World) (hB : Below w0.heap.size w0 w) (ho0 : Kd.S (Kd.slice 3 (Kd.int .i64)) 84 w w0.heap.size P0_ (.slice A0_0 n0_0 c0_0) l0_0) (h : laws_markModel.f k l0_0 a1 = some (r1, r2)) :
    Calls Try.prog 43 #[.agg #[.slice A0_0 n0_0 c0_0], .int .i64 a1] w fun e w' => e = .returned (.int .i64 r1) ∧ Kd.S (Kd.slice 3 (Kd.int .i64)) 84 w' w0.heap.size P0_ (.slice A0_0 n0_0 c0_0) r2 ∧ Below w0.heap.size w0 w' ∧ Kept w w' (fun k_ => P0_ k_) := by
  have hu51 := Try.underlying62; have HO0 := ak ho0; have HK := ak (Kept.refl w (fun k_ => P0_ k_)); have HB := ak hB; clear hB ho0; have A3 := ak (show laws_markIntSS.f k l0_0 a1 = some (r1, r2) from h); clear h
  go_enter Try.func43, Try.ntmps43
  go_wp2_with (first | ((with_reducible refine gate_dst (N := 2) rfl ?_); refine bxe_ (N := 2) (cs := #[.slice A0_0 n0_0 c0_0]) (t := 62) ?_; intro gb296 hg w5 hbox hb; have BK296 := ak (hbox); have GE296 := ak (lg_ hg (bl_ HB.out)); replace HO0 := ak (Kd.S_below HO0.out hb); replace HK := ak (Kept.below HK.out hb); replace HB := ak (below_step (bl_ HB.out) hb); clear hb hbox hg; have hcz6_0 := bc_ BK296.out 0; have hfz6_0 := blk_frozen BK296.out 0) | ((with_reducible refine gate_callee (f := 80) rfl ?_); refine goesM_ (some 8) rfl rfl Try.func80 (by kernel_rfl) rfl #[.slice A0_0 n0_0 c0_0, .int .i64 a1] rfl ?_; (with_reducible refine (laws_markIntSS.calls k P0_ _ l0_0 a1 r1 r2 w0 _ ?sideB ?side1 A3.out).mono ?_); (case sideB => exact bs1_ HB.out GE296.out); (case side1 => exact sa_ HO0.out); rintro e w2 ⟨rfl, hy, hb, hkp⟩; refine ⟨_, rfl, ?_⟩; replace HK := ak (Kept.then_ (S := (fun k_ => P0_ k_)) HK.out hkp (fun k_ hs_ => .inl hs_)); replace HB := ak hb; replace HO0 := ak hy; clear hy hb hkp))
  go_ret
  exact fin_ ⟨HO0.out, by repeat (first | (with_reducible first | exact HB.out | apply below_alloc | apply pw_below_drewN | apply below_drew1) | exact HB.out), by repeat (first | (with_reducible first | exact HK.out | apply Kept.alloc | apply Kept.drewN | apply Kept.drew) | exact HK.out)⟩

theorem laws_markModel.callsE (k : Nat) (ok_ : Nat → Prop) (A0_0 : Option Addr) (n0_0 c0_0 : Nat) (l0_0 : List (List Int)) (a1 : Int) (r1 : Int) (r2 : List (List Int)) (w0 w : World) (hB : Below w0.heap.size w0 w) (ho0 : Kd.S (Kd.slice 3 (Kd.int .i64)) 84 w w0.heap.size ok_ (.slice A0_0 n0_0 c0_0) l0_0) (h : laws_markModel.f k l0_0 a1 = some (r1, r2)) :
    Calls Try.prog 43 #[.agg #[.slice A0_0 n0_0 c0_0], .int .i64 a1] w fun e w' => ∃ P0_ : Nat → Prop, (∀ k, P0_ k → ok_ k) ∧ (∀ k, P0_ k → k < w.heap.size ∧ ∃ q, q ∈ [84, 3] ∧ ∃ cells, w.heap[k]? = some (.cells cells q (0, 0))) ∧ e = .returned (.int .i64 r1) ∧ Kd.S (Kd.slice 3 (Kd.int .i64)) 84 w' w0.heap.size ok_ (.slice A0_0 n0_0 c0_0) r2 ∧ Below w0.heap.size w0 w' ∧ Kept w w' P0_ := by
  obtain ⟨P, h1, h2, h3⟩ := gS_pred ho0
  exact (laws_markModel.calls k P A0_0 n0_0 c0_0 l0_0 a1 r1 r2 w0 w hB h3 h).mono (fun e w' ⟨ha, hb, hc, hd⟩ => ⟨P, h1, h2, ha, Kd.S_mono hb h1, hc, hd⟩)

/-! ### laws_markWorld: function 44 -/
def laws_markWorld.f (k : Nat) (a0_0 : Int) (l0_1 : List (List Int)) (a1 : Int) : Option (Int × List (List Int)) := laws_markIntSS.f k l0_1 a1
theorem laws_markWorld.mono : ∀ a0 a1 a2 k, LeO (laws_markWorld.f k a0 a1 a2) (laws_markWorld.f (k + 1) a0 a1 a2) := by
  intro a0 a1 a2 k
  unfold laws_markWorld.f
  repeat' first
      | (with_reducible exact laws_markIntSS.mono _ _ _)
      | (with_reducible exact LeO.refl _)
      | (with_reducible exact LeO.none _)
      | (with_reducible refine LeO.ite ?_ ?_)
      | (with_reducible refine LeO.bind ?_ (fun _ => ?_))
      | exact laws_markIntSS.mono _ _ _
      | exact LeO.none _
      | refine LeO.ite ?_ ?_
      | refine LeO.bind ?_ (fun _ => ?_)
theorem laws_markWorld.calls (k : Nat) (P0_ : Nat → Prop) (a0_0 : Int) (A0_1 : Option Addr) (n0_1 c0_1 : Nat) (l0_1 : List (List Int)) (a1 : Int) (r1 : Int) (r2 : List (List Int)) (w0 w : World) (hB : Below w0.heap.size w0 w) (ho0 : Kd.S (Kd.slice 3 (Kd.int .i64)) 84 w w0.heap.size P0_ (.slice A0_1 n0_1 c0_1) l0_1) (h : laws_markWorld.f k a0_0 l0_1 a1 = some (r1, r2)) :
    Calls Try.prog 44 #[.agg #[.int .i64 a0_0, .slice A0_1 n0_1 c0_1], .int .i64 a1] w fun e w' => e = .returned (.int .i64 r1) ∧ Kd.S (Kd.slice 3 (Kd.int .i64)) 84 w' w0.heap.size P0_ (.slice A0_1 n0_1 c0_1) r2 ∧ Below w0.heap.size w0 w' ∧ Kept w w' (fun k_ => P0_ k_) := by
  have hu51 := Try.underlying60; have HO0 := ak ho0; have HK := ak (Kept.refl w (fun k_ => P0_ k_)); have HB := ak hB; clear hB ho0; have A3 := ak (show laws_markIntSS.f k l0_1 a1 = some (r1, r2) from h); clear h
  go_enter Try.func44, Try.ntmps44
  go_wp2_with (first | ((with_reducible refine gate_dst (N := 2) rfl ?_); refine bxe_ (N := 2) (cs := #[.int .i64 a0_0, .slice A0_1 n0_1 c0_1]) (t := 60) ?_; intro gb296 hg w5 hbox hb; have BK296 := ak (hbox); have GE296 := ak (lg_ hg (bl_ HB.out)); replace HO0 := ak (Kd.S_below HO0.out hb); replace HK := ak (Kept.below HK.out hb); replace HB := ak (below_step (bl_ HB.out) hb); clear hb hbox hg; have hcz6_0 := bc_ BK296.out 0; have hcz6_1 := bc_ BK296.out 1; have hfz6_0 := blk_frozen BK296.out 0; have hfz6_1 := blk_frozen BK296.out 1) | ((with_reducible refine gate_callee (f := 80) rfl ?_); refine goesM_ (some 8) rfl rfl Try.func80 (by kernel_rfl) rfl #[.slice A0_1 n0_1 c0_1, .int .i64 a1] rfl ?_; (with_reducible refine (laws_markIntSS.calls k P0_ _ l0_1 a1 r1 r2 w0 _ ?sideB ?side1 A3.out).mono ?_); (case sideB => exact bs1_ HB.out GE296.out); (case side1 => exact sa_ HO0.out); rintro e w2 ⟨rfl, hy, hb, hkp⟩; refine ⟨_, rfl, ?_⟩; replace HK := ak (Kept.then_ (S := (fun k_ => P0_ k_)) HK.out hkp (fun k_ hs_ => .inl hs_)); replace HB := ak hb; replace HO0 := ak hy; clear hy hb hkp))
  go_ret
  exact fin_ ⟨HO0.out, by repeat (first | (with_reducible first | exact HB.out | apply below_alloc | apply pw_below_drewN | apply below_drew1) | exact HB.out), by repeat (first | (with_reducible first | exact HK.out | apply Kept.alloc | apply Kept.drewN | apply Kept.drew) | exact HK.out)⟩

theorem laws_markWorld.callsE (k : Nat) (ok_ : Nat → Prop) (a0_0 : Int) (A0_1 : Option Addr) (n0_1 c0_1 : Nat) (l0_1 : List (List Int)) (a1 : Int) (r1 : Int) (r2 : List (List Int)) (w0 w : World) (hB : Below w0.heap.size w0 w) (ho0 : Kd.S (Kd.slice 3 (Kd.int .i64)) 84 w w0.heap.size ok_ (.slice A0_1 n0_1 c0_1) l0_1) (h : laws_markWorld.f k a0_0 l0_1 a1 = some (r1, r2)) :
    Calls Try.prog 44 #[.agg #[.int .i64 a0_0, .slice A0_1 n0_1 c0_1], .int .i64 a1] w fun e w' => ∃ P0_ : Nat → Prop, (∀ k, P0_ k → ok_ k) ∧ (∀ k, P0_ k → k < w.heap.size ∧ ∃ q, q ∈ [84, 3] ∧ ∃ cells, w.heap[k]? = some (.cells cells q (0, 0))) ∧ e = .returned (.int .i64 r1) ∧ Kd.S (Kd.slice 3 (Kd.int .i64)) 84 w' w0.heap.size ok_ (.slice A0_1 n0_1 c0_1) r2 ∧ Below w0.heap.size w0 w' ∧ Kept w w' P0_ := by
  obtain ⟨P, h1, h2, h3⟩ := gS_pred ho0
  exact (laws_markWorld.calls k P a0_0 A0_1 n0_1 c0_1 l0_1 a1 r1 r2 w0 w hB h3 h).mono (fun e w' ⟨ha, hb, hc, hd⟩ => ⟨P, h1, h2, ha, Kd.S_mono hb h1, hc, hd⟩)

/-! ### laws_heldIntS: function 67 -/
def laws_heldIntS.l0 : Nat → List Int → Int → Int → Option (Int)
  | 0, _, _, _ => none
  | k + 1, x0, x1, x5 => if x5 < (x0.length : Int) then (if 0 ≤ x5 then (if (rd x0 x5) = x1 then (laws_heldIntS.l0 k x0 (wrap64 (x1 + 1)) (wrap64 (x5 + 1))) else (some (-1))) else (none)) else (some x1)
def laws_heldIntS.f (k : Nat) (l0 : List Int) (a1 : Int) : Option (Int) := laws_heldIntS.l0 k l0 a1 0
theorem laws_heldIntS.mono_l : ∀ k, (∀ y0 y1 y2, LeO (laws_heldIntS.l0 k y0 y1 y2) (laws_heldIntS.l0 (k + 1) y0 y1 y2))
  | 0 => fun _ _ _ r h => by simp [laws_heldIntS.l0] at h
  | k + 1 => by
    have ih0 := laws_heldIntS.mono_l k
    · intro y0 y1 y2
      unfold laws_heldIntS.l0
      repeat' first | (with_reducible first | exact ih0 _ _ _ | exact LeO.refl _ | exact LeO.none _ | refine LeO.ite ?_ ?_ | refine LeO.bind ?_ (fun _ => ?_)) | exact ih0 _ _ _ | exact LeO.none _ | refine LeO.ite ?_ ?_ | refine LeO.bind ?_ (fun _ => ?_)
theorem laws_heldIntS.mono : ∀ a0 a1 k, LeO (laws_heldIntS.f k a0 a1) (laws_heldIntS.f (k + 1) a0 a1) := by
  intro a0 a1 k; have ih0 := laws_heldIntS.mono_l k
  unfold laws_heldIntS.f
  repeat' first
      | (with_reducible exact ih0 _ _ _)
      | (with_reducible exact LeO.refl _)
      | (with_reducible exact LeO.none _)
      | (with_reducible refine LeO.ite ?_ ?_)
      | (with_reducible refine LeO.bind ?_ (fun _ => ?_))
      | exact ih0 _ _ _
      | exact LeO.none _
      | refine LeO.ite ?_ ?_
      | refine LeO.bind ?_ (fun _ => ?_)
set_option maxHeartbeats 8000000 in
set_option maxRecDepth 100000 in
theorem laws_heldIntS.calls (k : Nat) (A0 : Option Addr) (c0 : Nat) (l0 : List Int) (a1 : Int) (r : Int) (w : World) (hr0 : Kd.C (Kd.int .i64) w A0 l0.length l0) (hc0 : l0.length ≤ c0) (h : laws_heldIntS.f k l0 a1 = some r) :
    Calls Try.prog 67 #[.slice A0 l0.length c0, .int .i64 a1] w fun e w' => e = .returned (.int .i64 r) ∧ Drawn0 w w' := by
  have HR0 := ak hr0; have HC0 := ak hc0; clear hr0 hc0; have H : (laws_heldIntS.l0 k l0 a1 0) = some r := h; clear h; have H' := ak H; clear H
  go_enter Try.func67, Try.ntmps67
  go_wp2
  go_loopg [1, 5] k (fun kq v1 v5 w' => ∃ (x1_1 : Int) (x5_1 : Int), v1 = .int .i64 x1_1 ∧ v5 = .int .i64 x5_1 ∧ Aside0 (laws_heldIntS.l0 kq l0 x1_1 x5_1 = some r) ∧ Aside0 (kq ≤ k) ∧ Drawn0 w w')
  case atStart => exact ⟨(a1), (0), (by first | rfl | (simp; done) | (simp [*]; done)), (by first | rfl | (simp; done) | (simp [*]; done)), H', ⟨Nat.le_refl _⟩, by repeat (first | exact Drawn0.refl _ | apply Drawn0.step)⟩
  case round =>
    clear H'; (try clear p2); obtain ⟨x1_1, x5_1, rfl, rfl, HA, HK1, ⟨m1, rfl⟩⟩ := hrel
    cases gk with
    | zero => exact absurd HA.out (by simp [laws_heldIntS.l0])
    | succ k1 =>
      have H := HA.out; clear HA
      simp only [laws_heldIntS.l0] at H
      by_cases c3 : x5_1 < (l0.length : Int)
      · rw [if_pos c3] at H; have c3b0 := decide_eq_true c3; clear c3
        by_cases c4 : 0 ≤ x5_1
        · rw [if_pos c4] at H; have c4b0 := decide_eq_true c4; clear c4
          by_cases c5 : (rd l0 x5_1) = x1_1
          · rw [if_pos c5] at H; have c5b0 : ((rd l0 x5_1) == x1_1) = true := beq_iff_eq.mpr c5; have c5b1 : ((rd l0 x5_1) != x1_1) = false := bne_eq_false_iff_eq.mpr c5; clear c5; have H' := ak H; clear H; have p175 : 0 ≤ (x5_1 : Int) := as_; have q175 : x5_1 < (l0.length : Int) := as_; obtain ⟨ad175, e175, hx175_0⟩ := Kd.at_int HR0.out x5_1 p175 q175
            cases e175
            replace p175 := eq_true p175; replace q175 := eq_true q175
            go_wp2
            go_roundg k1
            case measure => have := HK1.out; omega
            case rel => exact ⟨(wrap64 (x1_1 + 1)), (wrap64 (x5_1 + 1)), (by first | rfl | (simp; done) | (simp [*]; done)), (by first | rfl | (simp; done) | (simp [*]; done)), H', ⟨by have := HK1.out; omega⟩, by repeat (first | exact Drawn0.refl _ | apply Drawn0.step)⟩
          rw [if_neg c5] at H; have c5b0 : ((rd l0 x5_1) == x1_1) = false := beq_eq_false_iff_ne.mpr c5; have c5b1 : ((rd l0 x5_1) != x1_1) = true := bne_iff_ne.mpr c5; obtain rfl := Option.some.inj H; have p175 : 0 ≤ (x5_1 : Int) := as_; have q175 : x5_1 < (l0.length : Int) := as_; obtain ⟨ad175, e175, hx175_0⟩ := Kd.at_int HR0.out x5_1 p175 q175
          cases e175
          replace p175 := eq_true p175; replace q175 := eq_true q175
          go_wp2
          go_ret
          exact ⟨by first | rfl | (simp; done) | (simp [*]; done), by repeat (first | exact Drawn0.refl _ | apply Drawn0.step)⟩
        rw [if_neg c4] at H; exact absurd H (by simp)
      rw [if_neg c3] at H; have c3b0 := decide_eq_false c3; clear c3; obtain rfl := Option.some.inj H
      go_wp2
      go_ret
      exact ⟨by first | rfl | (simp; done) | (simp [*]; done), by repeat (first | exact Drawn0.refl _ | apply Drawn0.step)⟩

/-! ### laws_heldIntSS: function 81 -/
def laws_heldIntSS.l0 : Nat → List (List Int) → Int → Int → Option (Int)
  | 0, _, _, _ => none
  | k + 1, x0, x1, x5 => if x5 < (x0.length : Int) then (if 0 ≤ x5 then ((laws_heldIntS.f k (rd_Ls_i64 x0 x5) x1).bind fun t177 => (if t177 < 0 then (some (-1)) else (laws_heldIntSS.l0 k x0 t177 (wrap64 (x5 + 1))))) else (none)) else (some x1)
def laws_heldIntSS.f (k : Nat) (l0 : List (List Int)) (a1 : Int) : Option (Int) := laws_heldIntSS.l0 k l0 a1 0
theorem laws_heldIntSS.mono_l : ∀ k, (∀ y0 y1 y2, LeO (laws_heldIntSS.l0 k y0 y1 y2) (laws_heldIntSS.l0 (k + 1) y0 y1 y2))
  | 0 => fun _ _ _ r h => by simp [laws_heldIntSS.l0] at h
  | k + 1 => by
    have ih0 := laws_heldIntSS.mono_l k
    · intro y0 y1 y2
      unfold laws_heldIntSS.l0
      repeat' first | (with_reducible first | exact ih0 _ _ _ | exact laws_heldIntS.mono _ _ _ | exact LeO.refl _ | exact LeO.none _ | refine LeO.ite ?_ ?_ | refine LeO.bind ?_ (fun _ => ?_)) | exact ih0 _ _ _ | exact laws_heldIntS.mono _ _ _ | exact LeO.none _ | refine LeO.ite ?_ ?_ | refine LeO.bind ?_ (fun _ => ?_)
theorem laws_heldIntSS.mono : ∀ a0 a1 k, LeO (laws_heldIntSS.f k a0 a1) (laws_heldIntSS.f (k + 1) a0 a1) := by
  intro a0 a1 k; have ih0 := laws_heldIntSS.mono_l k
  unfold laws_heldIntSS.f
  repeat' first
      | (with_reducible exact ih0 _ _ _)
      | (with_reducible exact laws_heldIntS.mono _ _ _)
      | (with_reducible exact LeO.refl _)
      | (with_reducible exact LeO.none _)
      | (with_reducible refine LeO.ite ?_ ?_)
      | (with_reducible refine LeO.bind ?_ (fun _ => ?_))
      | exact ih0 _ _ _
      | exact laws_heldIntS.mono _ _ _
      | exact LeO.none _
      | refine LeO.ite ?_ ?_
      | refine LeO.bind ?_ (fun _ => ?_)
set_option maxHeartbeats 8000000 in
set_option maxRecDepth 100000 in
theorem laws_heldIntSS.calls (k : Nat) (A0 : Option Addr) (c0 : Nat) (l0 : List (List Int)) (a1 : Int) (r : Int) (w : World) (hr0 : Kd.C (Kd.slice 3 (Kd.int .i64)) w A0 l0.length l0) (hc0 : l0.length ≤ c0) (h : laws_heldIntSS.f k l0 a1 = some r) :
    Calls Try.prog 81 #[.slice A0 l0.length c0, .int .i64 a1] w fun e w' => e = .returned (.int .i64 r) ∧ Drawn0 w w' := by
  have HR0 := ak hr0; have HC0 := ak hc0; clear hr0 hc0; have H : (laws_heldIntSS.l0 k l0 a1 0) = some r := h; clear h; have H' := ak H; clear H
  go_enter Try.func81, Try.ntmps81
  go_wp2
  go_loopg [1, 5] k (fun kq v1 v5 w' => ∃ (x1_1 : Int) (x5_1 : Int), v1 = .int .i64 x1_1 ∧ v5 = .int .i64 x5_1 ∧ Aside0 (laws_heldIntSS.l0 kq l0 x1_1 x5_1 = some r) ∧ Aside0 (kq ≤ k) ∧ Drawn0 w w')
  case atStart => exact ⟨(a1), (0), (by first | rfl | (simp; done) | (simp [*]; done)), (by first | rfl | (simp; done) | (simp [*]; done)), H', ⟨Nat.le_refl _⟩, by repeat (first | exact Drawn0.refl _ | apply Drawn0.step)⟩
  case round =>
    clear H'; (try clear p2); obtain ⟨x1_1, x5_1, rfl, rfl, HA, HK1, ⟨m1, rfl⟩⟩ := hrel
    cases gk with
    | zero => exact absurd HA.out (by simp [laws_heldIntSS.l0])
    | succ k1 =>
      have H := HA.out; clear HA
      simp only [laws_heldIntSS.l0] at H
      by_cases c3 : x5_1 < (l0.length : Int)
      · rw [if_pos c3] at H; have c3b0 := decide_eq_true c3; clear c3
        by_cases c4 : 0 ≤ x5_1
        · rw [if_pos c4] at H; have c4b0 := decide_eq_true c4; clear c4; replace H := Option.bind_eq_some_iff.mp H; obtain ⟨t177, A50, H⟩ := H; have A5 := ak A50; clear A50
          by_cases c6 : t177 < 0
          · rw [if_pos c6] at H; have c6b0 := decide_eq_true c6; clear c6; obtain rfl := Option.some.inj H; have p176 : 0 ≤ (x5_1 : Int) := as_; have q176 : x5_1 < (l0.length : Int) := as_; obtain ⟨ad176, A176_0, c176_0, e176, hx176_0, hl176_0, hi176_0⟩ := at_L1 HR0.out x5_1 p176 q176
            cases e176
            have HR176_0 := ak hi176_0; have HC176_0 := ak hl176_0; clear hi176_0 hl176_0; replace p176 := eq_true p176; replace q176 := eq_true q176
            go_wp2_with (first | ((with_reducible refine gate_callee (f := 67) rfl ?_); refine goesM_ (some 17) rfl rfl Try.func67 (by kernel_rfl) rfl #[.slice A176_0 (rd_Ls_i64 l0 x5_1).length c176_0, .int .i64 x1_1] rfl ?_; (with_reducible refine (laws_heldIntS.calls k1 _ _ (rd_Ls_i64 l0 x5_1) x1_1 t177 _ ?side1 ?side2 A5.out).mono ?_); (case side1 => exact ca_ HR176_0.out); (case side2 => exact HC176_0.out); rintro e w' ⟨rfl, ⟨nd, rfl⟩⟩; refine ⟨_, rfl, ?_⟩))
            go_ret
            exact ⟨by first | rfl | (simp; done) | (simp [*]; done), by repeat (first | exact Drawn0.refl _ | apply Drawn0.step)⟩
          rw [if_neg c6] at H; have c6b0 := decide_eq_false c6; clear c6; have H' := ak H; clear H; have p176 : 0 ≤ (x5_1 : Int) := as_; have q176 : x5_1 < (l0.length : Int) := as_; obtain ⟨ad176, A176_0, c176_0, e176, hx176_0, hl176_0, hi176_0⟩ := at_L1 HR0.out x5_1 p176 q176
          cases e176
          have HR176_0 := ak hi176_0; have HC176_0 := ak hl176_0; clear hi176_0 hl176_0; replace p176 := eq_true p176; replace q176 := eq_true q176
          go_wp2_with (first | ((with_reducible refine gate_callee (f := 67) rfl ?_); refine goesM_ (some 17) rfl rfl Try.func67 (by kernel_rfl) rfl #[.slice A176_0 (rd_Ls_i64 l0 x5_1).length c176_0, .int .i64 x1_1] rfl ?_; (with_reducible refine (laws_heldIntS.calls k1 _ _ (rd_Ls_i64 l0 x5_1) x1_1 t177 _ ?side1 ?side2 A5.out).mono ?_); (case side1 => exact ca_ HR176_0.out); (case side2 => exact HC176_0.out); rintro e w' ⟨rfl, ⟨nd, rfl⟩⟩; refine ⟨_, rfl, ?_⟩))
          go_roundg k1
          case measure => have := HK1.out; omega
          case rel => exact ⟨(t177), (wrap64 (x5_1 + 1)), (by first | rfl | (simp; done) | (simp [*]; done)), (by first | rfl | (simp; done) | (simp [*]; done)), H', ⟨by have := HK1.out; omega⟩, by repeat (first | exact Drawn0.refl _ | apply Drawn0.step)⟩
        rw [if_neg c4] at H; exact absurd H (by simp)
      rw [if_neg c3] at H; have c3b0 := decide_eq_false c3; clear c3; obtain rfl := Option.some.inj H
      go_wp2
      go_ret
      exact ⟨by first | rfl | (simp; done) | (simp [*]; done), by repeat (first | exact Drawn0.refl _ | apply Drawn0.step)⟩

/-! ### laws_heldWorld: function 45 -/
def laws_heldWorld.f (k : Nat) (a0_0 : Int) (l0_1 : List (List Int)) (a1 : Int) : Option (Int) := (laws_heldIntSS.f k l0_1 a1).bind fun t179 => (if t179 < 0 then (some (-1)) else (some t179))
theorem laws_heldWorld.mono : ∀ a0 a1 a2 k, LeO (laws_heldWorld.f k a0 a1 a2) (laws_heldWorld.f (k + 1) a0 a1 a2) := by
  intro a0 a1 a2 k
  unfold laws_heldWorld.f
  repeat' first
      | (with_reducible exact laws_heldIntSS.mono _ _ _)
      | (with_reducible exact LeO.refl _)
      | (with_reducible exact LeO.none _)
      | (with_reducible refine LeO.ite ?_ ?_)
      | (with_reducible refine LeO.bind ?_ (fun _ => ?_))
      | exact laws_heldIntSS.mono _ _ _
      | exact LeO.none _
      | refine LeO.ite ?_ ?_
      | refine LeO.bind ?_ (fun _ => ?_)
set_option maxHeartbeats 8000000 in
set_option maxRecDepth 100000 in
theorem laws_heldWorld.calls (k : Nat) (a0_0 : Int) (A0_1 : Option Addr) (c0_1 : Nat) (l0_1 : List (List Int)) (a1 : Int) (r : Int) (w : World) (hr0_1 : Kd.C (Kd.slice 3 (Kd.int .i64)) w A0_1 l0_1.length l0_1) (hc0_1 : l0_1.length ≤ c0_1) (h : laws_heldWorld.f k a0_0 l0_1 a1 = some r) :
    Calls Try.prog 45 #[.agg #[.int .i64 a0_0, .slice A0_1 l0_1.length c0_1], .int .i64 a1] w fun e w' => e = .returned (.int .i64 r) ∧ Below w.heap.size w w' := by
  have hu60 := Try.underlying60; have HR0_1 := ak hr0_1; have HC0_1 := ak hc0_1; clear hr0_1 hc0_1; have HB := ak (Below.refl w.heap.size w); have H : ((laws_heldIntSS.f k l0_1 a1).bind fun t179 => (if t179 < 0 then (some (-1)) else (some t179))) = some r := h; clear h; replace H := Option.bind_eq_some_iff.mp H; obtain ⟨t179, A30, H⟩ := H; have A3 := ak A30; clear A30
  by_cases c4 : t179 < 0
  · rw [if_pos c4] at H; have c4b0 := decide_eq_true c4; clear c4; obtain rfl := Option.some.inj H
    go_enter Try.func45, Try.ntmps45
    go_wp2_with (first | ((with_reducible refine gate_dst (N := 2) rfl ?_); refine bxe_ (N := 2) (cs := #[.int .i64 a0_0, .slice A0_1 l0_1.length c0_1]) (t := 60) ?_; intro gb178 hg w5 hbox hb; have BK178 := ak (hbox); have GW178 := ak (lg_ hg (bl_ HB.out)); have GE178 := ak (lg_ hg (bl_ HB.out)); replace HB := ak (below_step (bl_ HB.out) hb); clear hb hbox hg; have hcz6_0 := bc_ BK178.out 0; have hcz6_1 := bc_ BK178.out 1; have hfz6_0 := blk_frozen BK178.out 0; have hfz6_1 := blk_frozen BK178.out 1) | ((with_reducible refine gate_callee (f := 81) rfl ?_); refine goesM_ (some 8) rfl rfl Try.func81 (by kernel_rfl) rfl #[.slice A0_1 l0_1.length c0_1, .int .i64 a1] rfl ?_; (with_reducible refine (laws_heldIntSS.calls k _ _ l0_1 a1 t179 _ ?side1 ?side2 A3.out).mono ?_); (case side1 => exact cb_ HR0_1.out HB.out); (case side2 => exact HC0_1.out); rintro e w' ⟨rfl, ⟨nd, rfl⟩⟩; refine ⟨_, rfl, ?_⟩))
    go_ret
    exact fin_ (bs1_ HB.out GE178.out)
  rw [if_neg c4] at H; have c4b0 := decide_eq_false c4; clear c4; obtain rfl := Option.some.inj H
  go_enter Try.func45, Try.ntmps45
  go_wp2_with (first | ((with_reducible refine gate_dst (N := 2) rfl ?_); refine bxe_ (N := 2) (cs := #[.int .i64 a0_0, .slice A0_1 l0_1.length c0_1]) (t := 60) ?_; intro gb178 hg w7 hbox hb; have BK178 := ak (hbox); have GW178 := ak (lg_ hg (bl_ HB.out)); have GE178 := ak (lg_ hg (bl_ HB.out)); replace HB := ak (below_step (bl_ HB.out) hb); clear hb hbox hg; have hcz8_0 := bc_ BK178.out 0; have hcz8_1 := bc_ BK178.out 1; have hfz8_0 := blk_frozen BK178.out 0; have hfz8_1 := blk_frozen BK178.out 1) | ((with_reducible refine gate_callee (f := 81) rfl ?_); refine goesM_ (some 8) rfl rfl Try.func81 (by kernel_rfl) rfl #[.slice A0_1 l0_1.length c0_1, .int .i64 a1] rfl ?_; (with_reducible refine (laws_heldIntSS.calls k _ _ l0_1 a1 t179 _ ?side1 ?side2 A3.out).mono ?_); (case side1 => exact cb_ HR0_1.out HB.out); (case side2 => exact HC0_1.out); rintro e w' ⟨rfl, ⟨nd, rfl⟩⟩; refine ⟨_, rfl, ?_⟩))
  go_ret
  exact fin_ (bs1_ HB.out GE178.out)

end Go.Proofs.Ytlgoindmpejgcaa.XWorldOf
