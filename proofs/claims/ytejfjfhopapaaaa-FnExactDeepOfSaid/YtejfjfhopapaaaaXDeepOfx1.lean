-- printed by a program of this session (xprint, turned from the kit's print) for this claim
import Derived.Test.YtejfjfhopapaaaaXDeepOfx0
namespace Go.Proofs.Ytejfjfhopapaaaa.XDeepOf
open Go.RowKit Go.Proofs.Ytejfjfhopapaaaa.XOpens Go.Proofs.YtejfjfhopapaaaaW.PrintWords Go.Proofs.YtejfjfhopapaaaaW.PrintLast Go.Proofs.YtejfjfhopapaaaaW.PrintMore
attribute [local go_sem] max2_int min2_int max_two min_two max_three min_three max_four min_four   -- for this text's walks alone
set_option linter.unusedVariables false
set_option linter.unusedSimpArgs false

/-! ### laws_szIntS: function 240 -/
def laws_szIntS.f (l0 : List Int) (a1 : Int) : Option (Int) := if (wrap64 (a1 - (l0.length : Int))) < 0 then (some (-1)) else (some (wrap64 (a1 - (l0.length : Int))))
set_option maxHeartbeats 8000000 in
set_option maxRecDepth 100000 in
theorem laws_szIntS.calls (A0 : Option Addr) (c0 : Nat) (l0 : List Int) (a1 : Int) (r : Int) (w : World) (hr0 : Kd.C (Kd.int .i64) w A0 l0.length l0) (hc0 : l0.length ≤ c0) (h : laws_szIntS.f l0 a1 = some r) :
    Calls Try.prog 240 #[.slice A0 l0.length c0, .int .i64 a1] w fun e w' => e = .returned (.int .i64 r) ∧ Drawn0 w w' := by
  have HR0 := ak hr0; have HC0 := ak hc0; clear hr0 hc0; have H : (if (wrap64 (a1 - (l0.length : Int))) < 0 then (some (-1)) else (some (wrap64 (a1 - (l0.length : Int))))) = some r := h; clear h
  by_cases c3 : (wrap64 (a1 - (l0.length : Int))) < 0
  · rw [if_pos c3] at H; have c3b0 := decide_eq_true c3; clear c3; obtain rfl := Option.some.inj H
    go_enter Try.func240, Try.ntmps240
    go_wp2
    go_ret
    exact ⟨by first | rfl | (simp; done) | (simp [*]; done), by repeat (first | exact Drawn0.refl _ | apply Drawn0.step)⟩
  rw [if_neg c3] at H; have c3b0 := decide_eq_false c3; clear c3; obtain rfl := Option.some.inj H
  go_enter Try.func240, Try.ntmps240
  go_wp2
  go_ret
  exact ⟨by first | rfl | (simp; done) | (simp [*]; done), by repeat (first | exact Drawn0.refl _ | apply Drawn0.step)⟩

/-! ### a group: laws_szTermS, laws_szTerm -/
mutual
def laws_szTermS.l0 : Nat → List (L_Term) → Int → Int → Option (Int)
  | 0, _, _, _ => none
  | k + 1, x0, x1, x5 => if x5 < (x0.length : Int) then (if 0 ≤ x5 then ((laws_szTerm.f k ((rd_L_Term x0 x5).f0) ((rd_L_Term x0 x5).f1) ((rd_L_Term x0 x5).f2) x1).bind fun t102 => (if t102 < 0 then (some (-1)) else (laws_szTermS.l0 k x0 t102 (wrap64 (x5 + 1))))) else (none)) else (some x1)
def laws_szTermS.f : Nat → List (L_Term) → Int → Option (Int)
  | 0, _, _ => none
  | k + 1, l0, a1 => if (wrap64 (a1 - (l0.length : Int))) < 0 then (some (-1)) else (laws_szTermS.l0 k l0 (wrap64 (a1 - (l0.length : Int))) 0)
def laws_szTerm.f : Nat → Int → Int → List (L_Term) → Int → Option (Int)
  | 0, _, _, _, _ => none
  | k + 1, a0_0, a0_1, l0_2, a1 => (laws_szTermS.f k l0_2 a1).bind fun t104 => (if t104 < 0 then (some (-1)) else (some t104))
end
theorem laws_szTermS.grp_mono : ∀ k, (∀ y0 y1, LeO (laws_szTermS.f k y0 y1) (laws_szTermS.f (k + 1) y0 y1)) ∧ (∀ y0 y1 y2, LeO (laws_szTermS.l0 k y0 y1 y2) (laws_szTermS.l0 (k + 1) y0 y1 y2)) ∧ (∀ y0 y1 y2 y3, LeO (laws_szTerm.f k y0 y1 y2 y3) (laws_szTerm.f (k + 1) y0 y1 y2 y3))
  | 0 => ⟨fun _ _ r h => by simp [laws_szTermS.f] at h, fun _ _ _ r h => by simp [laws_szTermS.l0] at h, fun _ _ _ _ r h => by simp [laws_szTerm.f] at h⟩
  | k + 1 => by
    obtain ⟨ih0, ih1, ih2⟩ := laws_szTermS.grp_mono k
    refine ⟨?_, ?_, ?_⟩
    · intro y0 y1
      unfold laws_szTermS.f
      repeat' first
      | (with_reducible exact ih0 _ _)
      | (with_reducible exact ih1 _ _ _)
      | (with_reducible exact ih2 _ _ _ _)
      | (with_reducible exact LeO.refl _)
      | (with_reducible exact LeO.none _)
      | (with_reducible refine LeO.ite ?_ ?_)
      | (with_reducible refine LeO.bind ?_ (fun _ => ?_))
      | exact ih0 _ _
      | exact ih1 _ _ _
      | exact ih2 _ _ _ _
      | exact LeO.none _
      | refine LeO.ite ?_ ?_
      | refine LeO.bind ?_ (fun _ => ?_)
    · intro y0 y1 y2
      unfold laws_szTermS.l0
      repeat' first
      | (with_reducible exact ih0 _ _)
      | (with_reducible exact ih1 _ _ _)
      | (with_reducible exact ih2 _ _ _ _)
      | (with_reducible exact LeO.refl _)
      | (with_reducible exact LeO.none _)
      | (with_reducible refine LeO.ite ?_ ?_)
      | (with_reducible refine LeO.bind ?_ (fun _ => ?_))
      | exact ih0 _ _
      | exact ih1 _ _ _
      | exact ih2 _ _ _ _
      | exact LeO.none _
      | refine LeO.ite ?_ ?_
      | refine LeO.bind ?_ (fun _ => ?_)
    · intro y0 y1 y2 y3
      unfold laws_szTerm.f
      repeat' first
      | (with_reducible exact ih0 _ _)
      | (with_reducible exact ih1 _ _ _)
      | (with_reducible exact ih2 _ _ _ _)
      | (with_reducible exact LeO.refl _)
      | (with_reducible exact LeO.none _)
      | (with_reducible refine LeO.ite ?_ ?_)
      | (with_reducible refine LeO.bind ?_ (fun _ => ?_))
      | exact ih0 _ _
      | exact ih1 _ _ _
      | exact ih2 _ _ _ _
      | exact LeO.none _
      | refine LeO.ite ?_ ?_
      | refine LeO.bind ?_ (fun _ => ?_)
theorem laws_szTermS.mono : ∀ a0 a1 k, LeO (laws_szTermS.f k a0 a1) (laws_szTermS.f (k + 1) a0 a1) := by
  intro a0 a1 k
  obtain ⟨ih0, ih1, ih2⟩ := laws_szTermS.grp_mono k
  exact ih0 a0 a1
theorem laws_szTerm.mono : ∀ a0 a1 a2 a3 k, LeO (laws_szTerm.f k a0 a1 a2 a3) (laws_szTerm.f (k + 1) a0 a1 a2 a3) := by
  intro a0 a1 a2 a3 k
  obtain ⟨ih0, ih1, ih2⟩ := laws_szTermS.grp_mono k
  exact ih2 a0 a1 a2 a3
/-! ### laws_szTermS: function 104 -/
set_option maxHeartbeats 8000000 in
set_option maxRecDepth 100000 in
theorem laws_szTermS.step (k : Nat) (ihg_104 : ∀ m, m < k → ∀ (A0 : Option Addr) (c0 : Nat) (l0 : List (L_Term)) (a1 : Int) (r : Int) (w : World) (hr0 : Kd.C k25 w A0 l0.length l0) (hc0 : l0.length ≤ c0) (h : laws_szTermS.f m l0 a1 = some r),
    Calls Try.prog 104 #[.slice A0 l0.length c0, .int .i64 a1] w fun e w' => e = .returned (.int .i64 r) ∧ Below w.heap.size w w') (ihg_16 : ∀ m, m < k → ∀ (a0_0 : Int) (a0_1 : Int) (A0_2 : Option Addr) (c0_2 : Nat) (l0_2 : List (L_Term)) (a1 : Int) (r : Int) (w : World) (hr0_2 : Kd.C k25 w A0_2 l0_2.length l0_2) (hc0_2 : l0_2.length ≤ c0_2) (h : laws_szTerm.f m a0_0 a0_1 l0_2 a1 = some r),
    Calls Try.prog 16 #[.agg #[.int .i64 a0_0, .int .i64 a0_1, .slice A0_2 l0_2.length c0_2], .int .i64 a1] w fun e w' => e = .returned (.int .i64 r) ∧ Below w.heap.size w w') : ∀ (A0 : Option Addr) (c0 : Nat) (l0 : List (L_Term)) (a1 : Int) (r : Int) (w : World) (hr0 : Kd.C k25 w A0 l0.length l0) (hc0 : l0.length ≤ c0) (h : laws_szTermS.f k l0 a1 = some r),
    Calls Try.prog 104 #[.slice A0 l0.length c0, .int .i64 a1] w fun e w' => e = .returned (.int .i64 r) ∧ Below w.heap.size w w' := by
  intro A0 c0 l0 a1 r w hr0 hc0 h
  cases k with
  | zero => exact absurd h (by simp [laws_szTermS.f])
  | succ k =>
  simp only [laws_szTermS.f] at h
  have hu25 := Try.underlying25; have HR0 := ak hr0; have HC0 := ak hc0; clear hr0 hc0; have HB := ak (Below.refl w.heap.size w); have H : (if (wrap64 (a1 - (l0.length : Int))) < 0 then (some (-1)) else (laws_szTermS.l0 k l0 (wrap64 (a1 - (l0.length : Int))) 0)) = some r := h; clear h
  by_cases c3 : (wrap64 (a1 - (l0.length : Int))) < 0
  · rw [if_pos c3] at H; have c3b0 := decide_eq_true c3; clear c3; obtain rfl := Option.some.inj H
    go_enter Try.func104, Try.ntmps104
    go_wp2
    go_ret
    exact fin_ (bl_ HB.out)
  rw [if_neg c3] at H; have c3b0 := decide_eq_false c3; clear c3; have H' := ak H; clear H
  go_enter Try.func104, Try.ntmps104
  go_wp2
  go_loopg [1, 5] k (fun kq v1 v5 w' => ∃ (x1_1 : Int) (x5_1 : Int), v1 = .int .i64 x1_1 ∧ v5 = .int .i64 x5_1 ∧ Aside0 (laws_szTermS.l0 kq l0 x1_1 x5_1 = some r) ∧ Aside0 (kq ≤ k) ∧ Aside0 (Below w.heap.size w w'))
  case atStart => exact ⟨(wrap64 (a1 - (l0.length : Int))), (0), (by first | rfl | (simp; done) | (simp [*]; done)), (by first | rfl | (simp; done) | (simp [*]; done)), H', ⟨Nat.le_refl _⟩, ⟨by repeat (first | (with_reducible first | exact HB.out | apply below_alloc | apply pw_below_drewN | apply below_drew1) | exact HB.out)⟩⟩
  case round =>
    clear H'; (try clear c1); (try clear p2); (try clear c3); (try clear c3b0); obtain ⟨x1_1, x5_1, rfl, rfl, HA, HK1, HB⟩ := hrel
    cases gk with
    | zero => exact absurd HA.out (by simp [laws_szTermS.l0])
    | succ k1 =>
      have H := HA.out; clear HA
      simp only [laws_szTermS.l0] at H
      by_cases c4 : x5_1 < (l0.length : Int)
      · rw [if_pos c4] at H; have c4b0 := decide_eq_true c4; clear c4
        by_cases c5 : 0 ≤ x5_1
        · rw [if_pos c5] at H; have c5b0 := decide_eq_true c5; clear c5; replace H := Option.bind_eq_some_iff.mp H; obtain ⟨t102, A60, H⟩ := H; have A6 := ak A60; clear A60
          by_cases c7 : t102 < 0
          · rw [if_pos c7] at H; have c7b0 := decide_eq_true c7; clear c7; obtain rfl := Option.some.inj H; have p101 : 0 ≤ (x5_1 : Int) := as_; have q101 : x5_1 < (l0.length : Int) := as_; obtain ⟨ad101, A101_2, c101_2, e101, hx101_0, hx101_1, hx101_2, hl101_2, hi101_2⟩ := at_T25 HR0.out x5_1 p101 q101
            cases e101
            replace hx101_0 := hbc_ HB.out hx101_0; replace hx101_1 := hbc_ HB.out hx101_1; replace hx101_2 := hbc_ HB.out hx101_2; have HR101_2 := ak hi101_2; have HC101_2 := ak hl101_2; clear hi101_2 hl101_2; replace p101 := eq_true p101; replace q101 := eq_true q101
            go_wp2_with (first | ((with_reducible refine gate_callee (f := 16) rfl ?_); refine goesM_ (some 23) rfl rfl Try.func16 (by kernel_rfl) rfl #[.agg #[.int .i64 ((rd_L_Term l0 x5_1).f0), .int .i64 ((rd_L_Term l0 x5_1).f1), .slice A101_2 ((rd_L_Term l0 x5_1).f2).length c101_2], .int .i64 x1_1] rfl ?_; (with_reducible refine (ihg_16 k1 (by have := HK1.out; omega) ((rd_L_Term l0 x5_1).f0) ((rd_L_Term l0 x5_1).f1) _ _ ((rd_L_Term l0 x5_1).f2) x1_1 t102 _ ?side1 ?side2 A6.out).mono ?_); (case side1 => exact cb_ HR101_2.out HB.out); (case side2 => exact HC101_2.out); rintro e w8 ⟨rfl, hb⟩; refine ⟨_, rfl, ?_⟩; replace HB := ak (below_step (bl_ HB.out) hb); (try clear hb); (try clear hb2); (try clear hk); (try clear hi)))
            go_ret
            exact fin_ (bl_ HB.out)
          rw [if_neg c7] at H; have c7b0 := decide_eq_false c7; clear c7; have H' := ak H; clear H; have p101 : 0 ≤ (x5_1 : Int) := as_; have q101 : x5_1 < (l0.length : Int) := as_; obtain ⟨ad101, A101_2, c101_2, e101, hx101_0, hx101_1, hx101_2, hl101_2, hi101_2⟩ := at_T25 HR0.out x5_1 p101 q101
          cases e101
          replace hx101_0 := hbc_ HB.out hx101_0; replace hx101_1 := hbc_ HB.out hx101_1; replace hx101_2 := hbc_ HB.out hx101_2; have HR101_2 := ak hi101_2; have HC101_2 := ak hl101_2; clear hi101_2 hl101_2; replace p101 := eq_true p101; replace q101 := eq_true q101
          go_wp2_with (first | ((with_reducible refine gate_callee (f := 16) rfl ?_); refine goesM_ (some 23) rfl rfl Try.func16 (by kernel_rfl) rfl #[.agg #[.int .i64 ((rd_L_Term l0 x5_1).f0), .int .i64 ((rd_L_Term l0 x5_1).f1), .slice A101_2 ((rd_L_Term l0 x5_1).f2).length c101_2], .int .i64 x1_1] rfl ?_; (with_reducible refine (ihg_16 k1 (by have := HK1.out; omega) ((rd_L_Term l0 x5_1).f0) ((rd_L_Term l0 x5_1).f1) _ _ ((rd_L_Term l0 x5_1).f2) x1_1 t102 _ ?side1 ?side2 A6.out).mono ?_); (case side1 => exact cb_ HR101_2.out HB.out); (case side2 => exact HC101_2.out); rintro e w9 ⟨rfl, hb⟩; refine ⟨_, rfl, ?_⟩; replace HB := ak (below_step (bl_ HB.out) hb); (try clear hb); (try clear hb2); (try clear hk); (try clear hi)))
          go_roundg k1
          case measure => have := HK1.out; omega
          case rel => exact ⟨(t102), (wrap64 (x5_1 + 1)), (by first | rfl | (simp; done) | (simp [*]; done)), (by first | rfl | (simp; done) | (simp [*]; done)), H', ⟨by have := HK1.out; omega⟩, ⟨by repeat (first | (with_reducible first | exact HB.out | apply below_alloc | apply pw_below_drewN | apply below_drew1) | exact HB.out)⟩⟩
        rw [if_neg c5] at H; exact absurd H (by simp)
      rw [if_neg c4] at H; have c4b0 := decide_eq_false c4; clear c4; obtain rfl := Option.some.inj H
      go_wp2
      go_ret
      exact fin_ (bl_ HB.out)

/-! ### laws_szTerm: function 16 -/
set_option maxHeartbeats 8000000 in
set_option maxRecDepth 100000 in
theorem laws_szTerm.step (k : Nat) (ihg_104 : ∀ m, m < k → ∀ (A0 : Option Addr) (c0 : Nat) (l0 : List (L_Term)) (a1 : Int) (r : Int) (w : World) (hr0 : Kd.C k25 w A0 l0.length l0) (hc0 : l0.length ≤ c0) (h : laws_szTermS.f m l0 a1 = some r),
    Calls Try.prog 104 #[.slice A0 l0.length c0, .int .i64 a1] w fun e w' => e = .returned (.int .i64 r) ∧ Below w.heap.size w w') (ihg_16 : ∀ m, m < k → ∀ (a0_0 : Int) (a0_1 : Int) (A0_2 : Option Addr) (c0_2 : Nat) (l0_2 : List (L_Term)) (a1 : Int) (r : Int) (w : World) (hr0_2 : Kd.C k25 w A0_2 l0_2.length l0_2) (hc0_2 : l0_2.length ≤ c0_2) (h : laws_szTerm.f m a0_0 a0_1 l0_2 a1 = some r),
    Calls Try.prog 16 #[.agg #[.int .i64 a0_0, .int .i64 a0_1, .slice A0_2 l0_2.length c0_2], .int .i64 a1] w fun e w' => e = .returned (.int .i64 r) ∧ Below w.heap.size w w') : ∀ (a0_0 : Int) (a0_1 : Int) (A0_2 : Option Addr) (c0_2 : Nat) (l0_2 : List (L_Term)) (a1 : Int) (r : Int) (w : World) (hr0_2 : Kd.C k25 w A0_2 l0_2.length l0_2) (hc0_2 : l0_2.length ≤ c0_2) (h : laws_szTerm.f k a0_0 a0_1 l0_2 a1 = some r),
    Calls Try.prog 16 #[.agg #[.int .i64 a0_0, .int .i64 a0_1, .slice A0_2 l0_2.length c0_2], .int .i64 a1] w fun e w' => e = .returned (.int .i64 r) ∧ Below w.heap.size w w' := by
  intro a0_0 a0_1 A0_2 c0_2 l0_2 a1 r w hr0_2 hc0_2 h
  cases k with
  | zero => exact absurd h (by simp [laws_szTerm.f])
  | succ k =>
  simp only [laws_szTerm.f] at h
  have hu25 := Try.underlying25; have HR0_2 := ak hr0_2; have HC0_2 := ak hc0_2; clear hr0_2 hc0_2; have HB := ak (Below.refl w.heap.size w); have H : ((laws_szTermS.f k l0_2 a1).bind fun t104 => (if t104 < 0 then (some (-1)) else (some t104))) = some r := h; clear h; replace H := Option.bind_eq_some_iff.mp H; obtain ⟨t104, A30, H⟩ := H; have A3 := ak A30; clear A30
  by_cases c4 : t104 < 0
  · rw [if_pos c4] at H; have c4b0 := decide_eq_true c4; clear c4; obtain rfl := Option.some.inj H
    go_enter Try.func16, Try.ntmps16
    go_wp2_with (first | ((with_reducible refine gate_dst (N := 2) rfl ?_); refine bxe_ (N := 2) (cs := #[.int .i64 a0_0, .int .i64 a0_1, .slice A0_2 l0_2.length c0_2]) (t := 25) ?_; intro gb103 hg w5 hbox hb; have BK103 := ak (hbox); have GW103 := ak (lg_ hg (bl_ HB.out)); have GE103 := ak (lg_ hg (bl_ HB.out)); replace HB := ak (below_step (bl_ HB.out) hb); clear hb hbox hg; have hcz6_0 := bc_ BK103.out 0; have hcz6_1 := bc_ BK103.out 1; have hcz6_2 := bc_ BK103.out 2; have hfz6_0 := blk_frozen BK103.out 0; have hfz6_1 := blk_frozen BK103.out 1; have hfz6_2 := blk_frozen BK103.out 2) | ((with_reducible refine gate_callee (f := 104) rfl ?_); refine goesM_ (some 8) rfl rfl Try.func104 (by kernel_rfl) rfl #[.slice A0_2 l0_2.length c0_2, .int .i64 a1] rfl ?_; (with_reducible refine (ihg_104 k (by omega) _ _ l0_2 a1 t104 _ ?side1 ?side2 A3.out).mono ?_); (case side1 => exact cb_ HR0_2.out HB.out); (case side2 => exact HC0_2.out); rintro e w7 ⟨rfl, hb⟩; refine ⟨_, rfl, ?_⟩; replace BK103 := ak (blk_below (bk_ BK103.out) hb); replace HB := ak (below_step (bs1_ HB.out GE103.out) hb); (try clear hb); (try clear hb2); (try clear hk); (try clear hi)))
    go_ret
    exact fin_ (bs1_ HB.out GE103.out)
  rw [if_neg c4] at H; have c4b0 := decide_eq_false c4; clear c4; obtain rfl := Option.some.inj H
  go_enter Try.func16, Try.ntmps16
  go_wp2_with (first | ((with_reducible refine gate_dst (N := 2) rfl ?_); refine bxe_ (N := 2) (cs := #[.int .i64 a0_0, .int .i64 a0_1, .slice A0_2 l0_2.length c0_2]) (t := 25) ?_; intro gb103 hg w8 hbox hb; have BK103 := ak (hbox); have GW103 := ak (lg_ hg (bl_ HB.out)); have GE103 := ak (lg_ hg (bl_ HB.out)); replace HB := ak (below_step (bl_ HB.out) hb); clear hb hbox hg; have hcz9_0 := bc_ BK103.out 0; have hcz9_1 := bc_ BK103.out 1; have hcz9_2 := bc_ BK103.out 2; have hfz9_0 := blk_frozen BK103.out 0; have hfz9_1 := blk_frozen BK103.out 1; have hfz9_2 := blk_frozen BK103.out 2) | ((with_reducible refine gate_callee (f := 104) rfl ?_); refine goesM_ (some 8) rfl rfl Try.func104 (by kernel_rfl) rfl #[.slice A0_2 l0_2.length c0_2, .int .i64 a1] rfl ?_; (with_reducible refine (ihg_104 k (by omega) _ _ l0_2 a1 t104 _ ?side1 ?side2 A3.out).mono ?_); (case side1 => exact cb_ HR0_2.out HB.out); (case side2 => exact HC0_2.out); rintro e w10 ⟨rfl, hb⟩; refine ⟨_, rfl, ?_⟩; replace BK103 := ak (blk_below (bk_ BK103.out) hb); replace HB := ak (below_step (bs1_ HB.out GE103.out) hb); (try clear hb); (try clear hb2); (try clear hk); (try clear hi)))
  go_ret
  exact fin_ (bs1_ HB.out GE103.out)

theorem laws_szTermS.grp_all (k : Nat) : (∀ (A0 : Option Addr) (c0 : Nat) (l0 : List (L_Term)) (a1 : Int) (r : Int) (w : World) (hr0 : Kd.C k25 w A0 l0.length l0) (hc0 : l0.length ≤ c0) (h : laws_szTermS.f k l0 a1 = some r),
    Calls Try.prog 104 #[.slice A0 l0.length c0, .int .i64 a1] w fun e w' => e = .returned (.int .i64 r) ∧ Below w.heap.size w w') ∧ (∀ (a0_0 : Int) (a0_1 : Int) (A0_2 : Option Addr) (c0_2 : Nat) (l0_2 : List (L_Term)) (a1 : Int) (r : Int) (w : World) (hr0_2 : Kd.C k25 w A0_2 l0_2.length l0_2) (hc0_2 : l0_2.length ≤ c0_2) (h : laws_szTerm.f k a0_0 a0_1 l0_2 a1 = some r),
    Calls Try.prog 16 #[.agg #[.int .i64 a0_0, .int .i64 a0_1, .slice A0_2 l0_2.length c0_2], .int .i64 a1] w fun e w' => e = .returned (.int .i64 r) ∧ Below w.heap.size w w') := by
  induction k using Nat.strongRecOn with
  | _ k ih =>
  exact ⟨laws_szTermS.step k (fun m hm => (ih m hm).1) (fun m hm => (ih m hm).2), laws_szTerm.step k (fun m hm => (ih m hm).1) (fun m hm => (ih m hm).2)⟩
theorem laws_szTermS.calls (k : Nat) : ∀ (A0 : Option Addr) (c0 : Nat) (l0 : List (L_Term)) (a1 : Int) (r : Int) (w : World) (hr0 : Kd.C k25 w A0 l0.length l0) (hc0 : l0.length ≤ c0) (h : laws_szTermS.f k l0 a1 = some r),
    Calls Try.prog 104 #[.slice A0 l0.length c0, .int .i64 a1] w fun e w' => e = .returned (.int .i64 r) ∧ Below w.heap.size w w' := (laws_szTermS.grp_all k).1
theorem laws_szTerm.calls (k : Nat) : ∀ (a0_0 : Int) (a0_1 : Int) (A0_2 : Option Addr) (c0_2 : Nat) (l0_2 : List (L_Term)) (a1 : Int) (r : Int) (w : World) (hr0_2 : Kd.C k25 w A0_2 l0_2.length l0_2) (hc0_2 : l0_2.length ≤ c0_2) (h : laws_szTerm.f k a0_0 a0_1 l0_2 a1 = some r),
    Calls Try.prog 16 #[.agg #[.int .i64 a0_0, .int .i64 a0_1, .slice A0_2 l0_2.length c0_2], .int .i64 a1] w fun e w' => e = .returned (.int .i64 r) ∧ Below w.heap.size w w' := (laws_szTermS.grp_all k).2

/-! ### laws_szBind: function 281 -/
def laws_szBind.f (k : Nat) (a0_0 : Int) (a0_1 : Int) (a0_2 : Int) (l0_3 : List (L_Term)) (a1 : Int) : Option (Int) := (laws_szTerm.f k a0_1 a0_2 l0_3 a1).bind fun t106 => (if t106 < 0 then (some (-1)) else (some t106))
theorem laws_szBind.mono : ∀ a0 a1 a2 a3 a4 k, LeO (laws_szBind.f k a0 a1 a2 a3 a4) (laws_szBind.f (k + 1) a0 a1 a2 a3 a4) := by
  intro a0 a1 a2 a3 a4 k
  unfold laws_szBind.f
  repeat' first
      | (with_reducible exact laws_szTerm.mono _ _ _ _ _)
      | (with_reducible exact LeO.refl _)
      | (with_reducible exact LeO.none _)
      | (with_reducible refine LeO.ite ?_ ?_)
      | (with_reducible refine LeO.bind ?_ (fun _ => ?_))
      | exact laws_szTerm.mono _ _ _ _ _
      | exact LeO.none _
      | refine LeO.ite ?_ ?_
      | refine LeO.bind ?_ (fun _ => ?_)
set_option maxHeartbeats 8000000 in
set_option maxRecDepth 100000 in
theorem laws_szBind.calls (k : Nat) (a0_0 : Int) (a0_1 : Int) (a0_2 : Int) (A0_3 : Option Addr) (c0_3 : Nat) (l0_3 : List (L_Term)) (a1 : Int) (r : Int) (w : World) (hr0_3 : Kd.C k25 w A0_3 l0_3.length l0_3) (hc0_3 : l0_3.length ≤ c0_3) (h : laws_szBind.f k a0_0 a0_1 a0_2 l0_3 a1 = some r) :
    Calls Try.prog 281 #[.agg #[.int .i64 a0_0, .int .i64 a0_1, .int .i64 a0_2, .slice A0_3 l0_3.length c0_3], .int .i64 a1] w fun e w' => e = .returned (.int .i64 r) ∧ Below w.heap.size w w' := by
  have hu273 := Try.underlying273; have hu25 := Try.underlying25; have HR0_3 := ak hr0_3; have HC0_3 := ak hc0_3; clear hr0_3 hc0_3; have HB := ak (Below.refl w.heap.size w); have H : ((laws_szTerm.f k a0_1 a0_2 l0_3 a1).bind fun t106 => (if t106 < 0 then (some (-1)) else (some t106))) = some r := h; clear h; replace H := Option.bind_eq_some_iff.mp H; obtain ⟨t106, A30, H⟩ := H; have A3 := ak A30; clear A30
  by_cases c4 : t106 < 0
  · rw [if_pos c4] at H; have c4b0 := decide_eq_true c4; clear c4; obtain rfl := Option.some.inj H
    go_enter Try.func281, Try.ntmps281
    go_wp2_with (first | ((with_reducible refine gate_dst (N := 2) rfl ?_); refine bxe_ (N := 2) (cs := #[.int .i64 a0_0, .int .i64 a0_1, .int .i64 a0_2, .slice A0_3 l0_3.length c0_3]) (t := 273) ?_; intro gb105 hg w5 hbox hb; have BK105 := ak (hbox); have GW105 := ak (lg_ hg (bl_ HB.out)); have GE105 := ak (lg_ hg (bl_ HB.out)); replace HB := ak (below_step (bl_ HB.out) hb); clear hb hbox hg; have hcz6_0 := bc_ BK105.out 0; have hcz6_1 := bc_ BK105.out 1; have hcz6_2 := bc_ BK105.out 2; have hcz6_3 := bc_ BK105.out 3; have hfz6_0 := blk_frozen BK105.out 0; have hfz6_1 := blk_frozen BK105.out 1; have hfz6_2 := blk_frozen BK105.out 2; have hfz6_3 := blk_frozen BK105.out 3) | ((with_reducible refine gate_callee (f := 16) rfl ?_); refine goesM_ (some 8) rfl rfl Try.func16 (by kernel_rfl) rfl #[.agg #[.int .i64 a0_1, .int .i64 a0_2, .slice A0_3 l0_3.length c0_3], .int .i64 a1] rfl ?_; (with_reducible refine (laws_szTerm.calls k a0_1 a0_2 _ _ l0_3 a1 t106 _ ?side1 ?side2 A3.out).mono ?_); (case side1 => exact cb_ HR0_3.out HB.out); (case side2 => exact HC0_3.out); rintro e w7 ⟨rfl, hb⟩; refine ⟨_, rfl, ?_⟩; replace BK105 := ak (blk_below (bk_ BK105.out) hb); replace HB := ak (below_step (bs1_ HB.out GE105.out) hb); (try clear hb); (try clear hb2); (try clear hk); (try clear hi)))
    go_ret
    exact fin_ (bs1_ HB.out GE105.out)
  rw [if_neg c4] at H; have c4b0 := decide_eq_false c4; clear c4; obtain rfl := Option.some.inj H
  go_enter Try.func281, Try.ntmps281
  go_wp2_with (first | ((with_reducible refine gate_dst (N := 2) rfl ?_); refine bxe_ (N := 2) (cs := #[.int .i64 a0_0, .int .i64 a0_1, .int .i64 a0_2, .slice A0_3 l0_3.length c0_3]) (t := 273) ?_; intro gb105 hg w8 hbox hb; have BK105 := ak (hbox); have GW105 := ak (lg_ hg (bl_ HB.out)); have GE105 := ak (lg_ hg (bl_ HB.out)); replace HB := ak (below_step (bl_ HB.out) hb); clear hb hbox hg; have hcz9_0 := bc_ BK105.out 0; have hcz9_1 := bc_ BK105.out 1; have hcz9_2 := bc_ BK105.out 2; have hcz9_3 := bc_ BK105.out 3; have hfz9_0 := blk_frozen BK105.out 0; have hfz9_1 := blk_frozen BK105.out 1; have hfz9_2 := blk_frozen BK105.out 2; have hfz9_3 := blk_frozen BK105.out 3) | ((with_reducible refine gate_callee (f := 16) rfl ?_); refine goesM_ (some 8) rfl rfl Try.func16 (by kernel_rfl) rfl #[.agg #[.int .i64 a0_1, .int .i64 a0_2, .slice A0_3 l0_3.length c0_3], .int .i64 a1] rfl ?_; (with_reducible refine (laws_szTerm.calls k a0_1 a0_2 _ _ l0_3 a1 t106 _ ?side1 ?side2 A3.out).mono ?_); (case side1 => exact cb_ HR0_3.out HB.out); (case side2 => exact HC0_3.out); rintro e w10 ⟨rfl, hb⟩; refine ⟨_, rfl, ?_⟩; replace BK105 := ak (blk_below (bk_ BK105.out) hb); replace HB := ak (below_step (bs1_ HB.out GE105.out) hb); (try clear hb); (try clear hb2); (try clear hk); (try clear hi)))
  go_ret
  exact fin_ (bs1_ HB.out GE105.out)

/-! ### laws_szBindS: function 241 -/
def laws_szBindS.l0 : Nat → List (L_Bind) → Int → Int → Option (Int)
  | 0, _, _, _ => none
  | k + 1, x0, x1, x5 => if x5 < (x0.length : Int) then (if 0 ≤ x5 then ((laws_szBind.f k ((rd_L_Bind x0 x5).f0) ((rd_L_Bind x0 x5).f1.f0) ((rd_L_Bind x0 x5).f1.f1) ((rd_L_Bind x0 x5).f1.f2) x1).bind fun t108 => (if t108 < 0 then (some (-1)) else (laws_szBindS.l0 k x0 t108 (wrap64 (x5 + 1))))) else (none)) else (some x1)
def laws_szBindS.f (k : Nat) (l0 : List (L_Bind)) (a1 : Int) : Option (Int) := if (wrap64 (a1 - (l0.length : Int))) < 0 then (some (-1)) else (laws_szBindS.l0 k l0 (wrap64 (a1 - (l0.length : Int))) 0)
theorem laws_szBindS.mono_l : ∀ k, (∀ y0 y1 y2, LeO (laws_szBindS.l0 k y0 y1 y2) (laws_szBindS.l0 (k + 1) y0 y1 y2))
  | 0 => fun _ _ _ r h => by simp [laws_szBindS.l0] at h
  | k + 1 => by
    have ih0 := laws_szBindS.mono_l k
    · intro y0 y1 y2
      unfold laws_szBindS.l0
      repeat' first | (with_reducible first | exact ih0 _ _ _ | exact laws_szBind.mono _ _ _ _ _ _ | exact LeO.refl _ | exact LeO.none _ | refine LeO.ite ?_ ?_ | refine LeO.bind ?_ (fun _ => ?_)) | exact ih0 _ _ _ | exact laws_szBind.mono _ _ _ _ _ _ | exact LeO.none _ | refine LeO.ite ?_ ?_ | refine LeO.bind ?_ (fun _ => ?_)
theorem laws_szBindS.mono : ∀ a0 a1 k, LeO (laws_szBindS.f k a0 a1) (laws_szBindS.f (k + 1) a0 a1) := by
  intro a0 a1 k; have ih0 := laws_szBindS.mono_l k
  unfold laws_szBindS.f
  repeat' first
      | (with_reducible exact ih0 _ _ _)
      | (with_reducible exact laws_szBind.mono _ _ _ _ _ _)
      | (with_reducible exact LeO.refl _)
      | (with_reducible exact LeO.none _)
      | (with_reducible refine LeO.ite ?_ ?_)
      | (with_reducible refine LeO.bind ?_ (fun _ => ?_))
      | exact ih0 _ _ _
      | exact laws_szBind.mono _ _ _ _ _ _
      | exact LeO.none _
      | refine LeO.ite ?_ ?_
      | refine LeO.bind ?_ (fun _ => ?_)
set_option maxHeartbeats 8000000 in
set_option maxRecDepth 100000 in
theorem laws_szBindS.calls (k : Nat) (A0 : Option Addr) (c0 : Nat) (l0 : List (L_Bind)) (a1 : Int) (r : Int) (w : World) (hr0 : Kd.C k273 w A0 l0.length l0) (hc0 : l0.length ≤ c0) (h : laws_szBindS.f k l0 a1 = some r) :
    Calls Try.prog 241 #[.slice A0 l0.length c0, .int .i64 a1] w fun e w' => e = .returned (.int .i64 r) ∧ Below w.heap.size w w' := by
  have hu273 := Try.underlying273; have HR0 := ak hr0; have HC0 := ak hc0; clear hr0 hc0; have HB := ak (Below.refl w.heap.size w); have H : (if (wrap64 (a1 - (l0.length : Int))) < 0 then (some (-1)) else (laws_szBindS.l0 k l0 (wrap64 (a1 - (l0.length : Int))) 0)) = some r := h; clear h
  by_cases c3 : (wrap64 (a1 - (l0.length : Int))) < 0
  · rw [if_pos c3] at H; have c3b0 := decide_eq_true c3; clear c3; obtain rfl := Option.some.inj H
    go_enter Try.func241, Try.ntmps241
    go_wp2
    go_ret
    exact fin_ (bl_ HB.out)
  rw [if_neg c3] at H; have c3b0 := decide_eq_false c3; clear c3; have H' := ak H; clear H
  go_enter Try.func241, Try.ntmps241
  go_wp2
  go_loopg [1, 5] k (fun kq v1 v5 w' => ∃ (x1_1 : Int) (x5_1 : Int), v1 = .int .i64 x1_1 ∧ v5 = .int .i64 x5_1 ∧ Aside0 (laws_szBindS.l0 kq l0 x1_1 x5_1 = some r) ∧ Aside0 (kq ≤ k) ∧ Aside0 (Below w.heap.size w w'))
  case atStart => exact ⟨(wrap64 (a1 - (l0.length : Int))), (0), (by first | rfl | (simp; done) | (simp [*]; done)), (by first | rfl | (simp; done) | (simp [*]; done)), H', ⟨Nat.le_refl _⟩, ⟨by repeat (first | (with_reducible first | exact HB.out | apply below_alloc | apply pw_below_drewN | apply below_drew1) | exact HB.out)⟩⟩
  case round =>
    clear H'; (try clear c2); (try clear p2); (try clear c3); (try clear c3b0); obtain ⟨x1_1, x5_1, rfl, rfl, HA, HK1, HB⟩ := hrel
    cases gk with
    | zero => exact absurd HA.out (by simp [laws_szBindS.l0])
    | succ k1 =>
      have H := HA.out; clear HA
      simp only [laws_szBindS.l0] at H
      by_cases c4 : x5_1 < (l0.length : Int)
      · rw [if_pos c4] at H; have c4b0 := decide_eq_true c4; clear c4
        by_cases c5 : 0 ≤ x5_1
        · rw [if_pos c5] at H; have c5b0 := decide_eq_true c5; clear c5; replace H := Option.bind_eq_some_iff.mp H; obtain ⟨t108, A60, H⟩ := H; have A6 := ak A60; clear A60
          by_cases c7 : t108 < 0
          · rw [if_pos c7] at H; have c7b0 := decide_eq_true c7; clear c7; obtain rfl := Option.some.inj H; have p107 : 0 ≤ (x5_1 : Int) := as_; have q107 : x5_1 < (l0.length : Int) := as_; obtain ⟨ad107, A107_3, c107_3, e107, hx107_0, hx107_1, hx107_2, hx107_3, hl107_3, hi107_3⟩ := at_T273 HR0.out x5_1 p107 q107
            cases e107
            replace hx107_0 := hbc_ HB.out hx107_0; replace hx107_1 := hbc_ HB.out hx107_1; replace hx107_2 := hbc_ HB.out hx107_2; replace hx107_3 := hbc_ HB.out hx107_3; have HR107_3 := ak hi107_3; have HC107_3 := ak hl107_3; clear hi107_3 hl107_3; replace p107 := eq_true p107; replace q107 := eq_true q107
            go_wp2_with (first | ((with_reducible refine gate_callee (f := 281) rfl ?_); refine goesM_ (some 23) rfl rfl Try.func281 (by kernel_rfl) rfl #[.agg #[.int .i64 ((rd_L_Bind l0 x5_1).f0), .int .i64 ((rd_L_Bind l0 x5_1).f1.f0), .int .i64 ((rd_L_Bind l0 x5_1).f1.f1), .slice A107_3 ((rd_L_Bind l0 x5_1).f1.f2).length c107_3], .int .i64 x1_1] rfl ?_; (with_reducible refine (laws_szBind.calls k1 ((rd_L_Bind l0 x5_1).f0) ((rd_L_Bind l0 x5_1).f1.f0) ((rd_L_Bind l0 x5_1).f1.f1) _ _ ((rd_L_Bind l0 x5_1).f1.f2) x1_1 t108 _ ?side1 ?side2 A6.out).mono ?_); (case side1 => exact cb_ HR107_3.out HB.out); (case side2 => exact HC107_3.out); rintro e w8 ⟨rfl, hb⟩; refine ⟨_, rfl, ?_⟩; replace HB := ak (below_step (bl_ HB.out) hb); (try clear hb); (try clear hb2); (try clear hk); (try clear hi)))
            go_ret
            exact fin_ (bl_ HB.out)
          rw [if_neg c7] at H; have c7b0 := decide_eq_false c7; clear c7; have H' := ak H; clear H; have p107 : 0 ≤ (x5_1 : Int) := as_; have q107 : x5_1 < (l0.length : Int) := as_; obtain ⟨ad107, A107_3, c107_3, e107, hx107_0, hx107_1, hx107_2, hx107_3, hl107_3, hi107_3⟩ := at_T273 HR0.out x5_1 p107 q107
          cases e107
          replace hx107_0 := hbc_ HB.out hx107_0; replace hx107_1 := hbc_ HB.out hx107_1; replace hx107_2 := hbc_ HB.out hx107_2; replace hx107_3 := hbc_ HB.out hx107_3; have HR107_3 := ak hi107_3; have HC107_3 := ak hl107_3; clear hi107_3 hl107_3; replace p107 := eq_true p107; replace q107 := eq_true q107
          go_wp2_with (first | ((with_reducible refine gate_callee (f := 281) rfl ?_); refine goesM_ (some 23) rfl rfl Try.func281 (by kernel_rfl) rfl #[.agg #[.int .i64 ((rd_L_Bind l0 x5_1).f0), .int .i64 ((rd_L_Bind l0 x5_1).f1.f0), .int .i64 ((rd_L_Bind l0 x5_1).f1.f1), .slice A107_3 ((rd_L_Bind l0 x5_1).f1.f2).length c107_3], .int .i64 x1_1] rfl ?_; (with_reducible refine (laws_szBind.calls k1 ((rd_L_Bind l0 x5_1).f0) ((rd_L_Bind l0 x5_1).f1.f0) ((rd_L_Bind l0 x5_1).f1.f1) _ _ ((rd_L_Bind l0 x5_1).f1.f2) x1_1 t108 _ ?side1 ?side2 A6.out).mono ?_); (case side1 => exact cb_ HR107_3.out HB.out); (case side2 => exact HC107_3.out); rintro e w9 ⟨rfl, hb⟩; refine ⟨_, rfl, ?_⟩; replace HB := ak (below_step (bl_ HB.out) hb); (try clear hb); (try clear hb2); (try clear hk); (try clear hi)))
          go_roundg k1
          case measure => have := HK1.out; omega
          case rel => exact ⟨(t108), (wrap64 (x5_1 + 1)), (by first | rfl | (simp; done) | (simp [*]; done)), (by first | rfl | (simp; done) | (simp [*]; done)), H', ⟨by have := HK1.out; omega⟩, ⟨by repeat (first | (with_reducible first | exact HB.out | apply below_alloc | apply pw_below_drewN | apply below_drew1) | exact HB.out)⟩⟩
        rw [if_neg c5] at H; exact absurd H (by simp)
      rw [if_neg c4] at H; have c4b0 := decide_eq_false c4; clear c4; obtain rfl := Option.some.inj H
      go_wp2
      go_ret
      exact fin_ (bl_ HB.out)

/-! ### laws_szLit: function 103 -/
def laws_szLit.f (k : Nat) (a0_0 : Bool) (a0_1 : Int) (a0_2 : Int) (l0_3 : List (L_Term)) (a0_4 : Int) (a0_5 : Int) (l0_6 : List (L_Term)) (a1 : Int) : Option (Int) := (laws_szTerm.f k a0_1 a0_2 l0_3 a1).bind fun t110 => (if t110 < 0 then (some (-1)) else ((laws_szTerm.f k a0_4 a0_5 l0_6 t110).bind fun t111 => (if t111 < 0 then (some (-1)) else (some t111))))
theorem laws_szLit.mono : ∀ a0 a1 a2 a3 a4 a5 a6 a7 k, LeO (laws_szLit.f k a0 a1 a2 a3 a4 a5 a6 a7) (laws_szLit.f (k + 1) a0 a1 a2 a3 a4 a5 a6 a7) := by
  intro a0 a1 a2 a3 a4 a5 a6 a7 k
  unfold laws_szLit.f
  repeat' first
      | (with_reducible exact laws_szTerm.mono _ _ _ _ _)
      | (with_reducible exact LeO.refl _)
      | (with_reducible exact LeO.none _)
      | (with_reducible refine LeO.ite ?_ ?_)
      | (with_reducible refine LeO.bind ?_ (fun _ => ?_))
      | exact laws_szTerm.mono _ _ _ _ _
      | exact LeO.none _
      | refine LeO.ite ?_ ?_
      | refine LeO.bind ?_ (fun _ => ?_)
set_option maxHeartbeats 8000000 in
set_option maxRecDepth 100000 in
theorem laws_szLit.calls (k : Nat) (a0_0 : Bool) (a0_1 : Int) (a0_2 : Int) (A0_3 : Option Addr) (c0_3 : Nat) (l0_3 : List (L_Term)) (a0_4 : Int) (a0_5 : Int) (A0_6 : Option Addr) (c0_6 : Nat) (l0_6 : List (L_Term)) (a1 : Int) (r : Int) (w : World) (hr0_3 : Kd.C k25 w A0_3 l0_3.length l0_3) (hc0_3 : l0_3.length ≤ c0_3) (hr0_6 : Kd.C k25 w A0_6 l0_6.length l0_6) (hc0_6 : l0_6.length ≤ c0_6) (h : laws_szLit.f k a0_0 a0_1 a0_2 l0_3 a0_4 a0_5 l0_6 a1 = some r) :
    Calls Try.prog 103 #[.agg #[.bool a0_0, .int .i64 a0_1, .int .i64 a0_2, .slice A0_3 l0_3.length c0_3, .int .i64 a0_4, .int .i64 a0_5, .slice A0_6 l0_6.length c0_6], .int .i64 a1] w fun e w' => e = .returned (.int .i64 r) ∧ Below w.heap.size w w' := by
  have hu139 := Try.underlying139; have hu25 := Try.underlying25; have HR0_3 := ak hr0_3; have HC0_3 := ak hc0_3; clear hr0_3 hc0_3; have HR0_6 := ak hr0_6; have HC0_6 := ak hc0_6; clear hr0_6 hc0_6; have HB := ak (Below.refl w.heap.size w); have H : ((laws_szTerm.f k a0_1 a0_2 l0_3 a1).bind fun t110 => (if t110 < 0 then (some (-1)) else ((laws_szTerm.f k a0_4 a0_5 l0_6 t110).bind fun t111 => (if t111 < 0 then (some (-1)) else (some t111))))) = some r := h; clear h; replace H := Option.bind_eq_some_iff.mp H; obtain ⟨t110, A30, H⟩ := H; have A3 := ak A30; clear A30
  by_cases c4 : t110 < 0
  · rw [if_pos c4] at H; have c4b0 := decide_eq_true c4; clear c4; obtain rfl := Option.some.inj H
    go_enter Try.func103, Try.ntmps103
    go_wp2_with (first | ((with_reducible refine gate_dst (N := 2) rfl ?_); refine bxe_ (N := 2) (cs := #[.bool a0_0, .int .i64 a0_1, .int .i64 a0_2, .slice A0_3 l0_3.length c0_3, .int .i64 a0_4, .int .i64 a0_5, .slice A0_6 l0_6.length c0_6]) (t := 139) ?_; intro gb109 hg w5 hbox hb; have BK109 := ak (hbox); have GW109 := ak (lg_ hg (bl_ HB.out)); have GE109 := ak (lg_ hg (bl_ HB.out)); replace HB := ak (below_step (bl_ HB.out) hb); clear hb hbox hg; have hcz6_0 := bc_ BK109.out 0; have hcz6_1 := bc_ BK109.out 1; have hcz6_2 := bc_ BK109.out 2; have hcz6_3 := bc_ BK109.out 3; have hcz6_4 := bc_ BK109.out 4; have hcz6_5 := bc_ BK109.out 5; have hcz6_6 := bc_ BK109.out 6; have hfz6_0 := blk_frozen BK109.out 0; have hfz6_1 := blk_frozen BK109.out 1; have hfz6_2 := blk_frozen BK109.out 2; have hfz6_3 := blk_frozen BK109.out 3; have hfz6_4 := blk_frozen BK109.out 4; have hfz6_5 := blk_frozen BK109.out 5; have hfz6_6 := blk_frozen BK109.out 6) | ((with_reducible refine gate_callee (f := 16) rfl ?_); refine goesM_ (some 8) rfl rfl Try.func16 (by kernel_rfl) rfl #[.agg #[.int .i64 a0_1, .int .i64 a0_2, .slice A0_3 l0_3.length c0_3], .int .i64 a1] rfl ?_; (with_reducible refine (laws_szTerm.calls k a0_1 a0_2 _ _ l0_3 a1 t110 _ ?side1 ?side2 A3.out).mono ?_); (case side1 => exact cb_ HR0_3.out HB.out); (case side2 => exact HC0_3.out); rintro e w7 ⟨rfl, hb⟩; refine ⟨_, rfl, ?_⟩; replace BK109 := ak (blk_below (bk_ BK109.out) hb); replace HB := ak (below_step (bs1_ HB.out GE109.out) hb); (try clear hb); (try clear hb2); (try clear hk); (try clear hi)))
    go_ret
    exact fin_ (bs1_ HB.out GE109.out)
  rw [if_neg c4] at H; have c4b0 := decide_eq_false c4; clear c4; replace H := Option.bind_eq_some_iff.mp H; obtain ⟨t111, A80, H⟩ := H; have A8 := ak A80; clear A80
  by_cases c9 : t111 < 0
  · rw [if_pos c9] at H; have c9b0 := decide_eq_true c9; clear c9; obtain rfl := Option.some.inj H
    go_enter Try.func103, Try.ntmps103
    go_wp2_with (first | ((with_reducible refine gate_dst (N := 2) rfl ?_); refine bxe_ (N := 2) (cs := #[.bool a0_0, .int .i64 a0_1, .int .i64 a0_2, .slice A0_3 l0_3.length c0_3, .int .i64 a0_4, .int .i64 a0_5, .slice A0_6 l0_6.length c0_6]) (t := 139) ?_; intro gb109 hg w10 hbox hb; have BK109 := ak (hbox); have GW109 := ak (lg_ hg (bl_ HB.out)); have GE109 := ak (lg_ hg (bl_ HB.out)); replace HB := ak (below_step (bl_ HB.out) hb); clear hb hbox hg; have hcz11_0 := bc_ BK109.out 0; have hcz11_1 := bc_ BK109.out 1; have hcz11_2 := bc_ BK109.out 2; have hcz11_3 := bc_ BK109.out 3; have hcz11_4 := bc_ BK109.out 4; have hcz11_5 := bc_ BK109.out 5; have hcz11_6 := bc_ BK109.out 6; have hfz11_0 := blk_frozen BK109.out 0; have hfz11_1 := blk_frozen BK109.out 1; have hfz11_2 := blk_frozen BK109.out 2; have hfz11_3 := blk_frozen BK109.out 3; have hfz11_4 := blk_frozen BK109.out 4; have hfz11_5 := blk_frozen BK109.out 5; have hfz11_6 := blk_frozen BK109.out 6) | ((with_reducible refine gate_callee (f := 16) rfl ?_); refine goesM_ (some 8) rfl rfl Try.func16 (by kernel_rfl) rfl #[.agg #[.int .i64 a0_1, .int .i64 a0_2, .slice A0_3 l0_3.length c0_3], .int .i64 a1] rfl ?_; (with_reducible refine (laws_szTerm.calls k a0_1 a0_2 _ _ l0_3 a1 t110 _ ?side1 ?side2 A3.out).mono ?_); (case side1 => exact cb_ HR0_3.out HB.out); (case side2 => exact HC0_3.out); rintro e w12 ⟨rfl, hb⟩; refine ⟨_, rfl, ?_⟩; replace BK109 := ak (blk_below (bk_ BK109.out) hb); replace HB := ak (below_step (bs1_ HB.out GE109.out) hb); (try clear hb); (try clear hb2); (try clear hk); (try clear hi); have hcz13_0 := bc_ BK109.out 0; have hcz13_1 := bc_ BK109.out 1; have hcz13_2 := bc_ BK109.out 2; have hcz13_3 := bc_ BK109.out 3; have hcz13_4 := bc_ BK109.out 4; have hcz13_5 := bc_ BK109.out 5; have hcz13_6 := bc_ BK109.out 6; have hfz13_0 := blk_frozen BK109.out 0; have hfz13_1 := blk_frozen BK109.out 1; have hfz13_2 := blk_frozen BK109.out 2; have hfz13_3 := blk_frozen BK109.out 3; have hfz13_4 := blk_frozen BK109.out 4; have hfz13_5 := blk_frozen BK109.out 5; have hfz13_6 := blk_frozen BK109.out 6) | ((with_reducible refine gate_callee (f := 16) rfl ?_); refine goesM_ (some 14) rfl rfl Try.func16 (by kernel_rfl) rfl #[.agg #[.int .i64 a0_4, .int .i64 a0_5, .slice A0_6 l0_6.length c0_6], .int .i64 t110] rfl ?_; (with_reducible refine (laws_szTerm.calls k a0_4 a0_5 _ _ l0_6 t110 t111 _ ?side1 ?side2 A8.out).mono ?_); (case side1 => exact cb_ HR0_6.out HB.out); (case side2 => exact HC0_6.out); rintro e w14 ⟨rfl, hb⟩; refine ⟨_, rfl, ?_⟩; replace BK109 := ak (blk_below (bk_ BK109.out) hb); replace HB := ak (below_step (bs1_ HB.out GE109.out) hb); (try clear hb); (try clear hb2); (try clear hk); (try clear hi)))
    go_ret
    exact fin_ (bs1_ HB.out GE109.out)
  rw [if_neg c9] at H; have c9b0 := decide_eq_false c9; clear c9; obtain rfl := Option.some.inj H
  go_enter Try.func103, Try.ntmps103
  go_wp2_with (first | ((with_reducible refine gate_dst (N := 2) rfl ?_); refine bxe_ (N := 2) (cs := #[.bool a0_0, .int .i64 a0_1, .int .i64 a0_2, .slice A0_3 l0_3.length c0_3, .int .i64 a0_4, .int .i64 a0_5, .slice A0_6 l0_6.length c0_6]) (t := 139) ?_; intro gb109 hg w15 hbox hb; have BK109 := ak (hbox); have GW109 := ak (lg_ hg (bl_ HB.out)); have GE109 := ak (lg_ hg (bl_ HB.out)); replace HB := ak (below_step (bl_ HB.out) hb); clear hb hbox hg; have hcz16_0 := bc_ BK109.out 0; have hcz16_1 := bc_ BK109.out 1; have hcz16_2 := bc_ BK109.out 2; have hcz16_3 := bc_ BK109.out 3; have hcz16_4 := bc_ BK109.out 4; have hcz16_5 := bc_ BK109.out 5; have hcz16_6 := bc_ BK109.out 6; have hfz16_0 := blk_frozen BK109.out 0; have hfz16_1 := blk_frozen BK109.out 1; have hfz16_2 := blk_frozen BK109.out 2; have hfz16_3 := blk_frozen BK109.out 3; have hfz16_4 := blk_frozen BK109.out 4; have hfz16_5 := blk_frozen BK109.out 5; have hfz16_6 := blk_frozen BK109.out 6) | ((with_reducible refine gate_callee (f := 16) rfl ?_); refine goesM_ (some 8) rfl rfl Try.func16 (by kernel_rfl) rfl #[.agg #[.int .i64 a0_1, .int .i64 a0_2, .slice A0_3 l0_3.length c0_3], .int .i64 a1] rfl ?_; (with_reducible refine (laws_szTerm.calls k a0_1 a0_2 _ _ l0_3 a1 t110 _ ?side1 ?side2 A3.out).mono ?_); (case side1 => exact cb_ HR0_3.out HB.out); (case side2 => exact HC0_3.out); rintro e w17 ⟨rfl, hb⟩; refine ⟨_, rfl, ?_⟩; replace BK109 := ak (blk_below (bk_ BK109.out) hb); replace HB := ak (below_step (bs1_ HB.out GE109.out) hb); (try clear hb); (try clear hb2); (try clear hk); (try clear hi); have hcz18_0 := bc_ BK109.out 0; have hcz18_1 := bc_ BK109.out 1; have hcz18_2 := bc_ BK109.out 2; have hcz18_3 := bc_ BK109.out 3; have hcz18_4 := bc_ BK109.out 4; have hcz18_5 := bc_ BK109.out 5; have hcz18_6 := bc_ BK109.out 6; have hfz18_0 := blk_frozen BK109.out 0; have hfz18_1 := blk_frozen BK109.out 1; have hfz18_2 := blk_frozen BK109.out 2; have hfz18_3 := blk_frozen BK109.out 3; have hfz18_4 := blk_frozen BK109.out 4; have hfz18_5 := blk_frozen BK109.out 5; have hfz18_6 := blk_frozen BK109.out 6) | ((with_reducible refine gate_callee (f := 16) rfl ?_); refine goesM_ (some 14) rfl rfl Try.func16 (by kernel_rfl) rfl #[.agg #[.int .i64 a0_4, .int .i64 a0_5, .slice A0_6 l0_6.length c0_6], .int .i64 t110] rfl ?_; (with_reducible refine (laws_szTerm.calls k a0_4 a0_5 _ _ l0_6 t110 t111 _ ?side1 ?side2 A8.out).mono ?_); (case side1 => exact cb_ HR0_6.out HB.out); (case side2 => exact HC0_6.out); rintro e w19 ⟨rfl, hb⟩; refine ⟨_, rfl, ?_⟩; replace BK109 := ak (blk_below (bk_ BK109.out) hb); replace HB := ak (below_step (bs1_ HB.out GE109.out) hb); (try clear hb); (try clear hb2); (try clear hk); (try clear hi)))
  go_ret
  exact fin_ (bs1_ HB.out GE109.out)

/-! ### laws_szLitS: function 15 -/
def laws_szLitS.l0 : Nat → List (L_Lit) → Int → Int → Option (Int)
  | 0, _, _, _ => none
  | k + 1, x0, x1, x5 => if x5 < (x0.length : Int) then (if 0 ≤ x5 then ((laws_szLit.f k ((rd_L_Lit x0 x5).f0) ((rd_L_Lit x0 x5).f1.f0) ((rd_L_Lit x0 x5).f1.f1) ((rd_L_Lit x0 x5).f1.f2) ((rd_L_Lit x0 x5).f2.f0) ((rd_L_Lit x0 x5).f2.f1) ((rd_L_Lit x0 x5).f2.f2) x1).bind fun t113 => (if t113 < 0 then (some (-1)) else (laws_szLitS.l0 k x0 t113 (wrap64 (x5 + 1))))) else (none)) else (some x1)
def laws_szLitS.f (k : Nat) (l0 : List (L_Lit)) (a1 : Int) : Option (Int) := if (wrap64 (a1 - (l0.length : Int))) < 0 then (some (-1)) else (laws_szLitS.l0 k l0 (wrap64 (a1 - (l0.length : Int))) 0)
theorem laws_szLitS.mono_l : ∀ k, (∀ y0 y1 y2, LeO (laws_szLitS.l0 k y0 y1 y2) (laws_szLitS.l0 (k + 1) y0 y1 y2))
  | 0 => fun _ _ _ r h => by simp [laws_szLitS.l0] at h
  | k + 1 => by
    have ih0 := laws_szLitS.mono_l k
    · intro y0 y1 y2
      unfold laws_szLitS.l0
      repeat' first | (with_reducible first | exact ih0 _ _ _ | exact laws_szLit.mono _ _ _ _ _ _ _ _ _ | exact LeO.refl _ | exact LeO.none _ | refine LeO.ite ?_ ?_ | refine LeO.bind ?_ (fun _ => ?_)) | exact ih0 _ _ _ | exact laws_szLit.mono _ _ _ _ _ _ _ _ _ | exact LeO.none _ | refine LeO.ite ?_ ?_ | refine LeO.bind ?_ (fun _ => ?_)
theorem laws_szLitS.mono : ∀ a0 a1 k, LeO (laws_szLitS.f k a0 a1) (laws_szLitS.f (k + 1) a0 a1) := by
  intro a0 a1 k; have ih0 := laws_szLitS.mono_l k
  unfold laws_szLitS.f
  repeat' first
      | (with_reducible exact ih0 _ _ _)
      | (with_reducible exact laws_szLit.mono _ _ _ _ _ _ _ _ _)
      | (with_reducible exact LeO.refl _)
      | (with_reducible exact LeO.none _)
      | (with_reducible refine LeO.ite ?_ ?_)
      | (with_reducible refine LeO.bind ?_ (fun _ => ?_))
      | exact ih0 _ _ _
      | exact laws_szLit.mono _ _ _ _ _ _ _ _ _
      | exact LeO.none _
      | refine LeO.ite ?_ ?_
      | refine LeO.bind ?_ (fun _ => ?_)
set_option maxHeartbeats 8000000 in
set_option maxRecDepth 100000 in
theorem laws_szLitS.calls (k : Nat) (A0 : Option Addr) (c0 : Nat) (l0 : List (L_Lit)) (a1 : Int) (r : Int) (w : World) (hr0 : Kd.C k139 w A0 l0.length l0) (hc0 : l0.length ≤ c0) (h : laws_szLitS.f k l0 a1 = some r) :
    Calls Try.prog 15 #[.slice A0 l0.length c0, .int .i64 a1] w fun e w' => e = .returned (.int .i64 r) ∧ Below w.heap.size w w' := by
  have hu139 := Try.underlying139; have HR0 := ak hr0; have HC0 := ak hc0; clear hr0 hc0; have HB := ak (Below.refl w.heap.size w); have H : (if (wrap64 (a1 - (l0.length : Int))) < 0 then (some (-1)) else (laws_szLitS.l0 k l0 (wrap64 (a1 - (l0.length : Int))) 0)) = some r := h; clear h
  by_cases c3 : (wrap64 (a1 - (l0.length : Int))) < 0
  · rw [if_pos c3] at H; have c3b0 := decide_eq_true c3; clear c3; obtain rfl := Option.some.inj H
    go_enter Try.func15, Try.ntmps15
    go_wp2
    go_ret
    exact fin_ (bl_ HB.out)
  rw [if_neg c3] at H; have c3b0 := decide_eq_false c3; clear c3; have H' := ak H; clear H
  go_enter Try.func15, Try.ntmps15
  go_wp2
  go_loopg [1, 5] k (fun kq v1 v5 w' => ∃ (x1_1 : Int) (x5_1 : Int), v1 = .int .i64 x1_1 ∧ v5 = .int .i64 x5_1 ∧ Aside0 (laws_szLitS.l0 kq l0 x1_1 x5_1 = some r) ∧ Aside0 (kq ≤ k) ∧ Aside0 (Below w.heap.size w w'))
  case atStart => exact ⟨(wrap64 (a1 - (l0.length : Int))), (0), (by first | rfl | (simp; done) | (simp [*]; done)), (by first | rfl | (simp; done) | (simp [*]; done)), H', ⟨Nat.le_refl _⟩, ⟨by repeat (first | (with_reducible first | exact HB.out | apply below_alloc | apply pw_below_drewN | apply below_drew1) | exact HB.out)⟩⟩
  case round =>
    clear H'; (try clear c1); (try clear p2); (try clear c3); (try clear c3b0); obtain ⟨x1_1, x5_1, rfl, rfl, HA, HK1, HB⟩ := hrel
    cases gk with
    | zero => exact absurd HA.out (by simp [laws_szLitS.l0])
    | succ k1 =>
      have H := HA.out; clear HA
      simp only [laws_szLitS.l0] at H
      by_cases c4 : x5_1 < (l0.length : Int)
      · rw [if_pos c4] at H; have c4b0 := decide_eq_true c4; clear c4
        by_cases c5 : 0 ≤ x5_1
        · rw [if_pos c5] at H; have c5b0 := decide_eq_true c5; clear c5; replace H := Option.bind_eq_some_iff.mp H; obtain ⟨t113, A60, H⟩ := H; have A6 := ak A60; clear A60
          by_cases c7 : t113 < 0
          · rw [if_pos c7] at H; have c7b0 := decide_eq_true c7; clear c7; obtain rfl := Option.some.inj H; have p112 : 0 ≤ (x5_1 : Int) := as_; have q112 : x5_1 < (l0.length : Int) := as_; obtain ⟨ad112, A112_3, c112_3, A112_6, c112_6, e112, hx112_0, hx112_1, hx112_2, hx112_3, hx112_4, hx112_5, hx112_6, hl112_3, hi112_3, hl112_6, hi112_6⟩ := at_T139 HR0.out x5_1 p112 q112
            cases e112
            replace hx112_0 := hbc_ HB.out hx112_0; replace hx112_1 := hbc_ HB.out hx112_1; replace hx112_2 := hbc_ HB.out hx112_2; replace hx112_3 := hbc_ HB.out hx112_3; replace hx112_4 := hbc_ HB.out hx112_4; replace hx112_5 := hbc_ HB.out hx112_5; replace hx112_6 := hbc_ HB.out hx112_6; have HR112_3 := ak hi112_3; have HC112_3 := ak hl112_3; clear hi112_3 hl112_3; have HR112_6 := ak hi112_6; have HC112_6 := ak hl112_6; clear hi112_6 hl112_6; replace p112 := eq_true p112; replace q112 := eq_true q112
            go_wp2_with (first | ((with_reducible refine gate_callee (f := 103) rfl ?_); refine goesM_ (some 23) rfl rfl Try.func103 (by kernel_rfl) rfl #[.agg #[.bool ((rd_L_Lit l0 x5_1).f0), .int .i64 ((rd_L_Lit l0 x5_1).f1.f0), .int .i64 ((rd_L_Lit l0 x5_1).f1.f1), .slice A112_3 ((rd_L_Lit l0 x5_1).f1.f2).length c112_3, .int .i64 ((rd_L_Lit l0 x5_1).f2.f0), .int .i64 ((rd_L_Lit l0 x5_1).f2.f1), .slice A112_6 ((rd_L_Lit l0 x5_1).f2.f2).length c112_6], .int .i64 x1_1] rfl ?_; (with_reducible refine (laws_szLit.calls k1 ((rd_L_Lit l0 x5_1).f0) ((rd_L_Lit l0 x5_1).f1.f0) ((rd_L_Lit l0 x5_1).f1.f1) _ _ ((rd_L_Lit l0 x5_1).f1.f2) ((rd_L_Lit l0 x5_1).f2.f0) ((rd_L_Lit l0 x5_1).f2.f1) _ _ ((rd_L_Lit l0 x5_1).f2.f2) x1_1 t113 _ ?side1 ?side2 ?side3 ?side4 A6.out).mono ?_); (case side1 => exact cb_ HR112_3.out HB.out); (case side2 => exact HC112_3.out); (case side3 => exact cb_ HR112_6.out HB.out); (case side4 => exact HC112_6.out); rintro e w8 ⟨rfl, hb⟩; refine ⟨_, rfl, ?_⟩; replace HB := ak (below_step (bl_ HB.out) hb); (try clear hb); (try clear hb2); (try clear hk); (try clear hi)))
            go_ret
            exact fin_ (bl_ HB.out)
          rw [if_neg c7] at H; have c7b0 := decide_eq_false c7; clear c7; have H' := ak H; clear H; have p112 : 0 ≤ (x5_1 : Int) := as_; have q112 : x5_1 < (l0.length : Int) := as_; obtain ⟨ad112, A112_3, c112_3, A112_6, c112_6, e112, hx112_0, hx112_1, hx112_2, hx112_3, hx112_4, hx112_5, hx112_6, hl112_3, hi112_3, hl112_6, hi112_6⟩ := at_T139 HR0.out x5_1 p112 q112
          cases e112
          replace hx112_0 := hbc_ HB.out hx112_0; replace hx112_1 := hbc_ HB.out hx112_1; replace hx112_2 := hbc_ HB.out hx112_2; replace hx112_3 := hbc_ HB.out hx112_3; replace hx112_4 := hbc_ HB.out hx112_4; replace hx112_5 := hbc_ HB.out hx112_5; replace hx112_6 := hbc_ HB.out hx112_6; have HR112_3 := ak hi112_3; have HC112_3 := ak hl112_3; clear hi112_3 hl112_3; have HR112_6 := ak hi112_6; have HC112_6 := ak hl112_6; clear hi112_6 hl112_6; replace p112 := eq_true p112; replace q112 := eq_true q112
          go_wp2_with (first | ((with_reducible refine gate_callee (f := 103) rfl ?_); refine goesM_ (some 23) rfl rfl Try.func103 (by kernel_rfl) rfl #[.agg #[.bool ((rd_L_Lit l0 x5_1).f0), .int .i64 ((rd_L_Lit l0 x5_1).f1.f0), .int .i64 ((rd_L_Lit l0 x5_1).f1.f1), .slice A112_3 ((rd_L_Lit l0 x5_1).f1.f2).length c112_3, .int .i64 ((rd_L_Lit l0 x5_1).f2.f0), .int .i64 ((rd_L_Lit l0 x5_1).f2.f1), .slice A112_6 ((rd_L_Lit l0 x5_1).f2.f2).length c112_6], .int .i64 x1_1] rfl ?_; (with_reducible refine (laws_szLit.calls k1 ((rd_L_Lit l0 x5_1).f0) ((rd_L_Lit l0 x5_1).f1.f0) ((rd_L_Lit l0 x5_1).f1.f1) _ _ ((rd_L_Lit l0 x5_1).f1.f2) ((rd_L_Lit l0 x5_1).f2.f0) ((rd_L_Lit l0 x5_1).f2.f1) _ _ ((rd_L_Lit l0 x5_1).f2.f2) x1_1 t113 _ ?side1 ?side2 ?side3 ?side4 A6.out).mono ?_); (case side1 => exact cb_ HR112_3.out HB.out); (case side2 => exact HC112_3.out); (case side3 => exact cb_ HR112_6.out HB.out); (case side4 => exact HC112_6.out); rintro e w9 ⟨rfl, hb⟩; refine ⟨_, rfl, ?_⟩; replace HB := ak (below_step (bl_ HB.out) hb); (try clear hb); (try clear hb2); (try clear hk); (try clear hi)))
          go_roundg k1
          case measure => have := HK1.out; omega
          case rel => exact ⟨(t113), (wrap64 (x5_1 + 1)), (by first | rfl | (simp; done) | (simp [*]; done)), (by first | rfl | (simp; done) | (simp [*]; done)), H', ⟨by have := HK1.out; omega⟩, ⟨by repeat (first | (with_reducible first | exact HB.out | apply below_alloc | apply pw_below_drewN | apply below_drew1) | exact HB.out)⟩⟩
        rw [if_neg c5] at H; exact absurd H (by simp)
      rw [if_neg c4] at H; have c4b0 := decide_eq_false c4; clear c4; obtain rfl := Option.some.inj H
      go_wp2
      go_ret
      exact fin_ (bl_ HB.out)

/-! ### laws_szClause: function 242 -/
def laws_szClause.f (k : Nat) (l0_0 : List (L_Lit)) (a1 : Int) : Option (Int) := (laws_szLitS.f k l0_0 a1).bind fun t115 => (if t115 < 0 then (some (-1)) else (some t115))
theorem laws_szClause.mono : ∀ a0 a1 k, LeO (laws_szClause.f k a0 a1) (laws_szClause.f (k + 1) a0 a1) := by
  intro a0 a1 k
  unfold laws_szClause.f
  repeat' first
      | (with_reducible exact laws_szLitS.mono _ _ _)
      | (with_reducible exact LeO.refl _)
      | (with_reducible exact LeO.none _)
      | (with_reducible refine LeO.ite ?_ ?_)
      | (with_reducible refine LeO.bind ?_ (fun _ => ?_))
      | exact laws_szLitS.mono _ _ _
      | exact LeO.none _
      | refine LeO.ite ?_ ?_
      | refine LeO.bind ?_ (fun _ => ?_)
set_option maxHeartbeats 8000000 in
set_option maxRecDepth 100000 in
theorem laws_szClause.calls (k : Nat) (A0_0 : Option Addr) (c0_0 : Nat) (l0_0 : List (L_Lit)) (a1 : Int) (r : Int) (w : World) (hr0_0 : Kd.C k139 w A0_0 l0_0.length l0_0) (hc0_0 : l0_0.length ≤ c0_0) (h : laws_szClause.f k l0_0 a1 = some r) :
    Calls Try.prog 242 #[.agg #[.slice A0_0 l0_0.length c0_0], .int .i64 a1] w fun e w' => e = .returned (.int .i64 r) ∧ Below w.heap.size w w' := by
  have hu187 := Try.underlying187; have HR0_0 := ak hr0_0; have HC0_0 := ak hc0_0; clear hr0_0 hc0_0; have HB := ak (Below.refl w.heap.size w); have H : ((laws_szLitS.f k l0_0 a1).bind fun t115 => (if t115 < 0 then (some (-1)) else (some t115))) = some r := h; clear h; replace H := Option.bind_eq_some_iff.mp H; obtain ⟨t115, A30, H⟩ := H; have A3 := ak A30; clear A30
  by_cases c4 : t115 < 0
  · rw [if_pos c4] at H; have c4b0 := decide_eq_true c4; clear c4; obtain rfl := Option.some.inj H
    go_enter Try.func242, Try.ntmps242
    go_wp2_with (first | ((with_reducible refine gate_dst (N := 2) rfl ?_); refine bxe_ (N := 2) (cs := #[.slice A0_0 l0_0.length c0_0]) (t := 187) ?_; intro gb114 hg w5 hbox hb; have BK114 := ak (hbox); have GW114 := ak (lg_ hg (bl_ HB.out)); have GE114 := ak (lg_ hg (bl_ HB.out)); replace HB := ak (below_step (bl_ HB.out) hb); clear hb hbox hg; have hcz6_0 := bc_ BK114.out 0; have hfz6_0 := blk_frozen BK114.out 0) | ((with_reducible refine gate_callee (f := 15) rfl ?_); refine goesM_ (some 8) rfl rfl Try.func15 (by kernel_rfl) rfl #[.slice A0_0 l0_0.length c0_0, .int .i64 a1] rfl ?_; (with_reducible refine (laws_szLitS.calls k _ _ l0_0 a1 t115 _ ?side1 ?side2 A3.out).mono ?_); (case side1 => exact cb_ HR0_0.out HB.out); (case side2 => exact HC0_0.out); rintro e w7 ⟨rfl, hb⟩; refine ⟨_, rfl, ?_⟩; replace BK114 := ak (blk_below (bk_ BK114.out) hb); replace HB := ak (below_step (bs1_ HB.out GE114.out) hb); (try clear hb); (try clear hb2); (try clear hk); (try clear hi)))
    go_ret
    exact fin_ (bs1_ HB.out GE114.out)
  rw [if_neg c4] at H; have c4b0 := decide_eq_false c4; clear c4; obtain rfl := Option.some.inj H
  go_enter Try.func242, Try.ntmps242
  go_wp2_with (first | ((with_reducible refine gate_dst (N := 2) rfl ?_); refine bxe_ (N := 2) (cs := #[.slice A0_0 l0_0.length c0_0]) (t := 187) ?_; intro gb114 hg w8 hbox hb; have BK114 := ak (hbox); have GW114 := ak (lg_ hg (bl_ HB.out)); have GE114 := ak (lg_ hg (bl_ HB.out)); replace HB := ak (below_step (bl_ HB.out) hb); clear hb hbox hg; have hcz9_0 := bc_ BK114.out 0; have hfz9_0 := blk_frozen BK114.out 0) | ((with_reducible refine gate_callee (f := 15) rfl ?_); refine goesM_ (some 8) rfl rfl Try.func15 (by kernel_rfl) rfl #[.slice A0_0 l0_0.length c0_0, .int .i64 a1] rfl ?_; (with_reducible refine (laws_szLitS.calls k _ _ l0_0 a1 t115 _ ?side1 ?side2 A3.out).mono ?_); (case side1 => exact cb_ HR0_0.out HB.out); (case side2 => exact HC0_0.out); rintro e w10 ⟨rfl, hb⟩; refine ⟨_, rfl, ?_⟩; replace BK114 := ak (blk_below (bk_ BK114.out) hb); replace HB := ak (below_step (bs1_ HB.out GE114.out) hb); (try clear hb); (try clear hb2); (try clear hk); (try clear hi)))
  go_ret
  exact fin_ (bs1_ HB.out GE114.out)

/-! ### laws_szStep: function 164 -/
def laws_szStep.f (k : Nat) (a0_0 : Int) (a0_1 : Int) (a0_2 : Int) (a0_3 : Int) (a0_4 : Int) (a0_5 : Bool) (a0_6 : Bool) (l0_7 : List Int) (a0_8 : Bool) (l0_9 : List (L_Bind)) (l0_10 : List (L_Lit)) (a1 : Int) : Option (Int) := (laws_szIntS.f l0_7 a1).bind fun t117 => (if t117 < 0 then (some (-1)) else ((laws_szBindS.f k l0_9 t117).bind fun t118 => (if t118 < 0 then (some (-1)) else ((laws_szClause.f k l0_10 t118).bind fun t119 => (if t119 < 0 then (some (-1)) else (some t119))))))
theorem laws_szStep.mono : ∀ a0 a1 a2 a3 a4 a5 a6 a7 a8 a9 a10 a11 k, LeO (laws_szStep.f k a0 a1 a2 a3 a4 a5 a6 a7 a8 a9 a10 a11) (laws_szStep.f (k + 1) a0 a1 a2 a3 a4 a5 a6 a7 a8 a9 a10 a11) := by
  intro a0 a1 a2 a3 a4 a5 a6 a7 a8 a9 a10 a11 k
  unfold laws_szStep.f
  repeat' first
      | (with_reducible exact laws_szBindS.mono _ _ _)
      | (with_reducible exact laws_szClause.mono _ _ _)
      | (with_reducible exact LeO.refl _)
      | (with_reducible exact LeO.none _)
      | (with_reducible refine LeO.ite ?_ ?_)
      | (with_reducible refine LeO.bind ?_ (fun _ => ?_))
      | exact laws_szBindS.mono _ _ _
      | exact laws_szClause.mono _ _ _
      | exact LeO.none _
      | refine LeO.ite ?_ ?_
      | refine LeO.bind ?_ (fun _ => ?_)
set_option maxHeartbeats 8000000 in
set_option maxRecDepth 100000 in
theorem laws_szStep.calls (k : Nat) (a0_0 : Int) (a0_1 : Int) (a0_2 : Int) (a0_3 : Int) (a0_4 : Int) (a0_5 : Bool) (a0_6 : Bool) (A0_7 : Option Addr) (c0_7 : Nat) (l0_7 : List Int) (a0_8 : Bool) (A0_9 : Option Addr) (c0_9 : Nat) (l0_9 : List (L_Bind)) (A0_10 : Option Addr) (c0_10 : Nat) (l0_10 : List (L_Lit)) (a1 : Int) (r : Int) (w : World) (hr0_7 : Kd.C (Kd.int .i64) w A0_7 l0_7.length l0_7) (hc0_7 : l0_7.length ≤ c0_7) (hr0_9 : Kd.C k273 w A0_9 l0_9.length l0_9) (hc0_9 : l0_9.length ≤ c0_9) (hr0_10 : Kd.C k139 w A0_10 l0_10.length l0_10) (hc0_10 : l0_10.length ≤ c0_10) (h : laws_szStep.f k a0_0 a0_1 a0_2 a0_3 a0_4 a0_5 a0_6 l0_7 a0_8 l0_9 l0_10 a1 = some r) :
    Calls Try.prog 164 #[.agg #[.int .i64 a0_0, .int .i64 a0_1, .int .i64 a0_2, .int .i64 a0_3, .int .i64 a0_4, .bool a0_5, .bool a0_6, .slice A0_7 l0_7.length c0_7, .bool a0_8, .slice A0_9 l0_9.length c0_9, .slice A0_10 l0_10.length c0_10], .int .i64 a1] w fun e w' => e = .returned (.int .i64 r) ∧ Below w.heap.size w w' := by
  have hu189 := Try.underlying189; have hu187 := Try.underlying187; have HR0_7 := ak hr0_7; have HC0_7 := ak hc0_7; clear hr0_7 hc0_7; have HR0_9 := ak hr0_9; have HC0_9 := ak hc0_9; clear hr0_9 hc0_9; have HR0_10 := ak hr0_10; have HC0_10 := ak hc0_10; clear hr0_10 hc0_10; have HB := ak (Below.refl w.heap.size w); have H : ((laws_szIntS.f l0_7 a1).bind fun t117 => (if t117 < 0 then (some (-1)) else ((laws_szBindS.f k l0_9 t117).bind fun t118 => (if t118 < 0 then (some (-1)) else ((laws_szClause.f k l0_10 t118).bind fun t119 => (if t119 < 0 then (some (-1)) else (some t119))))))) = some r := h; clear h; replace H := Option.bind_eq_some_iff.mp H; obtain ⟨t117, A30, H⟩ := H; have A3 := ak A30; clear A30
  by_cases c4 : t117 < 0
  · rw [if_pos c4] at H; have c4b0 := decide_eq_true c4; clear c4; obtain rfl := Option.some.inj H
    go_enter Try.func164, Try.ntmps164
    go_wp2_with (first | ((with_reducible refine gate_dst (N := 2) rfl ?_); refine bxe_ (N := 2) (cs := #[.int .i64 a0_0, .int .i64 a0_1, .int .i64 a0_2, .int .i64 a0_3, .int .i64 a0_4, .bool a0_5, .bool a0_6, .slice A0_7 l0_7.length c0_7, .bool a0_8, .slice A0_9 l0_9.length c0_9, .slice A0_10 l0_10.length c0_10]) (t := 189) ?_; intro gb116 hg w5 hbox hb; have BK116 := ak (hbox); have GW116 := ak (lg_ hg (bl_ HB.out)); have GE116 := ak (lg_ hg (bl_ HB.out)); replace HB := ak (below_step (bl_ HB.out) hb); clear hb hbox hg; have hcz6_0 := bc_ BK116.out 0; have hcz6_1 := bc_ BK116.out 1; have hcz6_2 := bc_ BK116.out 2; have hcz6_3 := bc_ BK116.out 3; have hcz6_4 := bc_ BK116.out 4; have hcz6_5 := bc_ BK116.out 5; have hcz6_6 := bc_ BK116.out 6; have hcz6_7 := bc_ BK116.out 7; have hcz6_8 := bc_ BK116.out 8; have hcz6_9 := bc_ BK116.out 9; have hcz6_10 := bc_ BK116.out 10; have hfz6_0 := blk_frozen BK116.out 0; have hfz6_1 := blk_frozen BK116.out 1; have hfz6_2 := blk_frozen BK116.out 2; have hfz6_3 := blk_frozen BK116.out 3; have hfz6_4 := blk_frozen BK116.out 4; have hfz6_5 := blk_frozen BK116.out 5; have hfz6_6 := blk_frozen BK116.out 6; have hfz6_7 := blk_frozen BK116.out 7; have hfz6_8 := blk_frozen BK116.out 8; have hfz6_9 := blk_frozen BK116.out 9; have hfz6_10 := blk_frozen BK116.out 10) | ((with_reducible refine gate_callee (f := 240) rfl ?_); refine goesM_ (some 8) rfl rfl Try.func240 (by kernel_rfl) rfl #[.slice A0_7 l0_7.length c0_7, .int .i64 a1] rfl ?_; (with_reducible refine (laws_szIntS.calls _ _ l0_7 a1 t117 _ ?side1 ?side2 A3.out).mono ?_); (case side1 => exact cb_ HR0_7.out HB.out); (case side2 => exact HC0_7.out); rintro e w' ⟨rfl, ⟨nd, rfl⟩⟩; refine ⟨_, rfl, ?_⟩))
    go_ret
    exact fin_ (bs1_ HB.out GE116.out)
  rw [if_neg c4] at H; have c4b0 := decide_eq_false c4; clear c4; replace H := Option.bind_eq_some_iff.mp H; obtain ⟨t118, A70, H⟩ := H; have A7 := ak A70; clear A70
  by_cases c8 : t118 < 0
  · rw [if_pos c8] at H; have c8b0 := decide_eq_true c8; clear c8; obtain rfl := Option.some.inj H
    go_enter Try.func164, Try.ntmps164
    go_wp2_with (first | ((with_reducible refine gate_dst (N := 2) rfl ?_); refine bxe_ (N := 2) (cs := #[.int .i64 a0_0, .int .i64 a0_1, .int .i64 a0_2, .int .i64 a0_3, .int .i64 a0_4, .bool a0_5, .bool a0_6, .slice A0_7 l0_7.length c0_7, .bool a0_8, .slice A0_9 l0_9.length c0_9, .slice A0_10 l0_10.length c0_10]) (t := 189) ?_; intro gb116 hg w9 hbox hb; have BK116 := ak (hbox); have GW116 := ak (lg_ hg (bl_ HB.out)); have GE116 := ak (lg_ hg (bl_ HB.out)); replace HB := ak (below_step (bl_ HB.out) hb); clear hb hbox hg; have hcz10_0 := bc_ BK116.out 0; have hcz10_1 := bc_ BK116.out 1; have hcz10_2 := bc_ BK116.out 2; have hcz10_3 := bc_ BK116.out 3; have hcz10_4 := bc_ BK116.out 4; have hcz10_5 := bc_ BK116.out 5; have hcz10_6 := bc_ BK116.out 6; have hcz10_7 := bc_ BK116.out 7; have hcz10_8 := bc_ BK116.out 8; have hcz10_9 := bc_ BK116.out 9; have hcz10_10 := bc_ BK116.out 10; have hfz10_0 := blk_frozen BK116.out 0; have hfz10_1 := blk_frozen BK116.out 1; have hfz10_2 := blk_frozen BK116.out 2; have hfz10_3 := blk_frozen BK116.out 3; have hfz10_4 := blk_frozen BK116.out 4; have hfz10_5 := blk_frozen BK116.out 5; have hfz10_6 := blk_frozen BK116.out 6; have hfz10_7 := blk_frozen BK116.out 7; have hfz10_8 := blk_frozen BK116.out 8; have hfz10_9 := blk_frozen BK116.out 9; have hfz10_10 := blk_frozen BK116.out 10) | ((with_reducible refine gate_callee (f := 240) rfl ?_); refine goesM_ (some 8) rfl rfl Try.func240 (by kernel_rfl) rfl #[.slice A0_7 l0_7.length c0_7, .int .i64 a1] rfl ?_; (with_reducible refine (laws_szIntS.calls _ _ l0_7 a1 t117 _ ?side1 ?side2 A3.out).mono ?_); (case side1 => exact cb_ HR0_7.out HB.out); (case side2 => exact HC0_7.out); rintro e w' ⟨rfl, ⟨nd, rfl⟩⟩; refine ⟨_, rfl, ?_⟩) | ((with_reducible refine gate_callee (f := 241) rfl ?_); refine goesM_ (some 14) rfl rfl Try.func241 (by kernel_rfl) rfl #[.slice A0_9 l0_9.length c0_9, .int .i64 t117] rfl ?_; (with_reducible refine (laws_szBindS.calls k _ _ l0_9 t117 t118 _ ?side1 ?side2 A7.out).mono ?_); (case side1 => exact ca_ (Kd.C_below HR0_9.out (bs1_ HB.out GE116.out))); (case side2 => exact HC0_9.out); rintro e w11 ⟨rfl, hb⟩; refine ⟨_, rfl, ?_⟩; replace BK116 := ak (blk_below (bk_ BK116.out) hb); replace HB := ak (below_step (bs1_ HB.out GE116.out) hb); (try clear hb); (try clear hb2); (try clear hk); (try clear hi)))
    go_ret
    exact fin_ (bs1_ HB.out GE116.out)
  rw [if_neg c8] at H; have c8b0 := decide_eq_false c8; clear c8; replace H := Option.bind_eq_some_iff.mp H; obtain ⟨t119, A120, H⟩ := H; have A12 := ak A120; clear A120
  by_cases c13 : t119 < 0
  · rw [if_pos c13] at H; have c13b0 := decide_eq_true c13; clear c13; obtain rfl := Option.some.inj H
    go_enter Try.func164, Try.ntmps164
    go_wp2_with (first | ((with_reducible refine gate_dst (N := 2) rfl ?_); refine bxe_ (N := 2) (cs := #[.int .i64 a0_0, .int .i64 a0_1, .int .i64 a0_2, .int .i64 a0_3, .int .i64 a0_4, .bool a0_5, .bool a0_6, .slice A0_7 l0_7.length c0_7, .bool a0_8, .slice A0_9 l0_9.length c0_9, .slice A0_10 l0_10.length c0_10]) (t := 189) ?_; intro gb116 hg w14 hbox hb; have BK116 := ak (hbox); have GW116 := ak (lg_ hg (bl_ HB.out)); have GE116 := ak (lg_ hg (bl_ HB.out)); replace HB := ak (below_step (bl_ HB.out) hb); clear hb hbox hg; have hcz15_0 := bc_ BK116.out 0; have hcz15_1 := bc_ BK116.out 1; have hcz15_2 := bc_ BK116.out 2; have hcz15_3 := bc_ BK116.out 3; have hcz15_4 := bc_ BK116.out 4; have hcz15_5 := bc_ BK116.out 5; have hcz15_6 := bc_ BK116.out 6; have hcz15_7 := bc_ BK116.out 7; have hcz15_8 := bc_ BK116.out 8; have hcz15_9 := bc_ BK116.out 9; have hcz15_10 := bc_ BK116.out 10; have hfz15_0 := blk_frozen BK116.out 0; have hfz15_1 := blk_frozen BK116.out 1; have hfz15_2 := blk_frozen BK116.out 2; have hfz15_3 := blk_frozen BK116.out 3; have hfz15_4 := blk_frozen BK116.out 4; have hfz15_5 := blk_frozen BK116.out 5; have hfz15_6 := blk_frozen BK116.out 6; have hfz15_7 := blk_frozen BK116.out 7; have hfz15_8 := blk_frozen BK116.out 8; have hfz15_9 := blk_frozen BK116.out 9; have hfz15_10 := blk_frozen BK116.out 10) | ((with_reducible refine gate_callee (f := 240) rfl ?_); refine goesM_ (some 8) rfl rfl Try.func240 (by kernel_rfl) rfl #[.slice A0_7 l0_7.length c0_7, .int .i64 a1] rfl ?_; (with_reducible refine (laws_szIntS.calls _ _ l0_7 a1 t117 _ ?side1 ?side2 A3.out).mono ?_); (case side1 => exact cb_ HR0_7.out HB.out); (case side2 => exact HC0_7.out); rintro e w' ⟨rfl, ⟨nd, rfl⟩⟩; refine ⟨_, rfl, ?_⟩) | ((with_reducible refine gate_callee (f := 241) rfl ?_); refine goesM_ (some 14) rfl rfl Try.func241 (by kernel_rfl) rfl #[.slice A0_9 l0_9.length c0_9, .int .i64 t117] rfl ?_; (with_reducible refine (laws_szBindS.calls k _ _ l0_9 t117 t118 _ ?side1 ?side2 A7.out).mono ?_); (case side1 => exact ca_ (Kd.C_below HR0_9.out (bs1_ HB.out GE116.out))); (case side2 => exact HC0_9.out); rintro e w16 ⟨rfl, hb⟩; refine ⟨_, rfl, ?_⟩; replace BK116 := ak (blk_below (bk_ BK116.out) hb); replace HB := ak (below_step (bs1_ HB.out GE116.out) hb); (try clear hb); (try clear hb2); (try clear hk); (try clear hi); have hcz17_0 := bc_ BK116.out 0; have hcz17_1 := bc_ BK116.out 1; have hcz17_2 := bc_ BK116.out 2; have hcz17_3 := bc_ BK116.out 3; have hcz17_4 := bc_ BK116.out 4; have hcz17_5 := bc_ BK116.out 5; have hcz17_6 := bc_ BK116.out 6; have hcz17_7 := bc_ BK116.out 7; have hcz17_8 := bc_ BK116.out 8; have hcz17_9 := bc_ BK116.out 9; have hcz17_10 := bc_ BK116.out 10; have hfz17_0 := blk_frozen BK116.out 0; have hfz17_1 := blk_frozen BK116.out 1; have hfz17_2 := blk_frozen BK116.out 2; have hfz17_3 := blk_frozen BK116.out 3; have hfz17_4 := blk_frozen BK116.out 4; have hfz17_5 := blk_frozen BK116.out 5; have hfz17_6 := blk_frozen BK116.out 6; have hfz17_7 := blk_frozen BK116.out 7; have hfz17_8 := blk_frozen BK116.out 8; have hfz17_9 := blk_frozen BK116.out 9; have hfz17_10 := blk_frozen BK116.out 10) | ((with_reducible refine gate_callee (f := 242) rfl ?_); refine goesM_ (some 20) rfl rfl Try.func242 (by kernel_rfl) rfl #[.agg #[.slice A0_10 l0_10.length c0_10], .int .i64 t118] rfl ?_; (with_reducible refine (laws_szClause.calls k _ _ l0_10 t118 t119 _ ?side1 ?side2 A12.out).mono ?_); (case side1 => exact cb_ HR0_10.out HB.out); (case side2 => exact HC0_10.out); rintro e w18 ⟨rfl, hb⟩; refine ⟨_, rfl, ?_⟩; replace BK116 := ak (blk_below (bk_ BK116.out) hb); replace HB := ak (below_step (bs1_ HB.out GE116.out) hb); (try clear hb); (try clear hb2); (try clear hk); (try clear hi)))
    go_ret
    exact fin_ (bs1_ HB.out GE116.out)
  rw [if_neg c13] at H; have c13b0 := decide_eq_false c13; clear c13; obtain rfl := Option.some.inj H
  go_enter Try.func164, Try.ntmps164
  go_wp2_with (first | ((with_reducible refine gate_dst (N := 2) rfl ?_); refine bxe_ (N := 2) (cs := #[.int .i64 a0_0, .int .i64 a0_1, .int .i64 a0_2, .int .i64 a0_3, .int .i64 a0_4, .bool a0_5, .bool a0_6, .slice A0_7 l0_7.length c0_7, .bool a0_8, .slice A0_9 l0_9.length c0_9, .slice A0_10 l0_10.length c0_10]) (t := 189) ?_; intro gb116 hg w19 hbox hb; have BK116 := ak (hbox); have GW116 := ak (lg_ hg (bl_ HB.out)); have GE116 := ak (lg_ hg (bl_ HB.out)); replace HB := ak (below_step (bl_ HB.out) hb); clear hb hbox hg; have hcz20_0 := bc_ BK116.out 0; have hcz20_1 := bc_ BK116.out 1; have hcz20_2 := bc_ BK116.out 2; have hcz20_3 := bc_ BK116.out 3; have hcz20_4 := bc_ BK116.out 4; have hcz20_5 := bc_ BK116.out 5; have hcz20_6 := bc_ BK116.out 6; have hcz20_7 := bc_ BK116.out 7; have hcz20_8 := bc_ BK116.out 8; have hcz20_9 := bc_ BK116.out 9; have hcz20_10 := bc_ BK116.out 10; have hfz20_0 := blk_frozen BK116.out 0; have hfz20_1 := blk_frozen BK116.out 1; have hfz20_2 := blk_frozen BK116.out 2; have hfz20_3 := blk_frozen BK116.out 3; have hfz20_4 := blk_frozen BK116.out 4; have hfz20_5 := blk_frozen BK116.out 5; have hfz20_6 := blk_frozen BK116.out 6; have hfz20_7 := blk_frozen BK116.out 7; have hfz20_8 := blk_frozen BK116.out 8; have hfz20_9 := blk_frozen BK116.out 9; have hfz20_10 := blk_frozen BK116.out 10) | ((with_reducible refine gate_callee (f := 240) rfl ?_); refine goesM_ (some 8) rfl rfl Try.func240 (by kernel_rfl) rfl #[.slice A0_7 l0_7.length c0_7, .int .i64 a1] rfl ?_; (with_reducible refine (laws_szIntS.calls _ _ l0_7 a1 t117 _ ?side1 ?side2 A3.out).mono ?_); (case side1 => exact cb_ HR0_7.out HB.out); (case side2 => exact HC0_7.out); rintro e w' ⟨rfl, ⟨nd, rfl⟩⟩; refine ⟨_, rfl, ?_⟩) | ((with_reducible refine gate_callee (f := 241) rfl ?_); refine goesM_ (some 14) rfl rfl Try.func241 (by kernel_rfl) rfl #[.slice A0_9 l0_9.length c0_9, .int .i64 t117] rfl ?_; (with_reducible refine (laws_szBindS.calls k _ _ l0_9 t117 t118 _ ?side1 ?side2 A7.out).mono ?_); (case side1 => exact ca_ (Kd.C_below HR0_9.out (bs1_ HB.out GE116.out))); (case side2 => exact HC0_9.out); rintro e w21 ⟨rfl, hb⟩; refine ⟨_, rfl, ?_⟩; replace BK116 := ak (blk_below (bk_ BK116.out) hb); replace HB := ak (below_step (bs1_ HB.out GE116.out) hb); (try clear hb); (try clear hb2); (try clear hk); (try clear hi); have hcz22_0 := bc_ BK116.out 0; have hcz22_1 := bc_ BK116.out 1; have hcz22_2 := bc_ BK116.out 2; have hcz22_3 := bc_ BK116.out 3; have hcz22_4 := bc_ BK116.out 4; have hcz22_5 := bc_ BK116.out 5; have hcz22_6 := bc_ BK116.out 6; have hcz22_7 := bc_ BK116.out 7; have hcz22_8 := bc_ BK116.out 8; have hcz22_9 := bc_ BK116.out 9; have hcz22_10 := bc_ BK116.out 10; have hfz22_0 := blk_frozen BK116.out 0; have hfz22_1 := blk_frozen BK116.out 1; have hfz22_2 := blk_frozen BK116.out 2; have hfz22_3 := blk_frozen BK116.out 3; have hfz22_4 := blk_frozen BK116.out 4; have hfz22_5 := blk_frozen BK116.out 5; have hfz22_6 := blk_frozen BK116.out 6; have hfz22_7 := blk_frozen BK116.out 7; have hfz22_8 := blk_frozen BK116.out 8; have hfz22_9 := blk_frozen BK116.out 9; have hfz22_10 := blk_frozen BK116.out 10) | ((with_reducible refine gate_callee (f := 242) rfl ?_); refine goesM_ (some 20) rfl rfl Try.func242 (by kernel_rfl) rfl #[.agg #[.slice A0_10 l0_10.length c0_10], .int .i64 t118] rfl ?_; (with_reducible refine (laws_szClause.calls k _ _ l0_10 t118 t119 _ ?side1 ?side2 A12.out).mono ?_); (case side1 => exact cb_ HR0_10.out HB.out); (case side2 => exact HC0_10.out); rintro e w23 ⟨rfl, hb⟩; refine ⟨_, rfl, ?_⟩; replace BK116 := ak (blk_below (bk_ BK116.out) hb); replace HB := ak (below_step (bs1_ HB.out GE116.out) hb); (try clear hb); (try clear hb2); (try clear hk); (try clear hi)))
  go_ret
  exact fin_ (bs1_ HB.out GE116.out)

/-! ### laws_szStepS: function 66 -/
def laws_szStepS.l0 : Nat → List (L_Step) → Int → Int → Option (Int)
  | 0, _, _, _ => none
  | k + 1, x0, x1, x5 => if x5 < (x0.length : Int) then (if 0 ≤ x5 then ((laws_szStep.f k ((rd_L_Step x0 x5).f0) ((rd_L_Step x0 x5).f1) ((rd_L_Step x0 x5).f2) ((rd_L_Step x0 x5).f3) ((rd_L_Step x0 x5).f4) ((rd_L_Step x0 x5).f5) ((rd_L_Step x0 x5).f6) ((rd_L_Step x0 x5).f7) ((rd_L_Step x0 x5).f8) ((rd_L_Step x0 x5).f9) ((rd_L_Step x0 x5).f10.f0) x1).bind fun t121 => (if t121 < 0 then (some (-1)) else (laws_szStepS.l0 k x0 t121 (wrap64 (x5 + 1))))) else (none)) else (some x1)
def laws_szStepS.f (k : Nat) (l0 : List (L_Step)) (a1 : Int) : Option (Int) := if (wrap64 (a1 - (l0.length : Int))) < 0 then (some (-1)) else (laws_szStepS.l0 k l0 (wrap64 (a1 - (l0.length : Int))) 0)
theorem laws_szStepS.mono_l : ∀ k, (∀ y0 y1 y2, LeO (laws_szStepS.l0 k y0 y1 y2) (laws_szStepS.l0 (k + 1) y0 y1 y2))
  | 0 => fun _ _ _ r h => by simp [laws_szStepS.l0] at h
  | k + 1 => by
    have ih0 := laws_szStepS.mono_l k
    · intro y0 y1 y2
      unfold laws_szStepS.l0
      repeat' first | (with_reducible first | exact ih0 _ _ _ | exact laws_szStep.mono _ _ _ _ _ _ _ _ _ _ _ _ _ | exact LeO.refl _ | exact LeO.none _ | refine LeO.ite ?_ ?_ | refine LeO.bind ?_ (fun _ => ?_)) | exact ih0 _ _ _ | exact laws_szStep.mono _ _ _ _ _ _ _ _ _ _ _ _ _ | exact LeO.none _ | refine LeO.ite ?_ ?_ | refine LeO.bind ?_ (fun _ => ?_)
theorem laws_szStepS.mono : ∀ a0 a1 k, LeO (laws_szStepS.f k a0 a1) (laws_szStepS.f (k + 1) a0 a1) := by
  intro a0 a1 k; have ih0 := laws_szStepS.mono_l k
  unfold laws_szStepS.f
  repeat' first
      | (with_reducible exact ih0 _ _ _)
      | (with_reducible exact laws_szStep.mono _ _ _ _ _ _ _ _ _ _ _ _ _)
      | (with_reducible exact LeO.refl _)
      | (with_reducible exact LeO.none _)
      | (with_reducible refine LeO.ite ?_ ?_)
      | (with_reducible refine LeO.bind ?_ (fun _ => ?_))
      | exact ih0 _ _ _
      | exact laws_szStep.mono _ _ _ _ _ _ _ _ _ _ _ _ _
      | exact LeO.none _
      | refine LeO.ite ?_ ?_
      | refine LeO.bind ?_ (fun _ => ?_)
set_option maxHeartbeats 8000000 in
set_option maxRecDepth 100000 in
theorem laws_szStepS.calls (k : Nat) (A0 : Option Addr) (c0 : Nat) (l0 : List (L_Step)) (a1 : Int) (r : Int) (w : World) (hr0 : Kd.C k189 w A0 l0.length l0) (hc0 : l0.length ≤ c0) (h : laws_szStepS.f k l0 a1 = some r) :
    Calls Try.prog 66 #[.slice A0 l0.length c0, .int .i64 a1] w fun e w' => e = .returned (.int .i64 r) ∧ Below w.heap.size w w' := by
  have hu189 := Try.underlying189; have HR0 := ak hr0; have HC0 := ak hc0; clear hr0 hc0; have HB := ak (Below.refl w.heap.size w); have H : (if (wrap64 (a1 - (l0.length : Int))) < 0 then (some (-1)) else (laws_szStepS.l0 k l0 (wrap64 (a1 - (l0.length : Int))) 0)) = some r := h; clear h
  by_cases c3 : (wrap64 (a1 - (l0.length : Int))) < 0
  · rw [if_pos c3] at H; have c3b0 := decide_eq_true c3; clear c3; obtain rfl := Option.some.inj H
    go_enter Try.func66, Try.ntmps66
    go_wp2
    go_ret
    exact fin_ (bl_ HB.out)
  rw [if_neg c3] at H; have c3b0 := decide_eq_false c3; clear c3; have H' := ak H; clear H
  go_enter Try.func66, Try.ntmps66
  go_wp2
  go_loopg [1, 5] k (fun kq v1 v5 w' => ∃ (x1_1 : Int) (x5_1 : Int), v1 = .int .i64 x1_1 ∧ v5 = .int .i64 x5_1 ∧ Aside0 (laws_szStepS.l0 kq l0 x1_1 x5_1 = some r) ∧ Aside0 (kq ≤ k) ∧ Aside0 (Below w.heap.size w w'))
  case atStart => exact ⟨(wrap64 (a1 - (l0.length : Int))), (0), (by first | rfl | (simp; done) | (simp [*]; done)), (by first | rfl | (simp; done) | (simp [*]; done)), H', ⟨Nat.le_refl _⟩, ⟨by repeat (first | (with_reducible first | exact HB.out | apply below_alloc | apply pw_below_drewN | apply below_drew1) | exact HB.out)⟩⟩
  case round =>
    clear H'; (try clear p2); (try clear c3); (try clear c3b0); obtain ⟨x1_1, x5_1, rfl, rfl, HA, HK1, HB⟩ := hrel
    cases gk with
    | zero => exact absurd HA.out (by simp [laws_szStepS.l0])
    | succ k1 =>
      have H := HA.out; clear HA
      simp only [laws_szStepS.l0] at H
      by_cases c4 : x5_1 < (l0.length : Int)
      · rw [if_pos c4] at H; have c4b0 := decide_eq_true c4; clear c4
        by_cases c5 : 0 ≤ x5_1
        · rw [if_pos c5] at H; have c5b0 := decide_eq_true c5; clear c5; replace H := Option.bind_eq_some_iff.mp H; obtain ⟨t121, A60, H⟩ := H; have A6 := ak A60; clear A60
          by_cases c7 : t121 < 0
          · rw [if_pos c7] at H; have c7b0 := decide_eq_true c7; clear c7; obtain rfl := Option.some.inj H; have p120 : 0 ≤ (x5_1 : Int) := as_; have q120 : x5_1 < (l0.length : Int) := as_; obtain ⟨ad120, A120_7, c120_7, A120_9, c120_9, A120_10, c120_10, e120, hx120_0, hx120_1, hx120_2, hx120_3, hx120_4, hx120_5, hx120_6, hx120_7, hx120_8, hx120_9, hx120_10, hl120_7, hi120_7, hl120_9, hi120_9, hl120_10, hi120_10⟩ := at_T189 HR0.out x5_1 p120 q120
            cases e120
            replace hx120_0 := hbc_ HB.out hx120_0; replace hx120_1 := hbc_ HB.out hx120_1; replace hx120_2 := hbc_ HB.out hx120_2; replace hx120_3 := hbc_ HB.out hx120_3; replace hx120_4 := hbc_ HB.out hx120_4; replace hx120_5 := hbc_ HB.out hx120_5; replace hx120_6 := hbc_ HB.out hx120_6; replace hx120_7 := hbc_ HB.out hx120_7; replace hx120_8 := hbc_ HB.out hx120_8; replace hx120_9 := hbc_ HB.out hx120_9; replace hx120_10 := hbc_ HB.out hx120_10; have HR120_7 := ak hi120_7; have HC120_7 := ak hl120_7; clear hi120_7 hl120_7; have HR120_9 := ak hi120_9; have HC120_9 := ak hl120_9; clear hi120_9 hl120_9; have HR120_10 := ak hi120_10; have HC120_10 := ak hl120_10; clear hi120_10 hl120_10; replace p120 := eq_true p120; replace q120 := eq_true q120
            go_wp2_with (first | ((with_reducible refine gate_callee (f := 164) rfl ?_); refine goesM_ (some 23) rfl rfl Try.func164 (by kernel_rfl) rfl #[.agg #[.int .i64 ((rd_L_Step l0 x5_1).f0), .int .i64 ((rd_L_Step l0 x5_1).f1), .int .i64 ((rd_L_Step l0 x5_1).f2), .int .i64 ((rd_L_Step l0 x5_1).f3), .int .i64 ((rd_L_Step l0 x5_1).f4), .bool ((rd_L_Step l0 x5_1).f5), .bool ((rd_L_Step l0 x5_1).f6), .slice A120_7 ((rd_L_Step l0 x5_1).f7).length c120_7, .bool ((rd_L_Step l0 x5_1).f8), .slice A120_9 ((rd_L_Step l0 x5_1).f9).length c120_9, .slice A120_10 ((rd_L_Step l0 x5_1).f10.f0).length c120_10], .int .i64 x1_1] rfl ?_; (with_reducible refine (laws_szStep.calls k1 ((rd_L_Step l0 x5_1).f0) ((rd_L_Step l0 x5_1).f1) ((rd_L_Step l0 x5_1).f2) ((rd_L_Step l0 x5_1).f3) ((rd_L_Step l0 x5_1).f4) ((rd_L_Step l0 x5_1).f5) ((rd_L_Step l0 x5_1).f6) _ _ ((rd_L_Step l0 x5_1).f7) ((rd_L_Step l0 x5_1).f8) _ _ ((rd_L_Step l0 x5_1).f9) _ _ ((rd_L_Step l0 x5_1).f10.f0) x1_1 t121 _ ?side1 ?side2 ?side3 ?side4 ?side5 ?side6 A6.out).mono ?_); (case side1 => exact cb_ HR120_7.out HB.out); (case side2 => exact HC120_7.out); (case side3 => exact cb_ HR120_9.out HB.out); (case side4 => exact HC120_9.out); (case side5 => exact cb_ HR120_10.out HB.out); (case side6 => exact HC120_10.out); rintro e w8 ⟨rfl, hb⟩; refine ⟨_, rfl, ?_⟩; replace HB := ak (below_step (bl_ HB.out) hb); (try clear hb); (try clear hb2); (try clear hk); (try clear hi)))
            go_ret
            exact fin_ (bl_ HB.out)
          rw [if_neg c7] at H; have c7b0 := decide_eq_false c7; clear c7; have H' := ak H; clear H; have p120 : 0 ≤ (x5_1 : Int) := as_; have q120 : x5_1 < (l0.length : Int) := as_; obtain ⟨ad120, A120_7, c120_7, A120_9, c120_9, A120_10, c120_10, e120, hx120_0, hx120_1, hx120_2, hx120_3, hx120_4, hx120_5, hx120_6, hx120_7, hx120_8, hx120_9, hx120_10, hl120_7, hi120_7, hl120_9, hi120_9, hl120_10, hi120_10⟩ := at_T189 HR0.out x5_1 p120 q120
          cases e120
          replace hx120_0 := hbc_ HB.out hx120_0; replace hx120_1 := hbc_ HB.out hx120_1; replace hx120_2 := hbc_ HB.out hx120_2; replace hx120_3 := hbc_ HB.out hx120_3; replace hx120_4 := hbc_ HB.out hx120_4; replace hx120_5 := hbc_ HB.out hx120_5; replace hx120_6 := hbc_ HB.out hx120_6; replace hx120_7 := hbc_ HB.out hx120_7; replace hx120_8 := hbc_ HB.out hx120_8; replace hx120_9 := hbc_ HB.out hx120_9; replace hx120_10 := hbc_ HB.out hx120_10; have HR120_7 := ak hi120_7; have HC120_7 := ak hl120_7; clear hi120_7 hl120_7; have HR120_9 := ak hi120_9; have HC120_9 := ak hl120_9; clear hi120_9 hl120_9; have HR120_10 := ak hi120_10; have HC120_10 := ak hl120_10; clear hi120_10 hl120_10; replace p120 := eq_true p120; replace q120 := eq_true q120
          go_wp2_with (first | ((with_reducible refine gate_callee (f := 164) rfl ?_); refine goesM_ (some 23) rfl rfl Try.func164 (by kernel_rfl) rfl #[.agg #[.int .i64 ((rd_L_Step l0 x5_1).f0), .int .i64 ((rd_L_Step l0 x5_1).f1), .int .i64 ((rd_L_Step l0 x5_1).f2), .int .i64 ((rd_L_Step l0 x5_1).f3), .int .i64 ((rd_L_Step l0 x5_1).f4), .bool ((rd_L_Step l0 x5_1).f5), .bool ((rd_L_Step l0 x5_1).f6), .slice A120_7 ((rd_L_Step l0 x5_1).f7).length c120_7, .bool ((rd_L_Step l0 x5_1).f8), .slice A120_9 ((rd_L_Step l0 x5_1).f9).length c120_9, .slice A120_10 ((rd_L_Step l0 x5_1).f10.f0).length c120_10], .int .i64 x1_1] rfl ?_; (with_reducible refine (laws_szStep.calls k1 ((rd_L_Step l0 x5_1).f0) ((rd_L_Step l0 x5_1).f1) ((rd_L_Step l0 x5_1).f2) ((rd_L_Step l0 x5_1).f3) ((rd_L_Step l0 x5_1).f4) ((rd_L_Step l0 x5_1).f5) ((rd_L_Step l0 x5_1).f6) _ _ ((rd_L_Step l0 x5_1).f7) ((rd_L_Step l0 x5_1).f8) _ _ ((rd_L_Step l0 x5_1).f9) _ _ ((rd_L_Step l0 x5_1).f10.f0) x1_1 t121 _ ?side1 ?side2 ?side3 ?side4 ?side5 ?side6 A6.out).mono ?_); (case side1 => exact cb_ HR120_7.out HB.out); (case side2 => exact HC120_7.out); (case side3 => exact cb_ HR120_9.out HB.out); (case side4 => exact HC120_9.out); (case side5 => exact cb_ HR120_10.out HB.out); (case side6 => exact HC120_10.out); rintro e w9 ⟨rfl, hb⟩; refine ⟨_, rfl, ?_⟩; replace HB := ak (below_step (bl_ HB.out) hb); (try clear hb); (try clear hb2); (try clear hk); (try clear hi)))
          go_roundg k1
          case measure => have := HK1.out; omega
          case rel => exact ⟨(t121), (wrap64 (x5_1 + 1)), (by first | rfl | (simp; done) | (simp [*]; done)), (by first | rfl | (simp; done) | (simp [*]; done)), H', ⟨by have := HK1.out; omega⟩, ⟨by repeat (first | (with_reducible first | exact HB.out | apply below_alloc | apply pw_below_drewN | apply below_drew1) | exact HB.out)⟩⟩
        rw [if_neg c5] at H; exact absurd H (by simp)
      rw [if_neg c4] at H; have c4b0 := decide_eq_false c4; clear c4; obtain rfl := Option.some.inj H
      go_wp2
      go_ret
      exact fin_ (bl_ HB.out)

/-! ### laws_toIntS: function 243 -/
def laws_toIntS.l0 : Nat → List Int → List Int → Int → Option (List Int)
  | 0, _, _, _ => none
  | k + 1, x0, x3, x4 => if x4 < (x0.length : Int) then (if 0 ≤ x4 then (if x4 < (x3.length : Int) then (laws_toIntS.l0 k x0 (x3.set (x4 : Int).toNat (rd x0 x4)) (wrap64 (x4 + 1))) else (none)) else (none)) else (some x3)
def laws_toIntS.f (k : Nat) (l0 : List Int) : Option (List Int) := if 0 ≤ (l0.length : Int) then (if ((l0.length : Int) : Int).toNat ≤ 35184372088832 then (laws_toIntS.l0 k l0 (List.replicate ((l0.length : Int) : Int).toNat 0) 0) else (none)) else (none)
theorem laws_toIntS.mono_l : ∀ k, (∀ y0 y1 y2, LeO (laws_toIntS.l0 k y0 y1 y2) (laws_toIntS.l0 (k + 1) y0 y1 y2))
  | 0 => fun _ _ _ r h => by simp [laws_toIntS.l0] at h
  | k + 1 => by
    have ih0 := laws_toIntS.mono_l k
    · intro y0 y1 y2
      unfold laws_toIntS.l0
      repeat' first | (with_reducible first | exact ih0 _ _ _ | exact LeO.refl _ | exact LeO.none _ | refine LeO.ite ?_ ?_ | refine LeO.bind ?_ (fun _ => ?_)) | exact ih0 _ _ _ | exact LeO.none _ | refine LeO.ite ?_ ?_ | refine LeO.bind ?_ (fun _ => ?_)
theorem laws_toIntS.mono : ∀ a0 k, LeO (laws_toIntS.f k a0) (laws_toIntS.f (k + 1) a0) := by
  intro a0 k; have ih0 := laws_toIntS.mono_l k
  unfold laws_toIntS.f
  repeat' first
      | (with_reducible exact ih0 _ _ _)
      | (with_reducible exact LeO.refl _)
      | (with_reducible exact LeO.none _)
      | (with_reducible refine LeO.ite ?_ ?_)
      | (with_reducible refine LeO.bind ?_ (fun _ => ?_))
      | exact ih0 _ _ _
      | exact LeO.none _
      | refine LeO.ite ?_ ?_
      | refine LeO.bind ?_ (fun _ => ?_)
set_option maxHeartbeats 8000000 in
set_option maxRecDepth 100000 in
theorem laws_toIntS.calls (k : Nat) (A0 : Option Addr) (c0 : Nat) (l0 : List Int) (r : List Int) (w : World) (hr0 : Kd.C (Kd.int .i64) w A0 l0.length l0) (hc0 : l0.length ≤ c0) (h : laws_toIntS.f k l0 = some r) :
    Calls Try.prog 243 #[.slice A0 l0.length c0] w fun e w' => ∃ v0_ : Value, e = .returned (v0_) ∧ Kd.R (Kd.int .i64) 3 w' w.heap.size (fun _ => True) v0_ r ∧ Below w.heap.size w w' := by
  have HR0 := ak hr0; have HC0 := ak hc0; clear hr0 hc0; have HB := ak (Below.refl w.heap.size w); have H : (if 0 ≤ (l0.length : Int) then (if ((l0.length : Int) : Int).toNat ≤ 35184372088832 then (laws_toIntS.l0 k l0 (List.replicate ((l0.length : Int) : Int).toNat 0) 0) else (none)) else (none)) = some r := h; clear h
  by_cases c2 : 0 ≤ (l0.length : Int)
  · rw [if_pos c2] at H; have c2b0 := eq_true c2; have c2b1 := decide_eq_true c2; clear c2
    by_cases c3 : ((l0.length : Int) : Int).toNat ≤ 35184372088832
    · rw [if_pos c3] at H; have c3b0 := eq_true c3; have c3b1 := decide_eq_true c3; clear c3; obtain ⟨y122, hy122⟩ : ∃ y_ : List Int, y_ = (List.replicate ((l0.length : Int) : Int).toNat 0) := ⟨_, rfl⟩; replace H : (laws_toIntS.l0 k l0 y122 0) = some r := by first | (rw [hy122]; with_reducible exact H) | (have H2_ := (Option.bind_some _ _).symm.trans H; rw [hy122]; with_reducible exact H2_) | (have H2_ := (Option.bind_some _ _).symm.trans H; with_reducible exact H2_) | with_reducible exact H | (rw [hy122]; exact H) | exact H
      have Ny122 := ak hy122; clear hy122; have H' := ak H; clear H
      go_enter Try.func243, Try.ntmps243
      go_wp2_with (first | ((with_reducible refine gate_dst (N := 7) rfl ?_); refine Kd.R_make (Kd.int .i64) _ 3 rfl (N := 7) rfl 52 _ _ rfl (l0.length : Int) rfl rfl Try.underlying52 (.int .i64 0) 8 info3 rfl (by decide) (by omega) 0 (ok := fun _ => True) (okp := fun _ => True) rfl (fun _ hk => hk) trivial (as_) (Nat.le_trans (Nat.mul_le_mul_right _ (as_ : (l0.length : Int).toNat ≤ 35184372088832)) (by omega)) (Below.refl _ _) (Nat.le_refl _) ?_; intro v123 w4 ho5 hb hg_ hnew_; clear hg_ hnew_; (first | rw [← Ny122.out] at ho5 | (simp only [Int.reduceToNat] at ho5; rw [← Ny122.out] at ho5)); have HO124 := ak (Kd.R_lower ho5 (below_size (bl_ HB.out))); replace HB := ak (below_step (bl_ HB.out) hb); clear hb ho5))
      go_loopg [4] k (fun kq v4 w' => ∃ (x3_1 : List Int) (x4_1 : Int), v4 = .int .i64 x4_1 ∧ Aside0 (laws_toIntS.l0 kq l0 x3_1 x4_1 = some r) ∧ Aside0 (kq ≤ k) ∧ Aside0 (Kd.R (Kd.int .i64) 3 w' w.heap.size (fun _ => True) v123 x3_1) ∧ Aside0 (Below w.heap.size w w'))
      case atStart => exact ⟨(y122), (0), (by first | rfl | (simp; done) | (simp [*]; done)), H', ⟨Nat.le_refl _⟩, ⟨by (with_reducible repeat (first | apply Kd.R_alloc | apply Kd.R_drewN | apply Kd.R_drew)); exact HO124.out⟩, ⟨by repeat (first | (with_reducible first | exact HB.out | apply below_alloc | apply pw_below_drewN | apply below_drew1) | exact HB.out)⟩⟩
      case round =>
        clear H'; (try clear c2); (try clear c2b0); (try clear c2b1); (try clear p2); (try clear c3); (try clear c3b0); (try clear c3b1); obtain ⟨x3_1, x4_1, rfl, HA, HK1, HO_3, HB⟩ := hrel
        cases gk with
        | zero => exact absurd HA.out (by simp [laws_toIntS.l0])
        | succ k1 =>
          have H := HA.out; clear HA
          simp only [laws_toIntS.l0] at H
          by_cases c6 : x4_1 < (l0.length : Int)
          · rw [if_pos c6] at H; have c6b0 := decide_eq_true c6; clear c6
            by_cases c7 : 0 ≤ x4_1
            · rw [if_pos c7] at H; have c7b0 := decide_eq_true c7; clear c7
              by_cases c8 : x4_1 < (x3_1.length : Int)
              · rw [if_pos c8] at H; have c8b0 := decide_eq_true c8; clear c8; obtain ⟨y126, hy126⟩ : ∃ y_ : List Int, y_ = (x3_1.set (x4_1 : Int).toNat (rd l0 x4_1)) := ⟨_, rfl⟩; replace H : (laws_toIntS.l0 k1 l0 y126 (wrap64 (x4_1 + 1))) = some r := by first | (rw [hy126]; with_reducible exact H) | (have H2_ := (Option.bind_some _ _).symm.trans H; rw [hy126]; with_reducible exact H2_) | (have H2_ := (Option.bind_some _ _).symm.trans H; with_reducible exact H2_) | with_reducible exact H | (rw [hy126]; exact H) | exact H
                have Ny126 := ak hy126; clear hy126; have H' := ak H; clear H; have p125 : 0 ≤ (x4_1 : Int) := as_; have q125 : x4_1 < (l0.length : Int) := as_; obtain ⟨ad125, e125, hx125_0⟩ := Kd.at_int HR0.out x4_1 p125 q125
                cases e125
                replace hx125_0 := hbc_ HB.out hx125_0; replace p125 := eq_true p125; replace q125 := eq_true q125; have p9 : 0 ≤ (x4_1 : Int) := as_; have q9 : (x4_1 : Int) < ((x3_1.length : Int) : Int) := as_; obtain ⟨go9, co9, eo9, gb9, gl9, cl9, HG9⟩ := Kd.R_form HO_3.out (by omega); (first | cases eo9 | (injection eo9 with ea_ en_ ec_; (first | subst ea_ | (injection ea_ with ea_; subst ea_)); subst ec_; clear en_)); have GB9 := ak gb9; have GG9 := ak HG9; clear gb9 gl9 HG9; obtain ⟨hx9_0, hf9_0⟩ := Kd.R_celln 0 HO_3.out (x4_1 : Int) p9 q9; replace p9 := eq_true p9; replace q9 := eq_true q9; have HP10 := Kd.R_putg HO_3.out (x4_1 : Int) (rd l0 x4_1)
                go_wp2_with (first | ((with_reducible refine gate_store (t := 3) (p := 20) rfl ?_); refine store_event (t := 3) (p := 20) (v := ?vo_w11) (w1 := (wr.setCell ⟨go9, (x4_1 : Int).toNat, none⟩ (.int .i64 (rd l0 x4_1)))) ?hg ?ho ?hn ?hr ?_; (case ho => rfl); (case hg => rfl); (case hn => rfl); (case hr => first | (go_simp; done) | (go_simp; rfl)); intro w11 hw; have hg : wr.grownBy w11 (some go9) := (by rw [hw]; exact HP10.2); have hp_ : Kd.R (Kd.int .i64) 3 w11 w.heap.size (fun _ => True) (.slice (some ⟨go9, 0, none⟩) x3_1.length co9) y126 := (by rw [hw, Ny126.out]; exact HP10.1); clear HP10; replace HO_3 := ak (hp_); replace HB := ak (by rw [hw]; exact below_set (HB.out) GB9.out : Below w.heap.size w w11); clear hg hw hp_))
                go_roundg k1
                case measure => have := HK1.out; omega
                case rel => exact ⟨(y126), (wrap64 (x4_1 + 1)), (by first | rfl | (simp; done) | (simp [*]; done)), H', ⟨by have := HK1.out; omega⟩, ⟨by (with_reducible repeat (first | apply Kd.R_alloc | apply Kd.R_drewN | apply Kd.R_drew)); exact HO_3.out⟩, ⟨by repeat (first | (with_reducible first | exact HB.out | apply below_alloc | apply pw_below_drewN | apply below_drew1) | exact HB.out)⟩⟩
              rw [if_neg c8] at H; exact absurd H (by simp)
            rw [if_neg c7] at H; exact absurd H (by simp)
          rw [if_neg c6] at H; have c6b0 := decide_eq_false c6; clear c6; obtain rfl := Option.some.inj H
          go_wp2
          go_ret
          exact ⟨_, by first | rfl | (simp [errW_none, errW_some] <;> rfl) | (simp [*, errW_none, errW_some] <;> rfl), by (with_reducible repeat (first | apply Kd.R_alloc | apply Kd.R_drewN | apply Kd.R_drew)); exact HO_3.out, by repeat (first | (with_reducible first | exact HB.out | apply below_alloc | apply pw_below_drewN | apply below_drew1) | exact HB.out)⟩
    rw [if_neg c3] at H; exact absurd H (by simp)
  rw [if_neg c2] at H; exact absurd H (by simp)

end Go.Proofs.Ytejfjfhopapaaaa.XDeepOf
