-- printed by a program of this session (xprint, turned from the kit's print) for this claim
import Derived.Test.YtcboagkbcoihjaaXCloseOkx0
namespace Go.Proofs.Ytcboagkbcoihjaa.XCloseOk
open Go.RowKit Go.Proofs.Ytcboagkbcoihjaa.XOpens Go.Proofs.YtcboagkbcoihjaaW.PrintWords Go.Proofs.YtcboagkbcoihjaaW.PrintLast Go.Proofs.YtcboagkbcoihjaaW.PrintMore
attribute [local go_sem] max2_int min2_int max_two min_two max_three min_three max_four min_four   -- for this text's walks alone
set_option linter.unusedVariables false
set_option linter.unusedSimpArgs false

/-! ### a group: laws_eqTermS, laws_eqTerm -/
mutual
def laws_eqTermS.l0 : Nat → List (I_Term) → List (I_Term) → Int → Option (Bool)
  | 0, _, _, _ => none
  | k + 1, x0, x1, x5 => if x5 < (x0.length : Int) then (if 0 ≤ x5 then (if x5 < (x1.length : Int) then ((laws_eqTerm.f k ((rd_I_Term x0 x5).f0) ((rd_I_Term x0 x5).f1) ((rd_I_Term x0 x5).f2) ((rd_I_Term x1 x5).f0) ((rd_I_Term x1 x5).f1) ((rd_I_Term x1 x5).f2)).bind fun t176 => (if t176 = true then (laws_eqTermS.l0 k x0 x1 (wrap64 (x5 + 1))) else (some false))) else (none)) else (none)) else (some true)
def laws_eqTermS.f : Nat → List (I_Term) → List (I_Term) → Option (Bool)
  | 0, _, _ => none
  | k + 1, l0, l1 => if (l0.length : Int) = (l1.length : Int) then (laws_eqTermS.l0 k l0 l1 0) else (some false)
def laws_eqTerm.f : Nat → Int → Int → List (I_Term) → Int → Int → List (I_Term) → Option (Bool)
  | 0, _, _, _, _, _, _ => none
  | k + 1, a0_0, a0_1, l0_2, a1_0, a1_1, l1_2 => if a0_0 = a1_0 then (if a0_1 = a1_1 then ((laws_eqTermS.f k l0_2 l1_2).bind fun t179 => (if t179 = true then (some true) else (some false))) else (some false)) else (some false)
end
theorem laws_eqTermS.grp_mono : ∀ k, (∀ y0 y1, LeO (laws_eqTermS.f k y0 y1) (laws_eqTermS.f (k + 1) y0 y1)) ∧ (∀ y0 y1 y2, LeO (laws_eqTermS.l0 k y0 y1 y2) (laws_eqTermS.l0 (k + 1) y0 y1 y2)) ∧ (∀ y0 y1 y2 y3 y4 y5, LeO (laws_eqTerm.f k y0 y1 y2 y3 y4 y5) (laws_eqTerm.f (k + 1) y0 y1 y2 y3 y4 y5))
  | 0 => ⟨fun _ _ r h => by simp [laws_eqTermS.f] at h, fun _ _ _ r h => by simp [laws_eqTermS.l0] at h, fun _ _ _ _ _ _ r h => by simp [laws_eqTerm.f] at h⟩
  | k + 1 => by
    obtain ⟨ih0, ih1, ih2⟩ := laws_eqTermS.grp_mono k
    refine ⟨?_, ?_, ?_⟩
    · intro y0 y1
      unfold laws_eqTermS.f
      repeat' first
      | (with_reducible exact ih0 _ _)
      | (with_reducible exact ih1 _ _ _)
      | (with_reducible exact ih2 _ _ _ _ _ _)
      | (with_reducible exact LeO.refl _)
      | (with_reducible exact LeO.none _)
      | (with_reducible refine LeO.ite ?_ ?_)
      | (with_reducible refine LeO.bind ?_ (fun _ => ?_))
      | exact ih0 _ _
      | exact ih1 _ _ _
      | exact ih2 _ _ _ _ _ _
      | exact LeO.none _
      | refine LeO.ite ?_ ?_
      | refine LeO.bind ?_ (fun _ => ?_)
    · intro y0 y1 y2
      unfold laws_eqTermS.l0
      repeat' first
      | (with_reducible exact ih0 _ _)
      | (with_reducible exact ih1 _ _ _)
      | (with_reducible exact ih2 _ _ _ _ _ _)
      | (with_reducible exact LeO.refl _)
      | (with_reducible exact LeO.none _)
      | (with_reducible refine LeO.ite ?_ ?_)
      | (with_reducible refine LeO.bind ?_ (fun _ => ?_))
      | exact ih0 _ _
      | exact ih1 _ _ _
      | exact ih2 _ _ _ _ _ _
      | exact LeO.none _
      | refine LeO.ite ?_ ?_
      | refine LeO.bind ?_ (fun _ => ?_)
    · intro y0 y1 y2 y3 y4 y5
      unfold laws_eqTerm.f
      repeat' first
      | (with_reducible exact ih0 _ _)
      | (with_reducible exact ih1 _ _ _)
      | (with_reducible exact ih2 _ _ _ _ _ _)
      | (with_reducible exact LeO.refl _)
      | (with_reducible exact LeO.none _)
      | (with_reducible refine LeO.ite ?_ ?_)
      | (with_reducible refine LeO.bind ?_ (fun _ => ?_))
      | exact ih0 _ _
      | exact ih1 _ _ _
      | exact ih2 _ _ _ _ _ _
      | exact LeO.none _
      | refine LeO.ite ?_ ?_
      | refine LeO.bind ?_ (fun _ => ?_)
theorem laws_eqTermS.mono : ∀ a0 a1 k, LeO (laws_eqTermS.f k a0 a1) (laws_eqTermS.f (k + 1) a0 a1) := by
  intro a0 a1 k
  obtain ⟨ih0, ih1, ih2⟩ := laws_eqTermS.grp_mono k
  exact ih0 a0 a1
theorem laws_eqTerm.mono : ∀ a0 a1 a2 a3 a4 a5 k, LeO (laws_eqTerm.f k a0 a1 a2 a3 a4 a5) (laws_eqTerm.f (k + 1) a0 a1 a2 a3 a4 a5) := by
  intro a0 a1 a2 a3 a4 a5 k
  obtain ⟨ih0, ih1, ih2⟩ := laws_eqTermS.grp_mono k
  exact ih2 a0 a1 a2 a3 a4 a5
/-! ### laws_eqTermS: function 39 -/
def laws_eqTermS.T6 : Bool × List (List Nat × List Nat) := (true, [([], []), ([], []), ([0, 1], [0, 1]), ([2], [2]), ([], []), ([], []), ([4, 5], [4, 5]), ([6], [6]), ([3, 7], [3, 7]), ([8], [8])])
def laws_eqTermS.B6 : List Nat := [0, 0, 3, 7, 0, 0, 48, 112, 255, 511]
theorem laws_eqTermS.tab6 : rtab .any (opsOf Try.f39 6) = laws_eqTermS.T6 := by kernel_rfl
theorem laws_eqTermS.bits6 : waitsOk laws_eqTermS.T6.2 laws_eqTermS.B6 = true := by kernel_rfl
set_option maxHeartbeats 8000000 in
set_option maxRecDepth 100000 in
theorem laws_eqTermS.step (k : Nat) (ihg_39 : ∀ m, m < k → ∀ (A0 : Option Addr) (c0 : Nat) (l0 : List (I_Term)) (A1 : Option Addr) (c1 : Nat) (l1 : List (I_Term)) (r : Bool) (w : World) (hr0 : Kd.C k33 w A0 l0.length l0) (hc0 : l0.length ≤ c0) (hr1 : Kd.C k33 w A1 l1.length l1) (hc1 : l1.length ≤ c1) (h : laws_eqTermS.f m l0 l1 = some r),
    Calls Try.prog 39 #[.slice A0 l0.length c0, .slice A1 l1.length c1] w fun e w' => e = .returned (.bool r) ∧ Below w.heap.size w w') (ihg_22 : ∀ m, m < k → ∀ (a0_0 : Int) (a0_1 : Int) (A0_2 : Option Addr) (c0_2 : Nat) (l0_2 : List (I_Term)) (a1_0 : Int) (a1_1 : Int) (A1_2 : Option Addr) (c1_2 : Nat) (l1_2 : List (I_Term)) (r : Bool) (w : World) (hr0_2 : Kd.C k33 w A0_2 l0_2.length l0_2) (hc0_2 : l0_2.length ≤ c0_2) (hr1_2 : Kd.C k33 w A1_2 l1_2.length l1_2) (hc1_2 : l1_2.length ≤ c1_2) (h : laws_eqTerm.f m a0_0 a0_1 l0_2 a1_0 a1_1 l1_2 = some r),
    Calls Try.prog 22 #[.agg #[.int .i64 a0_0, .int .i64 a0_1, .slice A0_2 l0_2.length c0_2], .agg #[.int .i64 a1_0, .int .i64 a1_1, .slice A1_2 l1_2.length c1_2]] w fun e w' => e = .returned (.bool r) ∧ Below w.heap.size w w') : ∀ (A0 : Option Addr) (c0 : Nat) (l0 : List (I_Term)) (A1 : Option Addr) (c1 : Nat) (l1 : List (I_Term)) (r : Bool) (w : World) (hr0 : Kd.C k33 w A0 l0.length l0) (hc0 : l0.length ≤ c0) (hr1 : Kd.C k33 w A1 l1.length l1) (hc1 : l1.length ≤ c1) (h : laws_eqTermS.f k l0 l1 = some r),
    Calls Try.prog 39 #[.slice A0 l0.length c0, .slice A1 l1.length c1] w fun e w' => e = .returned (.bool r) ∧ Below w.heap.size w w' := by
  intro A0 c0 l0 A1 c1 l1 r w hr0 hc0 hr1 hc1 h
  cases k with
  | zero => exact absurd h (by simp [laws_eqTermS.f])
  | succ k =>
  simp only [laws_eqTermS.f] at h
  have hu33 := Try.underlying33; have HR0 := Aside0.mk hr0; have HC0 := Aside0.mk hc0; clear hr0 hc0; have HR1 := Aside0.mk hr1; have HC1 := Aside0.mk hc1; clear hr1 hc1; have HB := Aside0.mk (Below.refl w.heap.size w); have H : (if (l0.length : Int) = (l1.length : Int) then (laws_eqTermS.l0 k l0 l1 0) else (some false)) = some r := h; clear h
  by_cases c3 : (l0.length : Int) = (l1.length : Int)
  · rw [if_pos c3] at H; have c3b0 : ((l0.length : Int) == (l1.length : Int)) = true := beq_iff_eq.mpr c3; have c3b1 : ((l0.length : Int) != (l1.length : Int)) = false := bne_eq_false_iff_eq.mpr c3; have c3b2 : (l0.length == l1.length) = true := by first | simpa using c3 | (simp at c3 ⊢; omega)
    clear c3; have H' := Aside0.mk H; clear H
    go_enter Try.func39, Try.ntmps39
    go_wp2
    go_loopg [5] k (fun kq v5 w' => ∃ (x5_1 : Int), v5 = .int .i64 x5_1 ∧ Aside0 (laws_eqTermS.l0 kq l0 l1 x5_1 = some r) ∧ Aside0 (kq ≤ k) ∧ Aside0 (Below w.heap.size w w'))
    case atStart => exact ⟨(0), (by first | rfl | (simp; done) | (simp [*]; done)), H', ⟨Nat.le_refl _⟩, ⟨by repeat (first | (with_reducible first | exact HB.out | apply below_alloc | apply pw_below_drewN | apply below_drew1) | exact HB.out)⟩⟩
    case round =>
      clear H'; (try clear c1); (try clear p2); (try clear c3); (try clear c3b0); (try clear c3b1); (try clear c3b2); obtain ⟨x5_1, rfl, HA, HK1, HB⟩ := hrel
      cases gk with
      | zero => exact absurd HA.out (by simp [laws_eqTermS.l0])
      | succ k1 =>
        have H := HA.out; clear HA
        simp only [laws_eqTermS.l0] at H
        by_cases c4 : x5_1 < (l0.length : Int)
        · rw [if_pos c4] at H; have c4b0 := decide_eq_true c4; clear c4
          by_cases c5 : 0 ≤ x5_1
          · rw [if_pos c5] at H; have c5b0 := decide_eq_true c5; clear c5
            by_cases c6 : x5_1 < (l1.length : Int)
            · rw [if_pos c6] at H; have c6b0 := decide_eq_true c6; clear c6; replace H := Option.bind_eq_some_iff.mp H; obtain ⟨t176, A70, H⟩ := H; replace H : (if t176 = true then (laws_eqTermS.l0 k1 l0 l1 (wrap64 (x5_1 + 1))) else (some false)) = some r := H; have A7 := Aside0.mk A70; clear A70
              by_cases c8 : t176 = true
              · subst c8; rw [if_pos rfl] at H; have H' := Aside0.mk H; clear H
                try go_wp2
                have n0_ := Aside0.mk (below_drew1 HB.out); clear HB; have HB := n0_; clear n0_; have p174 : 0 ≤ (x5_1 : Int) := as_; have q174 : x5_1 < (l0.length : Int) := as_; obtain ⟨ad174, A174_2, c174_2, e174, hx174_0, hx174_1, hx174_2, hl174_2, hi174_2⟩ := at_T33 HR0.out x5_1 p174 q174; have hw174_2 := hx174_2; have hw174_1 := hx174_1; have hw174_0 := hx174_0
                cases e174
                replace hx174_0 := hbc_ HB.out hx174_0; replace hx174_1 := hbc_ HB.out hx174_1; replace hx174_2 := hbc_ HB.out hx174_2; have HR174_2 := Aside0.mk hi174_2; have HC174_2 := Aside0.mk hl174_2; clear hi174_2 hl174_2; replace p174 := eq_true p174; replace q174 := eq_true q174; have p175 : 0 ≤ (x5_1 : Int) := as_; have q175 : x5_1 < (l1.length : Int) := as_; obtain ⟨ad175, A175_2, c175_2, e175, hx175_0, hx175_1, hx175_2, hl175_2, hi175_2⟩ := at_T33 HR1.out x5_1 p175 q175; have hw175_2 := hx175_2; have hw175_1 := hx175_1; have hw175_0 := hx175_0
                cases e175
                replace hx175_0 := hbc_ HB.out hx175_0; replace hx175_1 := hbc_ HB.out hx175_1; replace hx175_2 := hbc_ HB.out hx175_2; have HR175_2 := Aside0.mk hi175_2; have HC175_2 := Aside0.mk hl175_2; clear hi175_2 hl175_2; replace p175 := eq_true p175; replace q175 := eq_true q175; refine start_ (n := 10) (S := fun w' => w'.cell? (ad174.add ((x5_1).toNat * 3)) = some (.int .i64 ((rd_I_Term l0 x5_1).f0)) ∧ w'.cell? ⟨(ad174.add ((x5_1).toNat * 3)).block, (ad174.add ((x5_1).toNat * 3)).off + 1, none⟩ = some (.int .i64 ((rd_I_Term l0 x5_1).f1)) ∧ w'.cell? ⟨(ad174.add ((x5_1).toNat * 3)).block, (ad174.add ((x5_1).toNat * 3)).off + 2, none⟩ = some (.slice A174_2 ((rd_I_Term l0 x5_1).f2).length c174_2) ∧ w'.cell? (ad175.add ((x5_1).toNat * 3)) = some (.int .i64 ((rd_I_Term l1 x5_1).f0)) ∧ w'.cell? ⟨(ad175.add ((x5_1).toNat * 3)).block, (ad175.add ((x5_1).toNat * 3)).off + 1, none⟩ = some (.int .i64 ((rd_I_Term l1 x5_1).f1)) ∧ w'.cell? ⟨(ad175.add ((x5_1).toNat * 3)).block, (ad175.add ((x5_1).toNat * 3)).off + 2, none⟩ = some (.slice A175_2 ((rd_I_Term l1 x5_1).f2).length c175_2)) (ds := []) (bm 10 0) (by kernel_rfl) rfl (by kernel_rfl) ⟨(hbc_ HB.out hw174_0 :), (hbc_ HB.out hw174_1 :), (hbc_ HB.out hw174_2 :), (hbc_ HB.out hw175_0 :), (hbc_ HB.out hw175_1 :), (hbc_ HB.out hw175_2 :)⟩ (fun hHeld => ?_); refine with_tabW laws_eqTermS.tab6 laws_eqTermS.bits6 (fun HT_ HW_ => ?_)
                generalize wr.drew = w9 at HB HR174_2 HR175_2 hx174_0 hx174_1 hx174_2 hx175_0 hx175_1 hx175_2 hHeld ⊢
                refine pv_ 0 HT_.out ?_; refine pv_ 1 HT_.out ?_; refine pv_ 2 HT_.out ?_; refine pv_ 4 HT_.out ?_; refine pv_ 5 HT_.out ?_; refine pv_ 6 HT_.out ?_; refine tv_ 3 HT_.out HW_.out hHeld ?_; refine tv_ 7 HT_.out HW_.out hHeld ?_; refine one_ (i := 8) (N := some 25) (bm 10 511) rfl rfl (one_of HT_.out (by kernel_rfl)) (by decide) (fun K hK => ?_); refine goes_ Try.func22 (by kernel_rfl) rfl #[.agg #[.int .i64 ((rd_I_Term l0 x5_1).f0), .int .i64 ((rd_I_Term l0 x5_1).f1), .slice A174_2 ((rd_I_Term l0 x5_1).f2).length c174_2], .agg #[.int .i64 ((rd_I_Term l1 x5_1).f0), .int .i64 ((rd_I_Term l1 x5_1).f1), .slice A175_2 ((rd_I_Term l1 x5_1).f2).length c175_2]] (by rfl) rfl rfl (by (try simp only [List.map_toArray, List.map_cons, List.map_nil]); first | done | rfl | (simp only [List.length_drop, List.length_take]; rfl)) ?_
                with_reducible refine (ihg_22 k1 (by have := HK1.out; omega) ((rd_I_Term l0 x5_1).f0) ((rd_I_Term l0 x5_1).f1) _ _ ((rd_I_Term l0 x5_1).f2) ((rd_I_Term l1 x5_1).f0) ((rd_I_Term l1 x5_1).f1) _ _ ((rd_I_Term l1 x5_1).f2) true _ ?side1 ?side2 ?side3 ?side4 A7.out).mono ?_
                (case side1 => exact cb_ HR174_2.out HB.out); (case side2 => exact HC174_2.out); (case side3 => exact cb_ HR175_2.out HB.out); (case side4 => exact HC175_2.out); rintro e w10 ⟨rfl, hb⟩; refine ⟨_, rfl, ?_⟩; have n0_ := Aside0.mk (below_step (bl_ HB.out) hb); clear HB; have HB := n0_; clear n0_; (try clear hb); (try clear hb2); (try clear hk); (try clear hi); refine hK.out _ _ ⟨(hbc_ HB.out hw174_0 :), (hbc_ HB.out hw174_1 :), (hbc_ HB.out hw174_2 :), (hbc_ HB.out hw175_0 :), (hbc_ HB.out hw175_1 :), (hbc_ HB.out hw175_2 :)⟩ (fun hHeld => ?_); clear hK K; refine norm_ (a' := ?_) ?_ ?_
                rotate_left
                · show Act.put _ (some 25) _ = _
                  simp only [Act.put, List.setIfInBounds_toArray, List.set_cons_zero, List.set_cons_succ, i64_w, i32_w]
                  rfl
                refine pv_ 9 HT_.out ?_; refine done_ (done_of HT_.out (by kernel_rfl)) ?_
                try go_wp2
                go_roundg k1
                case measure => have := HK1.out; omega
                case rel => exact ⟨(wrap64 (x5_1 + 1)), (by first | rfl | (simp; done) | (simp [*]; done)), H', ⟨by have := HK1.out; omega⟩, ⟨by repeat (first | (with_reducible first | exact HB.out | apply below_alloc | apply pw_below_drewN | apply below_drew1) | exact HB.out)⟩⟩
              · replace c8 := Bool.eq_false_iff.mpr c8; subst c8; rw [if_neg (show ¬ (false = true) by decide)] at H; obtain rfl := Option.some.inj H
                try go_wp2
                have n0_ := Aside0.mk (below_drew1 HB.out); clear HB; have HB := n0_; clear n0_; have p174 : 0 ≤ (x5_1 : Int) := as_; have q174 : x5_1 < (l0.length : Int) := as_; obtain ⟨ad174, A174_2, c174_2, e174, hx174_0, hx174_1, hx174_2, hl174_2, hi174_2⟩ := at_T33 HR0.out x5_1 p174 q174; have hw174_2 := hx174_2; have hw174_1 := hx174_1; have hw174_0 := hx174_0
                cases e174
                replace hx174_0 := hbc_ HB.out hx174_0; replace hx174_1 := hbc_ HB.out hx174_1; replace hx174_2 := hbc_ HB.out hx174_2; have HR174_2 := Aside0.mk hi174_2; have HC174_2 := Aside0.mk hl174_2; clear hi174_2 hl174_2; replace p174 := eq_true p174; replace q174 := eq_true q174; have p175 : 0 ≤ (x5_1 : Int) := as_; have q175 : x5_1 < (l1.length : Int) := as_; obtain ⟨ad175, A175_2, c175_2, e175, hx175_0, hx175_1, hx175_2, hl175_2, hi175_2⟩ := at_T33 HR1.out x5_1 p175 q175; have hw175_2 := hx175_2; have hw175_1 := hx175_1; have hw175_0 := hx175_0
                cases e175
                replace hx175_0 := hbc_ HB.out hx175_0; replace hx175_1 := hbc_ HB.out hx175_1; replace hx175_2 := hbc_ HB.out hx175_2; have HR175_2 := Aside0.mk hi175_2; have HC175_2 := Aside0.mk hl175_2; clear hi175_2 hl175_2; replace p175 := eq_true p175; replace q175 := eq_true q175; refine start_ (n := 10) (S := fun w' => w'.cell? (ad174.add ((x5_1).toNat * 3)) = some (.int .i64 ((rd_I_Term l0 x5_1).f0)) ∧ w'.cell? ⟨(ad174.add ((x5_1).toNat * 3)).block, (ad174.add ((x5_1).toNat * 3)).off + 1, none⟩ = some (.int .i64 ((rd_I_Term l0 x5_1).f1)) ∧ w'.cell? ⟨(ad174.add ((x5_1).toNat * 3)).block, (ad174.add ((x5_1).toNat * 3)).off + 2, none⟩ = some (.slice A174_2 ((rd_I_Term l0 x5_1).f2).length c174_2) ∧ w'.cell? (ad175.add ((x5_1).toNat * 3)) = some (.int .i64 ((rd_I_Term l1 x5_1).f0)) ∧ w'.cell? ⟨(ad175.add ((x5_1).toNat * 3)).block, (ad175.add ((x5_1).toNat * 3)).off + 1, none⟩ = some (.int .i64 ((rd_I_Term l1 x5_1).f1)) ∧ w'.cell? ⟨(ad175.add ((x5_1).toNat * 3)).block, (ad175.add ((x5_1).toNat * 3)).off + 2, none⟩ = some (.slice A175_2 ((rd_I_Term l1 x5_1).f2).length c175_2)) (ds := []) (bm 10 0) (by kernel_rfl) rfl (by kernel_rfl) ⟨(hbc_ HB.out hw174_0 :), (hbc_ HB.out hw174_1 :), (hbc_ HB.out hw174_2 :), (hbc_ HB.out hw175_0 :), (hbc_ HB.out hw175_1 :), (hbc_ HB.out hw175_2 :)⟩ (fun hHeld => ?_); refine with_tabW laws_eqTermS.tab6 laws_eqTermS.bits6 (fun HT_ HW_ => ?_)
                generalize wr.drew = w11 at HB HR174_2 HR175_2 hx174_0 hx174_1 hx174_2 hx175_0 hx175_1 hx175_2 hHeld ⊢
                refine pv_ 0 HT_.out ?_; refine pv_ 1 HT_.out ?_; refine pv_ 2 HT_.out ?_; refine pv_ 4 HT_.out ?_; refine pv_ 5 HT_.out ?_; refine pv_ 6 HT_.out ?_; refine tv_ 3 HT_.out HW_.out hHeld ?_; refine tv_ 7 HT_.out HW_.out hHeld ?_; refine one_ (i := 8) (N := some 25) (bm 10 511) rfl rfl (one_of HT_.out (by kernel_rfl)) (by decide) (fun K hK => ?_); refine goes_ Try.func22 (by kernel_rfl) rfl #[.agg #[.int .i64 ((rd_I_Term l0 x5_1).f0), .int .i64 ((rd_I_Term l0 x5_1).f1), .slice A174_2 ((rd_I_Term l0 x5_1).f2).length c174_2], .agg #[.int .i64 ((rd_I_Term l1 x5_1).f0), .int .i64 ((rd_I_Term l1 x5_1).f1), .slice A175_2 ((rd_I_Term l1 x5_1).f2).length c175_2]] (by rfl) rfl rfl (by (try simp only [List.map_toArray, List.map_cons, List.map_nil]); first | done | rfl | (simp only [List.length_drop, List.length_take]; rfl)) ?_
                with_reducible refine (ihg_22 k1 (by have := HK1.out; omega) ((rd_I_Term l0 x5_1).f0) ((rd_I_Term l0 x5_1).f1) _ _ ((rd_I_Term l0 x5_1).f2) ((rd_I_Term l1 x5_1).f0) ((rd_I_Term l1 x5_1).f1) _ _ ((rd_I_Term l1 x5_1).f2) false _ ?side1 ?side2 ?side3 ?side4 A7.out).mono ?_
                (case side1 => exact cb_ HR174_2.out HB.out); (case side2 => exact HC174_2.out); (case side3 => exact cb_ HR175_2.out HB.out); (case side4 => exact HC175_2.out); rintro e w12 ⟨rfl, hb⟩; refine ⟨_, rfl, ?_⟩; have n0_ := Aside0.mk (below_step (bl_ HB.out) hb); clear HB; have HB := n0_; clear n0_; (try clear hb); (try clear hb2); (try clear hk); (try clear hi); refine hK.out _ _ ⟨(hbc_ HB.out hw174_0 :), (hbc_ HB.out hw174_1 :), (hbc_ HB.out hw174_2 :), (hbc_ HB.out hw175_0 :), (hbc_ HB.out hw175_1 :), (hbc_ HB.out hw175_2 :)⟩ (fun hHeld => ?_); clear hK K; refine norm_ (a' := ?_) ?_ ?_
                rotate_left
                · show Act.put _ (some 25) _ = _
                  simp only [Act.put, List.setIfInBounds_toArray, List.set_cons_zero, List.set_cons_succ, i64_w, i32_w]
                  rfl
                refine pv_ 9 HT_.out ?_; refine done_ (done_of HT_.out (by kernel_rfl)) ?_
                try go_wp2
                go_ret
                exact fin_ (bl_ HB.out)
            · rw [if_neg c6] at H; exact absurd H (by simp)
          · rw [if_neg c5] at H; exact absurd H (by simp)
        · rw [if_neg c4] at H; have c4b0 := decide_eq_false c4; clear c4; obtain rfl := Option.some.inj H
          go_wp2
          go_ret
          exact fin_ (bl_ HB.out)
  · rw [if_neg c3] at H; have c3b0 : ((l0.length : Int) == (l1.length : Int)) = false := beq_eq_false_iff_ne.mpr c3; have c3b1 : ((l0.length : Int) != (l1.length : Int)) = true := bne_iff_ne.mpr c3; have c3b2 : (l0.length == l1.length) = false := by first | simpa using c3 | (simp at c3 ⊢; omega)
    obtain rfl := Option.some.inj H
    go_enter Try.func39, Try.ntmps39
    go_wp2
    go_ret
    exact fin_ (bl_ HB.out)

/-! ### laws_eqTerm: function 22 -/
set_option maxHeartbeats 8000000 in
set_option maxRecDepth 100000 in
theorem laws_eqTerm.step (k : Nat) (ihg_39 : ∀ m, m < k → ∀ (A0 : Option Addr) (c0 : Nat) (l0 : List (I_Term)) (A1 : Option Addr) (c1 : Nat) (l1 : List (I_Term)) (r : Bool) (w : World) (hr0 : Kd.C k33 w A0 l0.length l0) (hc0 : l0.length ≤ c0) (hr1 : Kd.C k33 w A1 l1.length l1) (hc1 : l1.length ≤ c1) (h : laws_eqTermS.f m l0 l1 = some r),
    Calls Try.prog 39 #[.slice A0 l0.length c0, .slice A1 l1.length c1] w fun e w' => e = .returned (.bool r) ∧ Below w.heap.size w w') (ihg_22 : ∀ m, m < k → ∀ (a0_0 : Int) (a0_1 : Int) (A0_2 : Option Addr) (c0_2 : Nat) (l0_2 : List (I_Term)) (a1_0 : Int) (a1_1 : Int) (A1_2 : Option Addr) (c1_2 : Nat) (l1_2 : List (I_Term)) (r : Bool) (w : World) (hr0_2 : Kd.C k33 w A0_2 l0_2.length l0_2) (hc0_2 : l0_2.length ≤ c0_2) (hr1_2 : Kd.C k33 w A1_2 l1_2.length l1_2) (hc1_2 : l1_2.length ≤ c1_2) (h : laws_eqTerm.f m a0_0 a0_1 l0_2 a1_0 a1_1 l1_2 = some r),
    Calls Try.prog 22 #[.agg #[.int .i64 a0_0, .int .i64 a0_1, .slice A0_2 l0_2.length c0_2], .agg #[.int .i64 a1_0, .int .i64 a1_1, .slice A1_2 l1_2.length c1_2]] w fun e w' => e = .returned (.bool r) ∧ Below w.heap.size w w') : ∀ (a0_0 : Int) (a0_1 : Int) (A0_2 : Option Addr) (c0_2 : Nat) (l0_2 : List (I_Term)) (a1_0 : Int) (a1_1 : Int) (A1_2 : Option Addr) (c1_2 : Nat) (l1_2 : List (I_Term)) (r : Bool) (w : World) (hr0_2 : Kd.C k33 w A0_2 l0_2.length l0_2) (hc0_2 : l0_2.length ≤ c0_2) (hr1_2 : Kd.C k33 w A1_2 l1_2.length l1_2) (hc1_2 : l1_2.length ≤ c1_2) (h : laws_eqTerm.f k a0_0 a0_1 l0_2 a1_0 a1_1 l1_2 = some r),
    Calls Try.prog 22 #[.agg #[.int .i64 a0_0, .int .i64 a0_1, .slice A0_2 l0_2.length c0_2], .agg #[.int .i64 a1_0, .int .i64 a1_1, .slice A1_2 l1_2.length c1_2]] w fun e w' => e = .returned (.bool r) ∧ Below w.heap.size w w' := by
  intro a0_0 a0_1 A0_2 c0_2 l0_2 a1_0 a1_1 A1_2 c1_2 l1_2 r w hr0_2 hc0_2 hr1_2 hc1_2 h
  cases k with
  | zero => exact absurd h (by simp [laws_eqTerm.f])
  | succ k =>
  simp only [laws_eqTerm.f] at h
  have hu33 := Try.underlying33; have HR0_2 := Aside0.mk hr0_2; have HC0_2 := Aside0.mk hc0_2; clear hr0_2 hc0_2; have HR1_2 := Aside0.mk hr1_2; have HC1_2 := Aside0.mk hc1_2; clear hr1_2 hc1_2; have HB := Aside0.mk (Below.refl w.heap.size w); have H : (if a0_0 = a1_0 then (if a0_1 = a1_1 then ((laws_eqTermS.f k l0_2 l1_2).bind fun t179 => (if t179 = true then (some true) else (some false))) else (some false)) else (some false)) = some r := h; clear h
  by_cases c3 : a0_0 = a1_0
  · rw [if_pos c3] at H; have c3b0 : (a0_0 == a1_0) = true := beq_iff_eq.mpr c3; have c3b1 : (a0_0 != a1_0) = false := bne_eq_false_iff_eq.mpr c3; clear c3
    by_cases c4 : a0_1 = a1_1
    · rw [if_pos c4] at H; have c4b0 : (a0_1 == a1_1) = true := beq_iff_eq.mpr c4; have c4b1 : (a0_1 != a1_1) = false := bne_eq_false_iff_eq.mpr c4; clear c4; replace H := Option.bind_eq_some_iff.mp H; obtain ⟨t179, A50, H⟩ := H; replace H : (if t179 = true then (some true) else (some false)) = some r := H; have A5 := Aside0.mk A50; clear A50
      by_cases c6 : t179 = true
      · subst c6; rw [if_pos rfl] at H; obtain rfl := Option.some.inj H
        go_enter Try.func22, Try.ntmps22
        go_wp2_with (first | ((with_reducible refine gate_dst (N := 2) rfl ?_); refine bxe_ (N := 2) (cs := #[.int .i64 a0_0, .int .i64 a0_1, .slice A0_2 l0_2.length c0_2]) (t := 33) ?_; intro gb177 hg w7 hbox hb; have n0_ := Aside0.mk (below_step (bl_ HB.out) hb); have n1_ := Aside0.mk (hbox); have n2_ := Aside0.mk (lg_ hg (bl_ HB.out)); have n3_ := Aside0.mk (lg_ hg (bl_ HB.out)); clear HB; have HB := n0_; have BK177 := n1_; have GW177 := n2_; have GE177 := n3_; clear n0_ n1_ n2_ n3_; clear hb hbox hg) | ((with_reducible refine gate_dst (N := 3) rfl ?_); refine bxe_ (N := 3) (cs := #[.int .i64 a1_0, .int .i64 a1_1, .slice A1_2 l1_2.length c1_2]) (t := 33) ?_; intro gb178 hg w8 hbox hb; have n0_ := Aside0.mk (blk_below (bk_ BK177.out) hb); have n1_ := Aside0.mk (below_step (bs1_ HB.out GE177.out) hb); have n2_ := Aside0.mk (hbox); have n3_ := Aside0.mk (lg_ hg (bs1_ HB.out GE177.out)); have n4_ := Aside0.mk (lg_ hg (bs1_ HB.out GE177.out)); have n5_ := Aside0.mk (nl_ hg (bk_ BK177.out)); have n6_ := Aside0.mk (ng_ hg (bk_ BK177.out)); clear BK177; clear HB; have BK177 := n0_; have HB := n1_; have BK178 := n2_; have GW178 := n3_; have GE178 := n4_; have NB177_178 := n5_; have NB178_177 := n6_; clear n0_ n1_ n2_ n3_ n4_ n5_ n6_; clear hb hbox hg; have hnb9 := NB177_178.out; have hnc9 := NB178_177.out; have hcz10_0 := bc_ BK177.out 0; have hcz10_1 := bc_ BK177.out 1; have hcz10_2 := bc_ BK177.out 2; have hfz10_0 := blk_frozen BK177.out 0; have hfz10_1 := blk_frozen BK177.out 1; have hfz10_2 := blk_frozen BK177.out 2; have hcz11_0 := bc_ BK178.out 0; have hcz11_1 := bc_ BK178.out 1; have hcz11_2 := bc_ BK178.out 2; have hfz11_0 := blk_frozen BK178.out 0; have hfz11_1 := blk_frozen BK178.out 1; have hfz11_2 := blk_frozen BK178.out 2) | ((with_reducible refine gate_callee (f := 39) rfl ?_); refine goesM_ (some 19) rfl rfl Try.func39 (by kernel_rfl) rfl #[.slice A0_2 l0_2.length c0_2, .slice A1_2 l1_2.length c1_2] rfl ?_; (with_reducible refine (ihg_39 k (by omega) _ _ l0_2 _ _ l1_2 true _ ?side1 ?side2 ?side3 ?side4 A5.out).mono ?_); (case side1 => exact cb_ HR0_2.out HB.out); (case side2 => exact HC0_2.out); (case side3 => exact cb_ HR1_2.out HB.out); (case side4 => exact HC1_2.out); rintro e w12 ⟨rfl, hb⟩; refine ⟨_, rfl, ?_⟩; have n0_ := Aside0.mk (blk_below (bk_ BK177.out) hb); have n1_ := Aside0.mk (blk_below (bk_ BK178.out) hb); have n2_ := Aside0.mk (below_step (bs2_ HB.out GE177.out GE178.out) hb); clear BK177; clear BK178; clear HB; have BK177 := n0_; have BK178 := n1_; have HB := n2_; clear n0_ n1_ n2_; (try clear hb); (try clear hb2); (try clear hk); (try clear hi)))
        go_ret
        exact fin_ (bs2_ HB.out GE177.out GE178.out)
      · replace c6 := Bool.eq_false_iff.mpr c6; subst c6; rw [if_neg (show ¬ (false = true) by decide)] at H; obtain rfl := Option.some.inj H
        go_enter Try.func22, Try.ntmps22
        go_wp2_with (first | ((with_reducible refine gate_dst (N := 2) rfl ?_); refine bxe_ (N := 2) (cs := #[.int .i64 a0_0, .int .i64 a0_1, .slice A0_2 l0_2.length c0_2]) (t := 33) ?_; intro gb177 hg w13 hbox hb; have n0_ := Aside0.mk (below_step (bl_ HB.out) hb); have n1_ := Aside0.mk (hbox); have n2_ := Aside0.mk (lg_ hg (bl_ HB.out)); have n3_ := Aside0.mk (lg_ hg (bl_ HB.out)); clear HB; have HB := n0_; have BK177 := n1_; have GW177 := n2_; have GE177 := n3_; clear n0_ n1_ n2_ n3_; clear hb hbox hg) | ((with_reducible refine gate_dst (N := 3) rfl ?_); refine bxe_ (N := 3) (cs := #[.int .i64 a1_0, .int .i64 a1_1, .slice A1_2 l1_2.length c1_2]) (t := 33) ?_; intro gb178 hg w14 hbox hb; have n0_ := Aside0.mk (blk_below (bk_ BK177.out) hb); have n1_ := Aside0.mk (below_step (bs1_ HB.out GE177.out) hb); have n2_ := Aside0.mk (hbox); have n3_ := Aside0.mk (lg_ hg (bs1_ HB.out GE177.out)); have n4_ := Aside0.mk (lg_ hg (bs1_ HB.out GE177.out)); have n5_ := Aside0.mk (nl_ hg (bk_ BK177.out)); have n6_ := Aside0.mk (ng_ hg (bk_ BK177.out)); clear BK177; clear HB; have BK177 := n0_; have HB := n1_; have BK178 := n2_; have GW178 := n3_; have GE178 := n4_; have NB177_178 := n5_; have NB178_177 := n6_; clear n0_ n1_ n2_ n3_ n4_ n5_ n6_; clear hb hbox hg; have hnb15 := NB177_178.out; have hnc15 := NB178_177.out; have hcz16_0 := bc_ BK177.out 0; have hcz16_1 := bc_ BK177.out 1; have hcz16_2 := bc_ BK177.out 2; have hfz16_0 := blk_frozen BK177.out 0; have hfz16_1 := blk_frozen BK177.out 1; have hfz16_2 := blk_frozen BK177.out 2; have hcz17_0 := bc_ BK178.out 0; have hcz17_1 := bc_ BK178.out 1; have hcz17_2 := bc_ BK178.out 2; have hfz17_0 := blk_frozen BK178.out 0; have hfz17_1 := blk_frozen BK178.out 1; have hfz17_2 := blk_frozen BK178.out 2) | ((with_reducible refine gate_callee (f := 39) rfl ?_); refine goesM_ (some 19) rfl rfl Try.func39 (by kernel_rfl) rfl #[.slice A0_2 l0_2.length c0_2, .slice A1_2 l1_2.length c1_2] rfl ?_; (with_reducible refine (ihg_39 k (by omega) _ _ l0_2 _ _ l1_2 false _ ?side1 ?side2 ?side3 ?side4 A5.out).mono ?_); (case side1 => exact cb_ HR0_2.out HB.out); (case side2 => exact HC0_2.out); (case side3 => exact cb_ HR1_2.out HB.out); (case side4 => exact HC1_2.out); rintro e w18 ⟨rfl, hb⟩; refine ⟨_, rfl, ?_⟩; have n0_ := Aside0.mk (blk_below (bk_ BK177.out) hb); have n1_ := Aside0.mk (blk_below (bk_ BK178.out) hb); have n2_ := Aside0.mk (below_step (bs2_ HB.out GE177.out GE178.out) hb); clear BK177; clear BK178; clear HB; have BK177 := n0_; have BK178 := n1_; have HB := n2_; clear n0_ n1_ n2_; (try clear hb); (try clear hb2); (try clear hk); (try clear hi)))
        go_ret
        exact fin_ (bs2_ HB.out GE177.out GE178.out)
    · rw [if_neg c4] at H; have c4b0 : (a0_1 == a1_1) = false := beq_eq_false_iff_ne.mpr c4; have c4b1 : (a0_1 != a1_1) = true := bne_iff_ne.mpr c4; obtain rfl := Option.some.inj H
      go_enter Try.func22, Try.ntmps22
      go_wp2_with (first | ((with_reducible refine gate_dst (N := 2) rfl ?_); refine bxe_ (N := 2) (cs := #[.int .i64 a0_0, .int .i64 a0_1, .slice A0_2 l0_2.length c0_2]) (t := 33) ?_; intro gb177 hg w19 hbox hb; have n0_ := Aside0.mk (below_step (bl_ HB.out) hb); have n1_ := Aside0.mk (hbox); have n2_ := Aside0.mk (lg_ hg (bl_ HB.out)); have n3_ := Aside0.mk (lg_ hg (bl_ HB.out)); clear HB; have HB := n0_; have BK177 := n1_; have GW177 := n2_; have GE177 := n3_; clear n0_ n1_ n2_ n3_; clear hb hbox hg) | ((with_reducible refine gate_dst (N := 3) rfl ?_); refine bxe_ (N := 3) (cs := #[.int .i64 a1_0, .int .i64 a1_1, .slice A1_2 l1_2.length c1_2]) (t := 33) ?_; intro gb178 hg w20 hbox hb; have n0_ := Aside0.mk (blk_below (bk_ BK177.out) hb); have n1_ := Aside0.mk (below_step (bs1_ HB.out GE177.out) hb); have n2_ := Aside0.mk (hbox); have n3_ := Aside0.mk (lg_ hg (bs1_ HB.out GE177.out)); have n4_ := Aside0.mk (lg_ hg (bs1_ HB.out GE177.out)); have n5_ := Aside0.mk (nl_ hg (bk_ BK177.out)); have n6_ := Aside0.mk (ng_ hg (bk_ BK177.out)); clear BK177; clear HB; have BK177 := n0_; have HB := n1_; have BK178 := n2_; have GW178 := n3_; have GE178 := n4_; have NB177_178 := n5_; have NB178_177 := n6_; clear n0_ n1_ n2_ n3_ n4_ n5_ n6_; clear hb hbox hg; have hnb21 := NB177_178.out; have hnc21 := NB178_177.out; have hcz22_0 := bc_ BK177.out 0; have hcz22_1 := bc_ BK177.out 1; have hcz22_2 := bc_ BK177.out 2; have hfz22_0 := blk_frozen BK177.out 0; have hfz22_1 := blk_frozen BK177.out 1; have hfz22_2 := blk_frozen BK177.out 2; have hcz23_0 := bc_ BK178.out 0; have hcz23_1 := bc_ BK178.out 1; have hcz23_2 := bc_ BK178.out 2; have hfz23_0 := blk_frozen BK178.out 0; have hfz23_1 := blk_frozen BK178.out 1; have hfz23_2 := blk_frozen BK178.out 2))
      go_ret
      exact fin_ (bs2_ HB.out GE177.out GE178.out)
  · rw [if_neg c3] at H; have c3b0 : (a0_0 == a1_0) = false := beq_eq_false_iff_ne.mpr c3; have c3b1 : (a0_0 != a1_0) = true := bne_iff_ne.mpr c3; obtain rfl := Option.some.inj H
    go_enter Try.func22, Try.ntmps22
    go_wp2_with (first | ((with_reducible refine gate_dst (N := 2) rfl ?_); refine bxe_ (N := 2) (cs := #[.int .i64 a0_0, .int .i64 a0_1, .slice A0_2 l0_2.length c0_2]) (t := 33) ?_; intro gb177 hg w24 hbox hb; have n0_ := Aside0.mk (below_step (bl_ HB.out) hb); have n1_ := Aside0.mk (hbox); have n2_ := Aside0.mk (lg_ hg (bl_ HB.out)); have n3_ := Aside0.mk (lg_ hg (bl_ HB.out)); clear HB; have HB := n0_; have BK177 := n1_; have GW177 := n2_; have GE177 := n3_; clear n0_ n1_ n2_ n3_; clear hb hbox hg) | ((with_reducible refine gate_dst (N := 3) rfl ?_); refine bxe_ (N := 3) (cs := #[.int .i64 a1_0, .int .i64 a1_1, .slice A1_2 l1_2.length c1_2]) (t := 33) ?_; intro gb178 hg w25 hbox hb; have n0_ := Aside0.mk (blk_below (bk_ BK177.out) hb); have n1_ := Aside0.mk (below_step (bs1_ HB.out GE177.out) hb); have n2_ := Aside0.mk (hbox); have n3_ := Aside0.mk (lg_ hg (bs1_ HB.out GE177.out)); have n4_ := Aside0.mk (lg_ hg (bs1_ HB.out GE177.out)); have n5_ := Aside0.mk (nl_ hg (bk_ BK177.out)); have n6_ := Aside0.mk (ng_ hg (bk_ BK177.out)); clear BK177; clear HB; have BK177 := n0_; have HB := n1_; have BK178 := n2_; have GW178 := n3_; have GE178 := n4_; have NB177_178 := n5_; have NB178_177 := n6_; clear n0_ n1_ n2_ n3_ n4_ n5_ n6_; clear hb hbox hg; have hnb26 := NB177_178.out; have hnc26 := NB178_177.out; have hcz27_0 := bc_ BK177.out 0; have hcz27_1 := bc_ BK177.out 1; have hcz27_2 := bc_ BK177.out 2; have hfz27_0 := blk_frozen BK177.out 0; have hfz27_1 := blk_frozen BK177.out 1; have hfz27_2 := blk_frozen BK177.out 2; have hcz28_0 := bc_ BK178.out 0; have hcz28_1 := bc_ BK178.out 1; have hcz28_2 := bc_ BK178.out 2; have hfz28_0 := blk_frozen BK178.out 0; have hfz28_1 := blk_frozen BK178.out 1; have hfz28_2 := blk_frozen BK178.out 2))
    go_ret
    exact fin_ (bs2_ HB.out GE177.out GE178.out)

theorem laws_eqTermS.grp_all (k : Nat) : (∀ (A0 : Option Addr) (c0 : Nat) (l0 : List (I_Term)) (A1 : Option Addr) (c1 : Nat) (l1 : List (I_Term)) (r : Bool) (w : World) (hr0 : Kd.C k33 w A0 l0.length l0) (hc0 : l0.length ≤ c0) (hr1 : Kd.C k33 w A1 l1.length l1) (hc1 : l1.length ≤ c1) (h : laws_eqTermS.f k l0 l1 = some r),
    Calls Try.prog 39 #[.slice A0 l0.length c0, .slice A1 l1.length c1] w fun e w' => e = .returned (.bool r) ∧ Below w.heap.size w w') ∧ (∀ (a0_0 : Int) (a0_1 : Int) (A0_2 : Option Addr) (c0_2 : Nat) (l0_2 : List (I_Term)) (a1_0 : Int) (a1_1 : Int) (A1_2 : Option Addr) (c1_2 : Nat) (l1_2 : List (I_Term)) (r : Bool) (w : World) (hr0_2 : Kd.C k33 w A0_2 l0_2.length l0_2) (hc0_2 : l0_2.length ≤ c0_2) (hr1_2 : Kd.C k33 w A1_2 l1_2.length l1_2) (hc1_2 : l1_2.length ≤ c1_2) (h : laws_eqTerm.f k a0_0 a0_1 l0_2 a1_0 a1_1 l1_2 = some r),
    Calls Try.prog 22 #[.agg #[.int .i64 a0_0, .int .i64 a0_1, .slice A0_2 l0_2.length c0_2], .agg #[.int .i64 a1_0, .int .i64 a1_1, .slice A1_2 l1_2.length c1_2]] w fun e w' => e = .returned (.bool r) ∧ Below w.heap.size w w') := by
  induction k using Nat.strongRecOn with
  | _ k ih =>
  exact ⟨laws_eqTermS.step k (fun m hm => (ih m hm).1) (fun m hm => (ih m hm).2), laws_eqTerm.step k (fun m hm => (ih m hm).1) (fun m hm => (ih m hm).2)⟩
theorem laws_eqTermS.calls (k : Nat) : ∀ (A0 : Option Addr) (c0 : Nat) (l0 : List (I_Term)) (A1 : Option Addr) (c1 : Nat) (l1 : List (I_Term)) (r : Bool) (w : World) (hr0 : Kd.C k33 w A0 l0.length l0) (hc0 : l0.length ≤ c0) (hr1 : Kd.C k33 w A1 l1.length l1) (hc1 : l1.length ≤ c1) (h : laws_eqTermS.f k l0 l1 = some r),
    Calls Try.prog 39 #[.slice A0 l0.length c0, .slice A1 l1.length c1] w fun e w' => e = .returned (.bool r) ∧ Below w.heap.size w w' := (laws_eqTermS.grp_all k).1
theorem laws_eqTerm.calls (k : Nat) : ∀ (a0_0 : Int) (a0_1 : Int) (A0_2 : Option Addr) (c0_2 : Nat) (l0_2 : List (I_Term)) (a1_0 : Int) (a1_1 : Int) (A1_2 : Option Addr) (c1_2 : Nat) (l1_2 : List (I_Term)) (r : Bool) (w : World) (hr0_2 : Kd.C k33 w A0_2 l0_2.length l0_2) (hc0_2 : l0_2.length ≤ c0_2) (hr1_2 : Kd.C k33 w A1_2 l1_2.length l1_2) (hc1_2 : l1_2.length ≤ c1_2) (h : laws_eqTerm.f k a0_0 a0_1 l0_2 a1_0 a1_1 l1_2 = some r),
    Calls Try.prog 22 #[.agg #[.int .i64 a0_0, .int .i64 a0_1, .slice A0_2 l0_2.length c0_2], .agg #[.int .i64 a1_0, .int .i64 a1_1, .slice A1_2 l1_2.length c1_2]] w fun e w' => e = .returned (.bool r) ∧ Below w.heap.size w w' := (laws_eqTermS.grp_all k).2

/-! ### laws_eqLit: function 99 -/
def laws_eqLit.f (k : Nat) (a0_0 : Bool) (a0_1 : Int) (a0_2 : Int) (l0_3 : List (I_Term)) (a0_4 : Int) (a0_5 : Int) (l0_6 : List (I_Term)) (a1_0 : Bool) (a1_1 : Int) (a1_2 : Int) (l1_3 : List (I_Term)) (a1_4 : Int) (a1_5 : Int) (l1_6 : List (I_Term)) : Option (Bool) := if (a0_0 != a1_0) = true then (some false) else ((laws_eqTerm.f k a0_1 a0_2 l0_3 a1_1 a1_2 l1_3).bind fun t182 => (if t182 = true then ((laws_eqTerm.f k a0_4 a0_5 l0_6 a1_4 a1_5 l1_6).bind fun t183 => (if t183 = true then (some true) else (some false))) else (some false)))
theorem laws_eqLit.mono : ∀ a0 a1 a2 a3 a4 a5 a6 a7 a8 a9 a10 a11 a12 a13 k, LeO (laws_eqLit.f k a0 a1 a2 a3 a4 a5 a6 a7 a8 a9 a10 a11 a12 a13) (laws_eqLit.f (k + 1) a0 a1 a2 a3 a4 a5 a6 a7 a8 a9 a10 a11 a12 a13) := by
  intro a0 a1 a2 a3 a4 a5 a6 a7 a8 a9 a10 a11 a12 a13 k
  unfold laws_eqLit.f
  repeat' first
      | (with_reducible exact laws_eqTerm.mono _ _ _ _ _ _ _)
      | (with_reducible exact LeO.refl _)
      | (with_reducible exact LeO.none _)
      | (with_reducible refine LeO.ite ?_ ?_)
      | (with_reducible refine LeO.bind ?_ (fun _ => ?_))
      | exact laws_eqTerm.mono _ _ _ _ _ _ _
      | exact LeO.none _
      | refine LeO.ite ?_ ?_
      | refine LeO.bind ?_ (fun _ => ?_)
set_option maxHeartbeats 8000000 in
set_option maxRecDepth 100000 in
theorem laws_eqLit.calls (k : Nat) (a0_0 : Bool) (a0_1 : Int) (a0_2 : Int) (A0_3 : Option Addr) (c0_3 : Nat) (l0_3 : List (I_Term)) (a0_4 : Int) (a0_5 : Int) (A0_6 : Option Addr) (c0_6 : Nat) (l0_6 : List (I_Term)) (a1_0 : Bool) (a1_1 : Int) (a1_2 : Int) (A1_3 : Option Addr) (c1_3 : Nat) (l1_3 : List (I_Term)) (a1_4 : Int) (a1_5 : Int) (A1_6 : Option Addr) (c1_6 : Nat) (l1_6 : List (I_Term)) (r : Bool) (w : World) (hr0_3 : Kd.C k33 w A0_3 l0_3.length l0_3) (hc0_3 : l0_3.length ≤ c0_3) (hr0_6 : Kd.C k33 w A0_6 l0_6.length l0_6) (hc0_6 : l0_6.length ≤ c0_6) (hr1_3 : Kd.C k33 w A1_3 l1_3.length l1_3) (hc1_3 : l1_3.length ≤ c1_3) (hr1_6 : Kd.C k33 w A1_6 l1_6.length l1_6) (hc1_6 : l1_6.length ≤ c1_6) (h : laws_eqLit.f k a0_0 a0_1 a0_2 l0_3 a0_4 a0_5 l0_6 a1_0 a1_1 a1_2 l1_3 a1_4 a1_5 l1_6 = some r) :
    Calls Try.prog 99 #[.agg #[.bool a0_0, .int .i64 a0_1, .int .i64 a0_2, .slice A0_3 l0_3.length c0_3, .int .i64 a0_4, .int .i64 a0_5, .slice A0_6 l0_6.length c0_6], .agg #[.bool a1_0, .int .i64 a1_1, .int .i64 a1_2, .slice A1_3 l1_3.length c1_3, .int .i64 a1_4, .int .i64 a1_5, .slice A1_6 l1_6.length c1_6]] w fun e w' => e = .returned (.bool r) ∧ Below w.heap.size w w' := by
  have hu119 := Try.underlying119; have hu33 := Try.underlying33; have HR0_3 := Aside0.mk hr0_3; have HC0_3 := Aside0.mk hc0_3; clear hr0_3 hc0_3; have HR0_6 := Aside0.mk hr0_6; have HC0_6 := Aside0.mk hc0_6; clear hr0_6 hc0_6; have HR1_3 := Aside0.mk hr1_3; have HC1_3 := Aside0.mk hc1_3; clear hr1_3 hc1_3; have HR1_6 := Aside0.mk hr1_6; have HC1_6 := Aside0.mk hc1_6; clear hr1_6 hc1_6; have HB := Aside0.mk (Below.refl w.heap.size w); have H : (if (a0_0 != a1_0) = true then (some false) else ((laws_eqTerm.f k a0_1 a0_2 l0_3 a1_1 a1_2 l1_3).bind fun t182 => (if t182 = true then ((laws_eqTerm.f k a0_4 a0_5 l0_6 a1_4 a1_5 l1_6).bind fun t183 => (if t183 = true then (some true) else (some false))) else (some false)))) = some r := h; clear h
  by_cases c3 : (a0_0 != a1_0) = true
  · rw [if_pos c3] at H; have c3b0 : (a0_0 != a1_0) = true := c3; (try (have c3b1 : decide (a0_0 = a1_0) = false := by simpa using c3)); (try (have c3b2 : (a0_0 == a1_0) = false := by simpa using c3)); (try (have c3b3 : (!(a0_0 == a1_0)) = true := by simpa using c3)); (try (have c3b4 : ¬ (a0_0 = a1_0) := by simpa using c3)); clear c3; obtain rfl := Option.some.inj H
    go_enter Try.func99, Try.ntmps99
    go_wp2_with (first | ((with_reducible refine gate_dst (N := 2) rfl ?_); refine bxe_ (N := 2) (cs := #[.bool a0_0, .int .i64 a0_1, .int .i64 a0_2, .slice A0_3 l0_3.length c0_3, .int .i64 a0_4, .int .i64 a0_5, .slice A0_6 l0_6.length c0_6]) (t := 119) ?_; intro gb180 hg w4 hbox hb; have n0_ := Aside0.mk (below_step (bl_ HB.out) hb); have n1_ := Aside0.mk (hbox); have n2_ := Aside0.mk (lg_ hg (bl_ HB.out)); have n3_ := Aside0.mk (lg_ hg (bl_ HB.out)); clear HB; have HB := n0_; have BK180 := n1_; have GW180 := n2_; have GE180 := n3_; clear n0_ n1_ n2_ n3_; clear hb hbox hg) | ((with_reducible refine gate_dst (N := 3) rfl ?_); refine bxe_ (N := 3) (cs := #[.bool a1_0, .int .i64 a1_1, .int .i64 a1_2, .slice A1_3 l1_3.length c1_3, .int .i64 a1_4, .int .i64 a1_5, .slice A1_6 l1_6.length c1_6]) (t := 119) ?_; intro gb181 hg w5 hbox hb; have n0_ := Aside0.mk (blk_below (bk_ BK180.out) hb); have n1_ := Aside0.mk (below_step (bs1_ HB.out GE180.out) hb); have n2_ := Aside0.mk (hbox); have n3_ := Aside0.mk (lg_ hg (bs1_ HB.out GE180.out)); have n4_ := Aside0.mk (lg_ hg (bs1_ HB.out GE180.out)); have n5_ := Aside0.mk (nl_ hg (bk_ BK180.out)); have n6_ := Aside0.mk (ng_ hg (bk_ BK180.out)); clear BK180; clear HB; have BK180 := n0_; have HB := n1_; have BK181 := n2_; have GW181 := n3_; have GE181 := n4_; have NB180_181 := n5_; have NB181_180 := n6_; clear n0_ n1_ n2_ n3_ n4_ n5_ n6_; clear hb hbox hg; have hnb6 := NB180_181.out; have hnc6 := NB181_180.out; have hcz7_0 := bc_ BK180.out 0; have hcz7_1 := bc_ BK180.out 1; have hcz7_2 := bc_ BK180.out 2; have hcz7_3 := bc_ BK180.out 3; have hcz7_4 := bc_ BK180.out 4; have hcz7_5 := bc_ BK180.out 5; have hcz7_6 := bc_ BK180.out 6; have hfz7_0 := blk_frozen BK180.out 0; have hfz7_1 := blk_frozen BK180.out 1; have hfz7_2 := blk_frozen BK180.out 2; have hfz7_3 := blk_frozen BK180.out 3; have hfz7_4 := blk_frozen BK180.out 4; have hfz7_5 := blk_frozen BK180.out 5; have hfz7_6 := blk_frozen BK180.out 6; have hcz8_0 := bc_ BK181.out 0; have hcz8_1 := bc_ BK181.out 1; have hcz8_2 := bc_ BK181.out 2; have hcz8_3 := bc_ BK181.out 3; have hcz8_4 := bc_ BK181.out 4; have hcz8_5 := bc_ BK181.out 5; have hcz8_6 := bc_ BK181.out 6; have hfz8_0 := blk_frozen BK181.out 0; have hfz8_1 := blk_frozen BK181.out 1; have hfz8_2 := blk_frozen BK181.out 2; have hfz8_3 := blk_frozen BK181.out 3; have hfz8_4 := blk_frozen BK181.out 4; have hfz8_5 := blk_frozen BK181.out 5; have hfz8_6 := blk_frozen BK181.out 6))
    go_ret
    exact fin_ (bs2_ HB.out GE180.out GE181.out)
  · rw [if_neg c3] at H; have c3b0 : (a0_0 != a1_0) = false := by simpa using c3
    (try (have c3b1 : decide (a0_0 = a1_0) = true := by simpa using c3)); (try (have c3b2 : (a0_0 == a1_0) = true := by simpa using c3)); (try (have c3b3 : (!(a0_0 == a1_0)) = false := by simpa using c3)); clear c3; replace H := Option.bind_eq_some_iff.mp H; obtain ⟨t182, A90, H⟩ := H; replace H : (if t182 = true then ((laws_eqTerm.f k a0_4 a0_5 l0_6 a1_4 a1_5 l1_6).bind fun t183 => (if t183 = true then (some true) else (some false))) else (some false)) = some r := H; have A9 := Aside0.mk A90; clear A90
    by_cases c10 : t182 = true
    · subst c10; rw [if_pos rfl] at H; replace H := Option.bind_eq_some_iff.mp H; obtain ⟨t183, A110, H⟩ := H; replace H : (if t183 = true then (some true) else (some false)) = some r := H; have A11 := Aside0.mk A110; clear A110
      by_cases c12 : t183 = true
      · subst c12; rw [if_pos rfl] at H; obtain rfl := Option.some.inj H
        go_enter Try.func99, Try.ntmps99
        go_wp2_with (first | ((with_reducible refine gate_dst (N := 2) rfl ?_); refine bxe_ (N := 2) (cs := #[.bool a0_0, .int .i64 a0_1, .int .i64 a0_2, .slice A0_3 l0_3.length c0_3, .int .i64 a0_4, .int .i64 a0_5, .slice A0_6 l0_6.length c0_6]) (t := 119) ?_; intro gb180 hg w13 hbox hb; have n0_ := Aside0.mk (below_step (bl_ HB.out) hb); have n1_ := Aside0.mk (hbox); have n2_ := Aside0.mk (lg_ hg (bl_ HB.out)); have n3_ := Aside0.mk (lg_ hg (bl_ HB.out)); clear HB; have HB := n0_; have BK180 := n1_; have GW180 := n2_; have GE180 := n3_; clear n0_ n1_ n2_ n3_; clear hb hbox hg) | ((with_reducible refine gate_dst (N := 3) rfl ?_); refine bxe_ (N := 3) (cs := #[.bool a1_0, .int .i64 a1_1, .int .i64 a1_2, .slice A1_3 l1_3.length c1_3, .int .i64 a1_4, .int .i64 a1_5, .slice A1_6 l1_6.length c1_6]) (t := 119) ?_; intro gb181 hg w14 hbox hb; have n0_ := Aside0.mk (blk_below (bk_ BK180.out) hb); have n1_ := Aside0.mk (below_step (bs1_ HB.out GE180.out) hb); have n2_ := Aside0.mk (hbox); have n3_ := Aside0.mk (lg_ hg (bs1_ HB.out GE180.out)); have n4_ := Aside0.mk (lg_ hg (bs1_ HB.out GE180.out)); have n5_ := Aside0.mk (nl_ hg (bk_ BK180.out)); have n6_ := Aside0.mk (ng_ hg (bk_ BK180.out)); clear BK180; clear HB; have BK180 := n0_; have HB := n1_; have BK181 := n2_; have GW181 := n3_; have GE181 := n4_; have NB180_181 := n5_; have NB181_180 := n6_; clear n0_ n1_ n2_ n3_ n4_ n5_ n6_; clear hb hbox hg; have hnb15 := NB180_181.out; have hnc15 := NB181_180.out; have hcz16_0 := bc_ BK180.out 0; have hcz16_1 := bc_ BK180.out 1; have hcz16_2 := bc_ BK180.out 2; have hcz16_3 := bc_ BK180.out 3; have hcz16_4 := bc_ BK180.out 4; have hcz16_5 := bc_ BK180.out 5; have hcz16_6 := bc_ BK180.out 6; have hfz16_0 := blk_frozen BK180.out 0; have hfz16_1 := blk_frozen BK180.out 1; have hfz16_2 := blk_frozen BK180.out 2; have hfz16_3 := blk_frozen BK180.out 3; have hfz16_4 := blk_frozen BK180.out 4; have hfz16_5 := blk_frozen BK180.out 5; have hfz16_6 := blk_frozen BK180.out 6; have hcz17_0 := bc_ BK181.out 0; have hcz17_1 := bc_ BK181.out 1; have hcz17_2 := bc_ BK181.out 2; have hcz17_3 := bc_ BK181.out 3; have hcz17_4 := bc_ BK181.out 4; have hcz17_5 := bc_ BK181.out 5; have hcz17_6 := bc_ BK181.out 6; have hfz17_0 := blk_frozen BK181.out 0; have hfz17_1 := blk_frozen BK181.out 1; have hfz17_2 := blk_frozen BK181.out 2; have hfz17_3 := blk_frozen BK181.out 3; have hfz17_4 := blk_frozen BK181.out 4; have hfz17_5 := blk_frozen BK181.out 5; have hfz17_6 := blk_frozen BK181.out 6) | ((with_reducible refine gate_callee (f := 22) rfl ?_); refine goesM_ (some 14) rfl rfl Try.func22 (by kernel_rfl) rfl #[.agg #[.int .i64 a0_1, .int .i64 a0_2, .slice A0_3 l0_3.length c0_3], .agg #[.int .i64 a1_1, .int .i64 a1_2, .slice A1_3 l1_3.length c1_3]] rfl ?_; (with_reducible refine (laws_eqTerm.calls k a0_1 a0_2 _ _ l0_3 a1_1 a1_2 _ _ l1_3 true _ ?side1 ?side2 ?side3 ?side4 A9.out).mono ?_); (case side1 => exact cb_ HR0_3.out HB.out); (case side2 => exact HC0_3.out); (case side3 => exact cb_ HR1_3.out HB.out); (case side4 => exact HC1_3.out); rintro e w18 ⟨rfl, hb⟩; refine ⟨_, rfl, ?_⟩; have n0_ := Aside0.mk (blk_below (bk_ BK180.out) hb); have n1_ := Aside0.mk (blk_below (bk_ BK181.out) hb); have n2_ := Aside0.mk (below_step (bs2_ HB.out GE180.out GE181.out) hb); clear BK180; clear BK181; clear HB; have BK180 := n0_; have BK181 := n1_; have HB := n2_; clear n0_ n1_ n2_; (try clear hb); (try clear hb2); (try clear hk); (try clear hi); have hcz19_0 := bc_ BK180.out 0; have hcz19_1 := bc_ BK180.out 1; have hcz19_2 := bc_ BK180.out 2; have hcz19_3 := bc_ BK180.out 3; have hcz19_4 := bc_ BK180.out 4; have hcz19_5 := bc_ BK180.out 5; have hcz19_6 := bc_ BK180.out 6; have hfz19_0 := blk_frozen BK180.out 0; have hfz19_1 := blk_frozen BK180.out 1; have hfz19_2 := blk_frozen BK180.out 2; have hfz19_3 := blk_frozen BK180.out 3; have hfz19_4 := blk_frozen BK180.out 4; have hfz19_5 := blk_frozen BK180.out 5; have hfz19_6 := blk_frozen BK180.out 6; have hcz20_0 := bc_ BK181.out 0; have hcz20_1 := bc_ BK181.out 1; have hcz20_2 := bc_ BK181.out 2; have hcz20_3 := bc_ BK181.out 3; have hcz20_4 := bc_ BK181.out 4; have hcz20_5 := bc_ BK181.out 5; have hcz20_6 := bc_ BK181.out 6; have hfz20_0 := blk_frozen BK181.out 0; have hfz20_1 := blk_frozen BK181.out 1; have hfz20_2 := blk_frozen BK181.out 2; have hfz20_3 := blk_frozen BK181.out 3; have hfz20_4 := blk_frozen BK181.out 4; have hfz20_5 := blk_frozen BK181.out 5; have hfz20_6 := blk_frozen BK181.out 6) | ((with_reducible refine gate_callee (f := 22) rfl ?_); refine goesM_ (some 20) rfl rfl Try.func22 (by kernel_rfl) rfl #[.agg #[.int .i64 a0_4, .int .i64 a0_5, .slice A0_6 l0_6.length c0_6], .agg #[.int .i64 a1_4, .int .i64 a1_5, .slice A1_6 l1_6.length c1_6]] rfl ?_; (with_reducible refine (laws_eqTerm.calls k a0_4 a0_5 _ _ l0_6 a1_4 a1_5 _ _ l1_6 true _ ?side1 ?side2 ?side3 ?side4 A11.out).mono ?_); (case side1 => exact cb_ HR0_6.out HB.out); (case side2 => exact HC0_6.out); (case side3 => exact cb_ HR1_6.out HB.out); (case side4 => exact HC1_6.out); rintro e w21 ⟨rfl, hb⟩; refine ⟨_, rfl, ?_⟩; have n0_ := Aside0.mk (blk_below (bk_ BK180.out) hb); have n1_ := Aside0.mk (blk_below (bk_ BK181.out) hb); have n2_ := Aside0.mk (below_step (bs2_ HB.out GE180.out GE181.out) hb); clear BK180; clear BK181; clear HB; have BK180 := n0_; have BK181 := n1_; have HB := n2_; clear n0_ n1_ n2_; (try clear hb); (try clear hb2); (try clear hk); (try clear hi)))
        go_ret
        exact fin_ (bs2_ HB.out GE180.out GE181.out)
      · replace c12 := Bool.eq_false_iff.mpr c12; subst c12; rw [if_neg (show ¬ (false = true) by decide)] at H; obtain rfl := Option.some.inj H
        go_enter Try.func99, Try.ntmps99
        go_wp2_with (first | ((with_reducible refine gate_dst (N := 2) rfl ?_); refine bxe_ (N := 2) (cs := #[.bool a0_0, .int .i64 a0_1, .int .i64 a0_2, .slice A0_3 l0_3.length c0_3, .int .i64 a0_4, .int .i64 a0_5, .slice A0_6 l0_6.length c0_6]) (t := 119) ?_; intro gb180 hg w22 hbox hb; have n0_ := Aside0.mk (below_step (bl_ HB.out) hb); have n1_ := Aside0.mk (hbox); have n2_ := Aside0.mk (lg_ hg (bl_ HB.out)); have n3_ := Aside0.mk (lg_ hg (bl_ HB.out)); clear HB; have HB := n0_; have BK180 := n1_; have GW180 := n2_; have GE180 := n3_; clear n0_ n1_ n2_ n3_; clear hb hbox hg) | ((with_reducible refine gate_dst (N := 3) rfl ?_); refine bxe_ (N := 3) (cs := #[.bool a1_0, .int .i64 a1_1, .int .i64 a1_2, .slice A1_3 l1_3.length c1_3, .int .i64 a1_4, .int .i64 a1_5, .slice A1_6 l1_6.length c1_6]) (t := 119) ?_; intro gb181 hg w23 hbox hb; have n0_ := Aside0.mk (blk_below (bk_ BK180.out) hb); have n1_ := Aside0.mk (below_step (bs1_ HB.out GE180.out) hb); have n2_ := Aside0.mk (hbox); have n3_ := Aside0.mk (lg_ hg (bs1_ HB.out GE180.out)); have n4_ := Aside0.mk (lg_ hg (bs1_ HB.out GE180.out)); have n5_ := Aside0.mk (nl_ hg (bk_ BK180.out)); have n6_ := Aside0.mk (ng_ hg (bk_ BK180.out)); clear BK180; clear HB; have BK180 := n0_; have HB := n1_; have BK181 := n2_; have GW181 := n3_; have GE181 := n4_; have NB180_181 := n5_; have NB181_180 := n6_; clear n0_ n1_ n2_ n3_ n4_ n5_ n6_; clear hb hbox hg; have hnb24 := NB180_181.out; have hnc24 := NB181_180.out; have hcz25_0 := bc_ BK180.out 0; have hcz25_1 := bc_ BK180.out 1; have hcz25_2 := bc_ BK180.out 2; have hcz25_3 := bc_ BK180.out 3; have hcz25_4 := bc_ BK180.out 4; have hcz25_5 := bc_ BK180.out 5; have hcz25_6 := bc_ BK180.out 6; have hfz25_0 := blk_frozen BK180.out 0; have hfz25_1 := blk_frozen BK180.out 1; have hfz25_2 := blk_frozen BK180.out 2; have hfz25_3 := blk_frozen BK180.out 3; have hfz25_4 := blk_frozen BK180.out 4; have hfz25_5 := blk_frozen BK180.out 5; have hfz25_6 := blk_frozen BK180.out 6; have hcz26_0 := bc_ BK181.out 0; have hcz26_1 := bc_ BK181.out 1; have hcz26_2 := bc_ BK181.out 2; have hcz26_3 := bc_ BK181.out 3; have hcz26_4 := bc_ BK181.out 4; have hcz26_5 := bc_ BK181.out 5; have hcz26_6 := bc_ BK181.out 6; have hfz26_0 := blk_frozen BK181.out 0; have hfz26_1 := blk_frozen BK181.out 1; have hfz26_2 := blk_frozen BK181.out 2; have hfz26_3 := blk_frozen BK181.out 3; have hfz26_4 := blk_frozen BK181.out 4; have hfz26_5 := blk_frozen BK181.out 5; have hfz26_6 := blk_frozen BK181.out 6) | ((with_reducible refine gate_callee (f := 22) rfl ?_); refine goesM_ (some 14) rfl rfl Try.func22 (by kernel_rfl) rfl #[.agg #[.int .i64 a0_1, .int .i64 a0_2, .slice A0_3 l0_3.length c0_3], .agg #[.int .i64 a1_1, .int .i64 a1_2, .slice A1_3 l1_3.length c1_3]] rfl ?_; (with_reducible refine (laws_eqTerm.calls k a0_1 a0_2 _ _ l0_3 a1_1 a1_2 _ _ l1_3 true _ ?side1 ?side2 ?side3 ?side4 A9.out).mono ?_); (case side1 => exact cb_ HR0_3.out HB.out); (case side2 => exact HC0_3.out); (case side3 => exact cb_ HR1_3.out HB.out); (case side4 => exact HC1_3.out); rintro e w27 ⟨rfl, hb⟩; refine ⟨_, rfl, ?_⟩; have n0_ := Aside0.mk (blk_below (bk_ BK180.out) hb); have n1_ := Aside0.mk (blk_below (bk_ BK181.out) hb); have n2_ := Aside0.mk (below_step (bs2_ HB.out GE180.out GE181.out) hb); clear BK180; clear BK181; clear HB; have BK180 := n0_; have BK181 := n1_; have HB := n2_; clear n0_ n1_ n2_; (try clear hb); (try clear hb2); (try clear hk); (try clear hi); have hcz28_0 := bc_ BK180.out 0; have hcz28_1 := bc_ BK180.out 1; have hcz28_2 := bc_ BK180.out 2; have hcz28_3 := bc_ BK180.out 3; have hcz28_4 := bc_ BK180.out 4; have hcz28_5 := bc_ BK180.out 5; have hcz28_6 := bc_ BK180.out 6; have hfz28_0 := blk_frozen BK180.out 0; have hfz28_1 := blk_frozen BK180.out 1; have hfz28_2 := blk_frozen BK180.out 2; have hfz28_3 := blk_frozen BK180.out 3; have hfz28_4 := blk_frozen BK180.out 4; have hfz28_5 := blk_frozen BK180.out 5; have hfz28_6 := blk_frozen BK180.out 6; have hcz29_0 := bc_ BK181.out 0; have hcz29_1 := bc_ BK181.out 1; have hcz29_2 := bc_ BK181.out 2; have hcz29_3 := bc_ BK181.out 3; have hcz29_4 := bc_ BK181.out 4; have hcz29_5 := bc_ BK181.out 5; have hcz29_6 := bc_ BK181.out 6; have hfz29_0 := blk_frozen BK181.out 0; have hfz29_1 := blk_frozen BK181.out 1; have hfz29_2 := blk_frozen BK181.out 2; have hfz29_3 := blk_frozen BK181.out 3; have hfz29_4 := blk_frozen BK181.out 4; have hfz29_5 := blk_frozen BK181.out 5; have hfz29_6 := blk_frozen BK181.out 6) | ((with_reducible refine gate_callee (f := 22) rfl ?_); refine goesM_ (some 20) rfl rfl Try.func22 (by kernel_rfl) rfl #[.agg #[.int .i64 a0_4, .int .i64 a0_5, .slice A0_6 l0_6.length c0_6], .agg #[.int .i64 a1_4, .int .i64 a1_5, .slice A1_6 l1_6.length c1_6]] rfl ?_; (with_reducible refine (laws_eqTerm.calls k a0_4 a0_5 _ _ l0_6 a1_4 a1_5 _ _ l1_6 false _ ?side1 ?side2 ?side3 ?side4 A11.out).mono ?_); (case side1 => exact cb_ HR0_6.out HB.out); (case side2 => exact HC0_6.out); (case side3 => exact cb_ HR1_6.out HB.out); (case side4 => exact HC1_6.out); rintro e w30 ⟨rfl, hb⟩; refine ⟨_, rfl, ?_⟩; have n0_ := Aside0.mk (blk_below (bk_ BK180.out) hb); have n1_ := Aside0.mk (blk_below (bk_ BK181.out) hb); have n2_ := Aside0.mk (below_step (bs2_ HB.out GE180.out GE181.out) hb); clear BK180; clear BK181; clear HB; have BK180 := n0_; have BK181 := n1_; have HB := n2_; clear n0_ n1_ n2_; (try clear hb); (try clear hb2); (try clear hk); (try clear hi)))
        go_ret
        exact fin_ (bs2_ HB.out GE180.out GE181.out)
    · replace c10 := Bool.eq_false_iff.mpr c10; subst c10; rw [if_neg (show ¬ (false = true) by decide)] at H; obtain rfl := Option.some.inj H
      go_enter Try.func99, Try.ntmps99
      go_wp2_with (first | ((with_reducible refine gate_dst (N := 2) rfl ?_); refine bxe_ (N := 2) (cs := #[.bool a0_0, .int .i64 a0_1, .int .i64 a0_2, .slice A0_3 l0_3.length c0_3, .int .i64 a0_4, .int .i64 a0_5, .slice A0_6 l0_6.length c0_6]) (t := 119) ?_; intro gb180 hg w31 hbox hb; have n0_ := Aside0.mk (below_step (bl_ HB.out) hb); have n1_ := Aside0.mk (hbox); have n2_ := Aside0.mk (lg_ hg (bl_ HB.out)); have n3_ := Aside0.mk (lg_ hg (bl_ HB.out)); clear HB; have HB := n0_; have BK180 := n1_; have GW180 := n2_; have GE180 := n3_; clear n0_ n1_ n2_ n3_; clear hb hbox hg) | ((with_reducible refine gate_dst (N := 3) rfl ?_); refine bxe_ (N := 3) (cs := #[.bool a1_0, .int .i64 a1_1, .int .i64 a1_2, .slice A1_3 l1_3.length c1_3, .int .i64 a1_4, .int .i64 a1_5, .slice A1_6 l1_6.length c1_6]) (t := 119) ?_; intro gb181 hg w32 hbox hb; have n0_ := Aside0.mk (blk_below (bk_ BK180.out) hb); have n1_ := Aside0.mk (below_step (bs1_ HB.out GE180.out) hb); have n2_ := Aside0.mk (hbox); have n3_ := Aside0.mk (lg_ hg (bs1_ HB.out GE180.out)); have n4_ := Aside0.mk (lg_ hg (bs1_ HB.out GE180.out)); have n5_ := Aside0.mk (nl_ hg (bk_ BK180.out)); have n6_ := Aside0.mk (ng_ hg (bk_ BK180.out)); clear BK180; clear HB; have BK180 := n0_; have HB := n1_; have BK181 := n2_; have GW181 := n3_; have GE181 := n4_; have NB180_181 := n5_; have NB181_180 := n6_; clear n0_ n1_ n2_ n3_ n4_ n5_ n6_; clear hb hbox hg; have hnb33 := NB180_181.out; have hnc33 := NB181_180.out; have hcz34_0 := bc_ BK180.out 0; have hcz34_1 := bc_ BK180.out 1; have hcz34_2 := bc_ BK180.out 2; have hcz34_3 := bc_ BK180.out 3; have hcz34_4 := bc_ BK180.out 4; have hcz34_5 := bc_ BK180.out 5; have hcz34_6 := bc_ BK180.out 6; have hfz34_0 := blk_frozen BK180.out 0; have hfz34_1 := blk_frozen BK180.out 1; have hfz34_2 := blk_frozen BK180.out 2; have hfz34_3 := blk_frozen BK180.out 3; have hfz34_4 := blk_frozen BK180.out 4; have hfz34_5 := blk_frozen BK180.out 5; have hfz34_6 := blk_frozen BK180.out 6; have hcz35_0 := bc_ BK181.out 0; have hcz35_1 := bc_ BK181.out 1; have hcz35_2 := bc_ BK181.out 2; have hcz35_3 := bc_ BK181.out 3; have hcz35_4 := bc_ BK181.out 4; have hcz35_5 := bc_ BK181.out 5; have hcz35_6 := bc_ BK181.out 6; have hfz35_0 := blk_frozen BK181.out 0; have hfz35_1 := blk_frozen BK181.out 1; have hfz35_2 := blk_frozen BK181.out 2; have hfz35_3 := blk_frozen BK181.out 3; have hfz35_4 := blk_frozen BK181.out 4; have hfz35_5 := blk_frozen BK181.out 5; have hfz35_6 := blk_frozen BK181.out 6) | ((with_reducible refine gate_callee (f := 22) rfl ?_); refine goesM_ (some 14) rfl rfl Try.func22 (by kernel_rfl) rfl #[.agg #[.int .i64 a0_1, .int .i64 a0_2, .slice A0_3 l0_3.length c0_3], .agg #[.int .i64 a1_1, .int .i64 a1_2, .slice A1_3 l1_3.length c1_3]] rfl ?_; (with_reducible refine (laws_eqTerm.calls k a0_1 a0_2 _ _ l0_3 a1_1 a1_2 _ _ l1_3 false _ ?side1 ?side2 ?side3 ?side4 A9.out).mono ?_); (case side1 => exact cb_ HR0_3.out HB.out); (case side2 => exact HC0_3.out); (case side3 => exact cb_ HR1_3.out HB.out); (case side4 => exact HC1_3.out); rintro e w36 ⟨rfl, hb⟩; refine ⟨_, rfl, ?_⟩; have n0_ := Aside0.mk (blk_below (bk_ BK180.out) hb); have n1_ := Aside0.mk (blk_below (bk_ BK181.out) hb); have n2_ := Aside0.mk (below_step (bs2_ HB.out GE180.out GE181.out) hb); clear BK180; clear BK181; clear HB; have BK180 := n0_; have BK181 := n1_; have HB := n2_; clear n0_ n1_ n2_; (try clear hb); (try clear hb2); (try clear hk); (try clear hi)))
      go_ret
      exact fin_ (bs2_ HB.out GE180.out GE181.out)

/-! ### laws_eqLitS: function 40 -/
def laws_eqLitS.l0 : Nat → List (I_Lit) → List (I_Lit) → Int → Option (Bool)
  | 0, _, _, _ => none
  | k + 1, x0, x1, x5 => if x5 < (x0.length : Int) then (if 0 ≤ x5 then (if x5 < (x1.length : Int) then ((laws_eqLit.f k ((rd_I_Lit x0 x5).f0) ((rd_I_Lit x0 x5).f1.f0) ((rd_I_Lit x0 x5).f1.f1) ((rd_I_Lit x0 x5).f1.f2) ((rd_I_Lit x0 x5).f2.f0) ((rd_I_Lit x0 x5).f2.f1) ((rd_I_Lit x0 x5).f2.f2) ((rd_I_Lit x1 x5).f0) ((rd_I_Lit x1 x5).f1.f0) ((rd_I_Lit x1 x5).f1.f1) ((rd_I_Lit x1 x5).f1.f2) ((rd_I_Lit x1 x5).f2.f0) ((rd_I_Lit x1 x5).f2.f1) ((rd_I_Lit x1 x5).f2.f2)).bind fun t186 => (if t186 = true then (laws_eqLitS.l0 k x0 x1 (wrap64 (x5 + 1))) else (some false))) else (none)) else (none)) else (some true)
def laws_eqLitS.f (k : Nat) (l0 : List (I_Lit)) (l1 : List (I_Lit)) : Option (Bool) := if (l0.length : Int) = (l1.length : Int) then (laws_eqLitS.l0 k l0 l1 0) else (some false)
theorem laws_eqLitS.mono_l : ∀ k, (∀ y0 y1 y2, LeO (laws_eqLitS.l0 k y0 y1 y2) (laws_eqLitS.l0 (k + 1) y0 y1 y2))
  | 0 => fun _ _ _ r h => by simp [laws_eqLitS.l0] at h
  | k + 1 => by
    have ih0 := laws_eqLitS.mono_l k
    · intro y0 y1 y2
      unfold laws_eqLitS.l0
      repeat' first
      | (with_reducible exact ih0 _ _ _)
      | (with_reducible exact laws_eqLit.mono _ _ _ _ _ _ _ _ _ _ _ _ _ _ _)
      | (with_reducible exact LeO.refl _)
      | (with_reducible exact LeO.none _)
      | (with_reducible refine LeO.ite ?_ ?_)
      | (with_reducible refine LeO.bind ?_ (fun _ => ?_))
      | exact ih0 _ _ _
      | exact laws_eqLit.mono _ _ _ _ _ _ _ _ _ _ _ _ _ _ _
      | exact LeO.none _
      | refine LeO.ite ?_ ?_
      | refine LeO.bind ?_ (fun _ => ?_)
theorem laws_eqLitS.mono : ∀ a0 a1 k, LeO (laws_eqLitS.f k a0 a1) (laws_eqLitS.f (k + 1) a0 a1) := by
  intro a0 a1 k; have ih0 := laws_eqLitS.mono_l k
  unfold laws_eqLitS.f
  repeat' first
      | (with_reducible exact ih0 _ _ _)
      | (with_reducible exact laws_eqLit.mono _ _ _ _ _ _ _ _ _ _ _ _ _ _ _)
      | (with_reducible exact LeO.refl _)
      | (with_reducible exact LeO.none _)
      | (with_reducible refine LeO.ite ?_ ?_)
      | (with_reducible refine LeO.bind ?_ (fun _ => ?_))
      | exact ih0 _ _ _
      | exact laws_eqLit.mono _ _ _ _ _ _ _ _ _ _ _ _ _ _ _
      | exact LeO.none _
      | refine LeO.ite ?_ ?_
      | refine LeO.bind ?_ (fun _ => ?_)
def laws_eqLitS.T6 : Bool × List (List Nat × List Nat) := (true, [([], []), ([], []), ([0, 1], [0, 1]), ([2], [2]), ([], []), ([], []), ([4, 5], [4, 5]), ([6], [6]), ([3, 7], [3, 7]), ([8], [8])])
def laws_eqLitS.B6 : List Nat := [0, 0, 3, 7, 0, 0, 48, 112, 255, 511]
theorem laws_eqLitS.tab6 : rtab .any (opsOf Try.f40 6) = laws_eqLitS.T6 := by kernel_rfl
theorem laws_eqLitS.bits6 : waitsOk laws_eqLitS.T6.2 laws_eqLitS.B6 = true := by kernel_rfl
set_option maxHeartbeats 8000000 in
set_option maxRecDepth 100000 in
theorem laws_eqLitS.calls (k : Nat) (A0 : Option Addr) (c0 : Nat) (l0 : List (I_Lit)) (A1 : Option Addr) (c1 : Nat) (l1 : List (I_Lit)) (r : Bool) (w : World) (hr0 : Kd.C k119 w A0 l0.length l0) (hc0 : l0.length ≤ c0) (hr1 : Kd.C k119 w A1 l1.length l1) (hc1 : l1.length ≤ c1) (h : laws_eqLitS.f k l0 l1 = some r) :
    Calls Try.prog 40 #[.slice A0 l0.length c0, .slice A1 l1.length c1] w fun e w' => e = .returned (.bool r) ∧ Below w.heap.size w w' := by
  have hu119 := Try.underlying119; have HR0 := Aside0.mk hr0; have HC0 := Aside0.mk hc0; clear hr0 hc0; have HR1 := Aside0.mk hr1; have HC1 := Aside0.mk hc1; clear hr1 hc1; have HB := Aside0.mk (Below.refl w.heap.size w); have H : (if (l0.length : Int) = (l1.length : Int) then (laws_eqLitS.l0 k l0 l1 0) else (some false)) = some r := h; clear h
  by_cases c3 : (l0.length : Int) = (l1.length : Int)
  · rw [if_pos c3] at H; have c3b0 : ((l0.length : Int) == (l1.length : Int)) = true := beq_iff_eq.mpr c3; have c3b1 : ((l0.length : Int) != (l1.length : Int)) = false := bne_eq_false_iff_eq.mpr c3; have c3b2 : (l0.length == l1.length) = true := by first | simpa using c3 | (simp at c3 ⊢; omega)
    clear c3; have H' := Aside0.mk H; clear H
    go_enter Try.func40, Try.ntmps40
    go_wp2
    go_loopg [5] k (fun kq v5 w' => ∃ (x5_1 : Int), v5 = .int .i64 x5_1 ∧ Aside0 (laws_eqLitS.l0 kq l0 l1 x5_1 = some r) ∧ Aside0 (kq ≤ k) ∧ Aside0 (Below w.heap.size w w'))
    case atStart => exact ⟨(0), (by first | rfl | (simp; done) | (simp [*]; done)), H', ⟨Nat.le_refl _⟩, ⟨by repeat (first | (with_reducible first | exact HB.out | apply below_alloc | apply pw_below_drewN | apply below_drew1) | exact HB.out)⟩⟩
    case round =>
      clear H'; (try clear c1); (try clear p2); (try clear c3); (try clear c3b0); (try clear c3b1); (try clear c3b2); obtain ⟨x5_1, rfl, HA, HK1, HB⟩ := hrel
      cases gk with
      | zero => exact absurd HA.out (by simp [laws_eqLitS.l0])
      | succ k1 =>
        have H := HA.out; clear HA
        simp only [laws_eqLitS.l0] at H
        by_cases c4 : x5_1 < (l0.length : Int)
        · rw [if_pos c4] at H; have c4b0 := decide_eq_true c4; clear c4
          by_cases c5 : 0 ≤ x5_1
          · rw [if_pos c5] at H; have c5b0 := decide_eq_true c5; clear c5
            by_cases c6 : x5_1 < (l1.length : Int)
            · rw [if_pos c6] at H; have c6b0 := decide_eq_true c6; clear c6; replace H := Option.bind_eq_some_iff.mp H; obtain ⟨t186, A70, H⟩ := H; replace H : (if t186 = true then (laws_eqLitS.l0 k1 l0 l1 (wrap64 (x5_1 + 1))) else (some false)) = some r := H; have A7 := Aside0.mk A70; clear A70
              by_cases c8 : t186 = true
              · subst c8; rw [if_pos rfl] at H; have H' := Aside0.mk H; clear H
                try go_wp2
                have n0_ := Aside0.mk (below_drew1 HB.out); clear HB; have HB := n0_; clear n0_; have p184 : 0 ≤ (x5_1 : Int) := as_; have q184 : x5_1 < (l0.length : Int) := as_; obtain ⟨ad184, A184_3, c184_3, A184_6, c184_6, e184, hx184_0, hx184_1, hx184_2, hx184_3, hx184_4, hx184_5, hx184_6, hl184_3, hi184_3, hl184_6, hi184_6⟩ := at_T119 HR0.out x5_1 p184 q184; have hw184_6 := hx184_6; have hw184_5 := hx184_5; have hw184_4 := hx184_4; have hw184_3 := hx184_3; have hw184_2 := hx184_2; have hw184_1 := hx184_1; have hw184_0 := hx184_0
                cases e184
                replace hx184_0 := hbc_ HB.out hx184_0; replace hx184_1 := hbc_ HB.out hx184_1; replace hx184_2 := hbc_ HB.out hx184_2; replace hx184_3 := hbc_ HB.out hx184_3; replace hx184_4 := hbc_ HB.out hx184_4; replace hx184_5 := hbc_ HB.out hx184_5; replace hx184_6 := hbc_ HB.out hx184_6; have HR184_3 := Aside0.mk hi184_3; have HC184_3 := Aside0.mk hl184_3; clear hi184_3 hl184_3; have HR184_6 := Aside0.mk hi184_6; have HC184_6 := Aside0.mk hl184_6; clear hi184_6 hl184_6; replace p184 := eq_true p184; replace q184 := eq_true q184; have p185 : 0 ≤ (x5_1 : Int) := as_; have q185 : x5_1 < (l1.length : Int) := as_; obtain ⟨ad185, A185_3, c185_3, A185_6, c185_6, e185, hx185_0, hx185_1, hx185_2, hx185_3, hx185_4, hx185_5, hx185_6, hl185_3, hi185_3, hl185_6, hi185_6⟩ := at_T119 HR1.out x5_1 p185 q185; have hw185_6 := hx185_6; have hw185_5 := hx185_5; have hw185_4 := hx185_4; have hw185_3 := hx185_3; have hw185_2 := hx185_2; have hw185_1 := hx185_1; have hw185_0 := hx185_0
                cases e185
                replace hx185_0 := hbc_ HB.out hx185_0; replace hx185_1 := hbc_ HB.out hx185_1; replace hx185_2 := hbc_ HB.out hx185_2; replace hx185_3 := hbc_ HB.out hx185_3; replace hx185_4 := hbc_ HB.out hx185_4; replace hx185_5 := hbc_ HB.out hx185_5; replace hx185_6 := hbc_ HB.out hx185_6; have HR185_3 := Aside0.mk hi185_3; have HC185_3 := Aside0.mk hl185_3; clear hi185_3 hl185_3; have HR185_6 := Aside0.mk hi185_6; have HC185_6 := Aside0.mk hl185_6; clear hi185_6 hl185_6; replace p185 := eq_true p185; replace q185 := eq_true q185; refine start_ (n := 10) (S := fun w' => w'.cell? (ad184.add ((x5_1).toNat * 7)) = some (.bool ((rd_I_Lit l0 x5_1).f0)) ∧ w'.cell? ⟨(ad184.add ((x5_1).toNat * 7)).block, (ad184.add ((x5_1).toNat * 7)).off + 1, none⟩ = some (.int .i64 ((rd_I_Lit l0 x5_1).f1.f0)) ∧ w'.cell? ⟨(ad184.add ((x5_1).toNat * 7)).block, (ad184.add ((x5_1).toNat * 7)).off + 2, none⟩ = some (.int .i64 ((rd_I_Lit l0 x5_1).f1.f1)) ∧ w'.cell? ⟨(ad184.add ((x5_1).toNat * 7)).block, (ad184.add ((x5_1).toNat * 7)).off + 3, none⟩ = some (.slice A184_3 ((rd_I_Lit l0 x5_1).f1.f2).length c184_3) ∧ w'.cell? ⟨(ad184.add ((x5_1).toNat * 7)).block, (ad184.add ((x5_1).toNat * 7)).off + 4, none⟩ = some (.int .i64 ((rd_I_Lit l0 x5_1).f2.f0)) ∧ w'.cell? ⟨(ad184.add ((x5_1).toNat * 7)).block, (ad184.add ((x5_1).toNat * 7)).off + 5, none⟩ = some (.int .i64 ((rd_I_Lit l0 x5_1).f2.f1)) ∧ w'.cell? ⟨(ad184.add ((x5_1).toNat * 7)).block, (ad184.add ((x5_1).toNat * 7)).off + 6, none⟩ = some (.slice A184_6 ((rd_I_Lit l0 x5_1).f2.f2).length c184_6) ∧ w'.cell? (ad185.add ((x5_1).toNat * 7)) = some (.bool ((rd_I_Lit l1 x5_1).f0)) ∧ w'.cell? ⟨(ad185.add ((x5_1).toNat * 7)).block, (ad185.add ((x5_1).toNat * 7)).off + 1, none⟩ = some (.int .i64 ((rd_I_Lit l1 x5_1).f1.f0)) ∧ w'.cell? ⟨(ad185.add ((x5_1).toNat * 7)).block, (ad185.add ((x5_1).toNat * 7)).off + 2, none⟩ = some (.int .i64 ((rd_I_Lit l1 x5_1).f1.f1)) ∧ w'.cell? ⟨(ad185.add ((x5_1).toNat * 7)).block, (ad185.add ((x5_1).toNat * 7)).off + 3, none⟩ = some (.slice A185_3 ((rd_I_Lit l1 x5_1).f1.f2).length c185_3) ∧ w'.cell? ⟨(ad185.add ((x5_1).toNat * 7)).block, (ad185.add ((x5_1).toNat * 7)).off + 4, none⟩ = some (.int .i64 ((rd_I_Lit l1 x5_1).f2.f0)) ∧ w'.cell? ⟨(ad185.add ((x5_1).toNat * 7)).block, (ad185.add ((x5_1).toNat * 7)).off + 5, none⟩ = some (.int .i64 ((rd_I_Lit l1 x5_1).f2.f1)) ∧ w'.cell? ⟨(ad185.add ((x5_1).toNat * 7)).block, (ad185.add ((x5_1).toNat * 7)).off + 6, none⟩ = some (.slice A185_6 ((rd_I_Lit l1 x5_1).f2.f2).length c185_6)) (ds := []) (bm 10 0) (by kernel_rfl) rfl (by kernel_rfl) ⟨(hbc_ HB.out hw184_0 :), (hbc_ HB.out hw184_1 :), (hbc_ HB.out hw184_2 :), (hbc_ HB.out hw184_3 :), (hbc_ HB.out hw184_4 :), (hbc_ HB.out hw184_5 :), (hbc_ HB.out hw184_6 :), (hbc_ HB.out hw185_0 :), (hbc_ HB.out hw185_1 :), (hbc_ HB.out hw185_2 :), (hbc_ HB.out hw185_3 :), (hbc_ HB.out hw185_4 :), (hbc_ HB.out hw185_5 :), (hbc_ HB.out hw185_6 :)⟩ (fun hHeld => ?_); refine with_tabW laws_eqLitS.tab6 laws_eqLitS.bits6 (fun HT_ HW_ => ?_)
                generalize wr.drew = w9 at HB HR184_3 HR184_6 HR185_3 HR185_6 hx184_0 hx184_1 hx184_2 hx184_3 hx184_4 hx184_5 hx184_6 hx185_0 hx185_1 hx185_2 hx185_3 hx185_4 hx185_5 hx185_6 hHeld ⊢
                refine pv_ 0 HT_.out ?_; refine pv_ 1 HT_.out ?_; refine pv_ 2 HT_.out ?_; refine pv_ 4 HT_.out ?_; refine pv_ 5 HT_.out ?_; refine pv_ 6 HT_.out ?_; refine tv_ 3 HT_.out HW_.out hHeld ?_; refine tv_ 7 HT_.out HW_.out hHeld ?_; refine one_ (i := 8) (N := some 25) (bm 10 511) rfl rfl (one_of HT_.out (by kernel_rfl)) (by decide) (fun K hK => ?_); refine goes_ Try.func99 (by kernel_rfl) rfl #[.agg #[.bool ((rd_I_Lit l0 x5_1).f0), .int .i64 ((rd_I_Lit l0 x5_1).f1.f0), .int .i64 ((rd_I_Lit l0 x5_1).f1.f1), .slice A184_3 ((rd_I_Lit l0 x5_1).f1.f2).length c184_3, .int .i64 ((rd_I_Lit l0 x5_1).f2.f0), .int .i64 ((rd_I_Lit l0 x5_1).f2.f1), .slice A184_6 ((rd_I_Lit l0 x5_1).f2.f2).length c184_6], .agg #[.bool ((rd_I_Lit l1 x5_1).f0), .int .i64 ((rd_I_Lit l1 x5_1).f1.f0), .int .i64 ((rd_I_Lit l1 x5_1).f1.f1), .slice A185_3 ((rd_I_Lit l1 x5_1).f1.f2).length c185_3, .int .i64 ((rd_I_Lit l1 x5_1).f2.f0), .int .i64 ((rd_I_Lit l1 x5_1).f2.f1), .slice A185_6 ((rd_I_Lit l1 x5_1).f2.f2).length c185_6]] (by rfl) rfl rfl (by (try simp only [List.map_toArray, List.map_cons, List.map_nil]); first | done | rfl | (simp only [List.length_drop, List.length_take]; rfl)) ?_
                with_reducible refine (laws_eqLit.calls k1 ((rd_I_Lit l0 x5_1).f0) ((rd_I_Lit l0 x5_1).f1.f0) ((rd_I_Lit l0 x5_1).f1.f1) _ _ ((rd_I_Lit l0 x5_1).f1.f2) ((rd_I_Lit l0 x5_1).f2.f0) ((rd_I_Lit l0 x5_1).f2.f1) _ _ ((rd_I_Lit l0 x5_1).f2.f2) ((rd_I_Lit l1 x5_1).f0) ((rd_I_Lit l1 x5_1).f1.f0) ((rd_I_Lit l1 x5_1).f1.f1) _ _ ((rd_I_Lit l1 x5_1).f1.f2) ((rd_I_Lit l1 x5_1).f2.f0) ((rd_I_Lit l1 x5_1).f2.f1) _ _ ((rd_I_Lit l1 x5_1).f2.f2) true _ ?side1 ?side2 ?side3 ?side4 ?side5 ?side6 ?side7 ?side8 A7.out).mono ?_
                (case side1 => exact cb_ HR184_3.out HB.out); (case side2 => exact HC184_3.out); (case side3 => exact cb_ HR184_6.out HB.out); (case side4 => exact HC184_6.out); (case side5 => exact cb_ HR185_3.out HB.out); (case side6 => exact HC185_3.out); (case side7 => exact cb_ HR185_6.out HB.out); (case side8 => exact HC185_6.out); rintro e w10 ⟨rfl, hb⟩; refine ⟨_, rfl, ?_⟩; have n0_ := Aside0.mk (below_step (bl_ HB.out) hb); clear HB; have HB := n0_; clear n0_; (try clear hb); (try clear hb2); (try clear hk); (try clear hi); refine hK.out _ _ ⟨(hbc_ HB.out hw184_0 :), (hbc_ HB.out hw184_1 :), (hbc_ HB.out hw184_2 :), (hbc_ HB.out hw184_3 :), (hbc_ HB.out hw184_4 :), (hbc_ HB.out hw184_5 :), (hbc_ HB.out hw184_6 :), (hbc_ HB.out hw185_0 :), (hbc_ HB.out hw185_1 :), (hbc_ HB.out hw185_2 :), (hbc_ HB.out hw185_3 :), (hbc_ HB.out hw185_4 :), (hbc_ HB.out hw185_5 :), (hbc_ HB.out hw185_6 :)⟩ (fun hHeld => ?_); clear hK K; refine norm_ (a' := ?_) ?_ ?_
                rotate_left
                · show Act.put _ (some 25) _ = _
                  simp only [Act.put, List.setIfInBounds_toArray, List.set_cons_zero, List.set_cons_succ, i64_w, i32_w]
                  rfl
                refine pv_ 9 HT_.out ?_; refine done_ (done_of HT_.out (by kernel_rfl)) ?_
                try go_wp2
                go_roundg k1
                case measure => have := HK1.out; omega
                case rel => exact ⟨(wrap64 (x5_1 + 1)), (by first | rfl | (simp; done) | (simp [*]; done)), H', ⟨by have := HK1.out; omega⟩, ⟨by repeat (first | (with_reducible first | exact HB.out | apply below_alloc | apply pw_below_drewN | apply below_drew1) | exact HB.out)⟩⟩
              · replace c8 := Bool.eq_false_iff.mpr c8; subst c8; rw [if_neg (show ¬ (false = true) by decide)] at H; obtain rfl := Option.some.inj H
                try go_wp2
                have n0_ := Aside0.mk (below_drew1 HB.out); clear HB; have HB := n0_; clear n0_; have p184 : 0 ≤ (x5_1 : Int) := as_; have q184 : x5_1 < (l0.length : Int) := as_; obtain ⟨ad184, A184_3, c184_3, A184_6, c184_6, e184, hx184_0, hx184_1, hx184_2, hx184_3, hx184_4, hx184_5, hx184_6, hl184_3, hi184_3, hl184_6, hi184_6⟩ := at_T119 HR0.out x5_1 p184 q184; have hw184_6 := hx184_6; have hw184_5 := hx184_5; have hw184_4 := hx184_4; have hw184_3 := hx184_3; have hw184_2 := hx184_2; have hw184_1 := hx184_1; have hw184_0 := hx184_0
                cases e184
                replace hx184_0 := hbc_ HB.out hx184_0; replace hx184_1 := hbc_ HB.out hx184_1; replace hx184_2 := hbc_ HB.out hx184_2; replace hx184_3 := hbc_ HB.out hx184_3; replace hx184_4 := hbc_ HB.out hx184_4; replace hx184_5 := hbc_ HB.out hx184_5; replace hx184_6 := hbc_ HB.out hx184_6; have HR184_3 := Aside0.mk hi184_3; have HC184_3 := Aside0.mk hl184_3; clear hi184_3 hl184_3; have HR184_6 := Aside0.mk hi184_6; have HC184_6 := Aside0.mk hl184_6; clear hi184_6 hl184_6; replace p184 := eq_true p184; replace q184 := eq_true q184; have p185 : 0 ≤ (x5_1 : Int) := as_; have q185 : x5_1 < (l1.length : Int) := as_; obtain ⟨ad185, A185_3, c185_3, A185_6, c185_6, e185, hx185_0, hx185_1, hx185_2, hx185_3, hx185_4, hx185_5, hx185_6, hl185_3, hi185_3, hl185_6, hi185_6⟩ := at_T119 HR1.out x5_1 p185 q185; have hw185_6 := hx185_6; have hw185_5 := hx185_5; have hw185_4 := hx185_4; have hw185_3 := hx185_3; have hw185_2 := hx185_2; have hw185_1 := hx185_1; have hw185_0 := hx185_0
                cases e185
                replace hx185_0 := hbc_ HB.out hx185_0; replace hx185_1 := hbc_ HB.out hx185_1; replace hx185_2 := hbc_ HB.out hx185_2; replace hx185_3 := hbc_ HB.out hx185_3; replace hx185_4 := hbc_ HB.out hx185_4; replace hx185_5 := hbc_ HB.out hx185_5; replace hx185_6 := hbc_ HB.out hx185_6; have HR185_3 := Aside0.mk hi185_3; have HC185_3 := Aside0.mk hl185_3; clear hi185_3 hl185_3; have HR185_6 := Aside0.mk hi185_6; have HC185_6 := Aside0.mk hl185_6; clear hi185_6 hl185_6; replace p185 := eq_true p185; replace q185 := eq_true q185; refine start_ (n := 10) (S := fun w' => w'.cell? (ad184.add ((x5_1).toNat * 7)) = some (.bool ((rd_I_Lit l0 x5_1).f0)) ∧ w'.cell? ⟨(ad184.add ((x5_1).toNat * 7)).block, (ad184.add ((x5_1).toNat * 7)).off + 1, none⟩ = some (.int .i64 ((rd_I_Lit l0 x5_1).f1.f0)) ∧ w'.cell? ⟨(ad184.add ((x5_1).toNat * 7)).block, (ad184.add ((x5_1).toNat * 7)).off + 2, none⟩ = some (.int .i64 ((rd_I_Lit l0 x5_1).f1.f1)) ∧ w'.cell? ⟨(ad184.add ((x5_1).toNat * 7)).block, (ad184.add ((x5_1).toNat * 7)).off + 3, none⟩ = some (.slice A184_3 ((rd_I_Lit l0 x5_1).f1.f2).length c184_3) ∧ w'.cell? ⟨(ad184.add ((x5_1).toNat * 7)).block, (ad184.add ((x5_1).toNat * 7)).off + 4, none⟩ = some (.int .i64 ((rd_I_Lit l0 x5_1).f2.f0)) ∧ w'.cell? ⟨(ad184.add ((x5_1).toNat * 7)).block, (ad184.add ((x5_1).toNat * 7)).off + 5, none⟩ = some (.int .i64 ((rd_I_Lit l0 x5_1).f2.f1)) ∧ w'.cell? ⟨(ad184.add ((x5_1).toNat * 7)).block, (ad184.add ((x5_1).toNat * 7)).off + 6, none⟩ = some (.slice A184_6 ((rd_I_Lit l0 x5_1).f2.f2).length c184_6) ∧ w'.cell? (ad185.add ((x5_1).toNat * 7)) = some (.bool ((rd_I_Lit l1 x5_1).f0)) ∧ w'.cell? ⟨(ad185.add ((x5_1).toNat * 7)).block, (ad185.add ((x5_1).toNat * 7)).off + 1, none⟩ = some (.int .i64 ((rd_I_Lit l1 x5_1).f1.f0)) ∧ w'.cell? ⟨(ad185.add ((x5_1).toNat * 7)).block, (ad185.add ((x5_1).toNat * 7)).off + 2, none⟩ = some (.int .i64 ((rd_I_Lit l1 x5_1).f1.f1)) ∧ w'.cell? ⟨(ad185.add ((x5_1).toNat * 7)).block, (ad185.add ((x5_1).toNat * 7)).off + 3, none⟩ = some (.slice A185_3 ((rd_I_Lit l1 x5_1).f1.f2).length c185_3) ∧ w'.cell? ⟨(ad185.add ((x5_1).toNat * 7)).block, (ad185.add ((x5_1).toNat * 7)).off + 4, none⟩ = some (.int .i64 ((rd_I_Lit l1 x5_1).f2.f0)) ∧ w'.cell? ⟨(ad185.add ((x5_1).toNat * 7)).block, (ad185.add ((x5_1).toNat * 7)).off + 5, none⟩ = some (.int .i64 ((rd_I_Lit l1 x5_1).f2.f1)) ∧ w'.cell? ⟨(ad185.add ((x5_1).toNat * 7)).block, (ad185.add ((x5_1).toNat * 7)).off + 6, none⟩ = some (.slice A185_6 ((rd_I_Lit l1 x5_1).f2.f2).length c185_6)) (ds := []) (bm 10 0) (by kernel_rfl) rfl (by kernel_rfl) ⟨(hbc_ HB.out hw184_0 :), (hbc_ HB.out hw184_1 :), (hbc_ HB.out hw184_2 :), (hbc_ HB.out hw184_3 :), (hbc_ HB.out hw184_4 :), (hbc_ HB.out hw184_5 :), (hbc_ HB.out hw184_6 :), (hbc_ HB.out hw185_0 :), (hbc_ HB.out hw185_1 :), (hbc_ HB.out hw185_2 :), (hbc_ HB.out hw185_3 :), (hbc_ HB.out hw185_4 :), (hbc_ HB.out hw185_5 :), (hbc_ HB.out hw185_6 :)⟩ (fun hHeld => ?_); refine with_tabW laws_eqLitS.tab6 laws_eqLitS.bits6 (fun HT_ HW_ => ?_)
                generalize wr.drew = w11 at HB HR184_3 HR184_6 HR185_3 HR185_6 hx184_0 hx184_1 hx184_2 hx184_3 hx184_4 hx184_5 hx184_6 hx185_0 hx185_1 hx185_2 hx185_3 hx185_4 hx185_5 hx185_6 hHeld ⊢
                refine pv_ 0 HT_.out ?_; refine pv_ 1 HT_.out ?_; refine pv_ 2 HT_.out ?_; refine pv_ 4 HT_.out ?_; refine pv_ 5 HT_.out ?_; refine pv_ 6 HT_.out ?_; refine tv_ 3 HT_.out HW_.out hHeld ?_; refine tv_ 7 HT_.out HW_.out hHeld ?_; refine one_ (i := 8) (N := some 25) (bm 10 511) rfl rfl (one_of HT_.out (by kernel_rfl)) (by decide) (fun K hK => ?_); refine goes_ Try.func99 (by kernel_rfl) rfl #[.agg #[.bool ((rd_I_Lit l0 x5_1).f0), .int .i64 ((rd_I_Lit l0 x5_1).f1.f0), .int .i64 ((rd_I_Lit l0 x5_1).f1.f1), .slice A184_3 ((rd_I_Lit l0 x5_1).f1.f2).length c184_3, .int .i64 ((rd_I_Lit l0 x5_1).f2.f0), .int .i64 ((rd_I_Lit l0 x5_1).f2.f1), .slice A184_6 ((rd_I_Lit l0 x5_1).f2.f2).length c184_6], .agg #[.bool ((rd_I_Lit l1 x5_1).f0), .int .i64 ((rd_I_Lit l1 x5_1).f1.f0), .int .i64 ((rd_I_Lit l1 x5_1).f1.f1), .slice A185_3 ((rd_I_Lit l1 x5_1).f1.f2).length c185_3, .int .i64 ((rd_I_Lit l1 x5_1).f2.f0), .int .i64 ((rd_I_Lit l1 x5_1).f2.f1), .slice A185_6 ((rd_I_Lit l1 x5_1).f2.f2).length c185_6]] (by rfl) rfl rfl (by (try simp only [List.map_toArray, List.map_cons, List.map_nil]); first | done | rfl | (simp only [List.length_drop, List.length_take]; rfl)) ?_
                with_reducible refine (laws_eqLit.calls k1 ((rd_I_Lit l0 x5_1).f0) ((rd_I_Lit l0 x5_1).f1.f0) ((rd_I_Lit l0 x5_1).f1.f1) _ _ ((rd_I_Lit l0 x5_1).f1.f2) ((rd_I_Lit l0 x5_1).f2.f0) ((rd_I_Lit l0 x5_1).f2.f1) _ _ ((rd_I_Lit l0 x5_1).f2.f2) ((rd_I_Lit l1 x5_1).f0) ((rd_I_Lit l1 x5_1).f1.f0) ((rd_I_Lit l1 x5_1).f1.f1) _ _ ((rd_I_Lit l1 x5_1).f1.f2) ((rd_I_Lit l1 x5_1).f2.f0) ((rd_I_Lit l1 x5_1).f2.f1) _ _ ((rd_I_Lit l1 x5_1).f2.f2) false _ ?side1 ?side2 ?side3 ?side4 ?side5 ?side6 ?side7 ?side8 A7.out).mono ?_
                (case side1 => exact cb_ HR184_3.out HB.out); (case side2 => exact HC184_3.out); (case side3 => exact cb_ HR184_6.out HB.out); (case side4 => exact HC184_6.out); (case side5 => exact cb_ HR185_3.out HB.out); (case side6 => exact HC185_3.out); (case side7 => exact cb_ HR185_6.out HB.out); (case side8 => exact HC185_6.out); rintro e w12 ⟨rfl, hb⟩; refine ⟨_, rfl, ?_⟩; have n0_ := Aside0.mk (below_step (bl_ HB.out) hb); clear HB; have HB := n0_; clear n0_; (try clear hb); (try clear hb2); (try clear hk); (try clear hi); refine hK.out _ _ ⟨(hbc_ HB.out hw184_0 :), (hbc_ HB.out hw184_1 :), (hbc_ HB.out hw184_2 :), (hbc_ HB.out hw184_3 :), (hbc_ HB.out hw184_4 :), (hbc_ HB.out hw184_5 :), (hbc_ HB.out hw184_6 :), (hbc_ HB.out hw185_0 :), (hbc_ HB.out hw185_1 :), (hbc_ HB.out hw185_2 :), (hbc_ HB.out hw185_3 :), (hbc_ HB.out hw185_4 :), (hbc_ HB.out hw185_5 :), (hbc_ HB.out hw185_6 :)⟩ (fun hHeld => ?_); clear hK K; refine norm_ (a' := ?_) ?_ ?_
                rotate_left
                · show Act.put _ (some 25) _ = _
                  simp only [Act.put, List.setIfInBounds_toArray, List.set_cons_zero, List.set_cons_succ, i64_w, i32_w]
                  rfl
                refine pv_ 9 HT_.out ?_; refine done_ (done_of HT_.out (by kernel_rfl)) ?_
                try go_wp2
                go_ret
                exact fin_ (bl_ HB.out)
            · rw [if_neg c6] at H; exact absurd H (by simp)
          · rw [if_neg c5] at H; exact absurd H (by simp)
        · rw [if_neg c4] at H; have c4b0 := decide_eq_false c4; clear c4; obtain rfl := Option.some.inj H
          go_wp2
          go_ret
          exact fin_ (bl_ HB.out)
  · rw [if_neg c3] at H; have c3b0 : ((l0.length : Int) == (l1.length : Int)) = false := beq_eq_false_iff_ne.mpr c3; have c3b1 : ((l0.length : Int) != (l1.length : Int)) = true := bne_iff_ne.mpr c3; have c3b2 : (l0.length == l1.length) = false := by first | simpa using c3 | (simp at c3 ⊢; omega)
    obtain rfl := Option.some.inj H
    go_enter Try.func40, Try.ntmps40
    go_wp2
    go_ret
    exact fin_ (bl_ HB.out)

/-! ### spec_l1In: function 79 -/
def spec_l1In.f (a0 : Int) (a1 : Int) (a2 : Int) : Option (Bool) := if a0 ≥ a1 then (some (decide (a0 ≤ a2))) else (some false)
set_option maxHeartbeats 8000000 in
set_option maxRecDepth 100000 in
theorem spec_l1In.calls (a0 : Int) (a1 : Int) (a2 : Int) (r : Bool) (w : World) (h : spec_l1In.f a0 a1 a2 = some r) :
    Calls Try.prog 79 #[.int .i64 a0, .int .i64 a1, .int .i64 a2] w fun e w' => e = .returned (.bool r) ∧ Drawn0 w w' := by
  have H : (if a0 ≥ a1 then (some (decide (a0 ≤ a2))) else (some false)) = some r := h; clear h
  by_cases c4 : a0 ≥ a1
  · rw [if_pos c4] at H; have c4b0 := decide_eq_true c4; clear c4; obtain rfl := Option.some.inj H
    go_enter Try.func79, Try.ntmps79
    go_wp2
    go_ret
    exact ⟨by first | rfl | (simp; done) | (simp [*]; done), by repeat (first | exact Drawn0.refl _ | apply Drawn0.step)⟩
  · rw [if_neg c4] at H; have c4b0 := decide_eq_false c4; clear c4; obtain rfl := Option.some.inj H
    go_enter Try.func79, Try.ntmps79
    go_wp2
    go_ret
    exact ⟨by first | rfl | (simp; done) | (simp [*]; done), by repeat (first | exact Drawn0.refl _ | apply Drawn0.step)⟩

end Go.Proofs.Ytcboagkbcoihjaa.XCloseOk
