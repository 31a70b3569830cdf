-- printed by a program of this session (xprint, turned from the kit's print) for this claim
import Derived.Test.YtejfjfhopapaaaaXDeepOfx0
namespace Go.Proofs.Ytejfjfhopapaaaa.XDeepOf
open Go.RowKit Go.Proofs.Ytejfjfhopapaaaa.XOpens Go.Proofs.YtejfjfhopapaaaaW.PrintWords Go.Proofs.YtejfjfhopapaaaaW.PrintLast Go.Proofs.YtejfjfhopapaaaaW.PrintMore
attribute [local go_sem] max2_int min2_int max_two min_two max_three min_three max_four min_four   -- for this text's walks alone
set_option linter.unusedVariables false
set_option linter.unusedSimpArgs false

/-! ### a group: laws_eqTermS, laws_eqTerm -/
mutual
def laws_eqTermS.l0 : Nat → List (I_Term) → List (I_Term) → Int → Option (Bool)
  | 0, _, _, _ => none
  | k + 1, x0, x1, x5 => if x5 < (x0.length : Int) then (if 0 ≤ x5 then (if x5 < (x1.length : Int) then ((laws_eqTerm.f k ((rd_I_Term x0 x5).f0) ((rd_I_Term x0 x5).f1) ((rd_I_Term x0 x5).f2) ((rd_I_Term x1 x5).f0) ((rd_I_Term x1 x5).f1) ((rd_I_Term x1 x5).f2)).bind fun t235 => (if t235 = true then (laws_eqTermS.l0 k x0 x1 (wrap64 (x5 + 1))) else (some false))) else (none)) else (none)) else (some true)
def laws_eqTermS.f : Nat → List (I_Term) → List (I_Term) → Option (Bool)
  | 0, _, _ => none
  | k + 1, l0, l1 => if (l0.length : Int) = (l1.length : Int) then (laws_eqTermS.l0 k l0 l1 0) else (some false)
def laws_eqTerm.f : Nat → Int → Int → List (I_Term) → Int → Int → List (I_Term) → Option (Bool)
  | 0, _, _, _, _, _, _ => none
  | k + 1, a0_0, a0_1, l0_2, a1_0, a1_1, l1_2 => if a0_0 = a1_0 then (if a0_1 = a1_1 then ((laws_eqTermS.f k l0_2 l1_2).bind fun t238 => (if t238 = true then (some true) else (some false))) else (some false)) else (some false)
end
theorem laws_eqTermS.grp_mono : ∀ k, (∀ y0 y1, LeO (laws_eqTermS.f k y0 y1) (laws_eqTermS.f (k + 1) y0 y1)) ∧ (∀ y0 y1 y2, LeO (laws_eqTermS.l0 k y0 y1 y2) (laws_eqTermS.l0 (k + 1) y0 y1 y2)) ∧ (∀ y0 y1 y2 y3 y4 y5, LeO (laws_eqTerm.f k y0 y1 y2 y3 y4 y5) (laws_eqTerm.f (k + 1) y0 y1 y2 y3 y4 y5))
  | 0 => ⟨fun _ _ r h => by simp [laws_eqTermS.f] at h, fun _ _ _ r h => by simp [laws_eqTermS.l0] at h, fun _ _ _ _ _ _ r h => by simp [laws_eqTerm.f] at h⟩
  | k + 1 => by
    obtain ⟨ih0, ih1, ih2⟩ := laws_eqTermS.grp_mono k
    refine ⟨?_, ?_, ?_⟩
    · intro y0 y1
      unfold laws_eqTermS.f
      repeat' first
      | (with_reducible exact ih0 _ _)
      | (with_reducible exact ih1 _ _ _)
      | (with_reducible exact ih2 _ _ _ _ _ _)
      | (with_reducible exact LeO.refl _)
      | (with_reducible exact LeO.none _)
      | (with_reducible refine LeO.ite ?_ ?_)
      | (with_reducible refine LeO.bind ?_ (fun _ => ?_))
      | exact ih0 _ _
      | exact ih1 _ _ _
      | exact ih2 _ _ _ _ _ _
      | exact LeO.none _
      | refine LeO.ite ?_ ?_
      | refine LeO.bind ?_ (fun _ => ?_)
    · intro y0 y1 y2
      unfold laws_eqTermS.l0
      repeat' first
      | (with_reducible exact ih0 _ _)
      | (with_reducible exact ih1 _ _ _)
      | (with_reducible exact ih2 _ _ _ _ _ _)
      | (with_reducible exact LeO.refl _)
      | (with_reducible exact LeO.none _)
      | (with_reducible refine LeO.ite ?_ ?_)
      | (with_reducible refine LeO.bind ?_ (fun _ => ?_))
      | exact ih0 _ _
      | exact ih1 _ _ _
      | exact ih2 _ _ _ _ _ _
      | exact LeO.none _
      | refine LeO.ite ?_ ?_
      | refine LeO.bind ?_ (fun _ => ?_)
    · intro y0 y1 y2 y3 y4 y5
      unfold laws_eqTerm.f
      repeat' first
      | (with_reducible exact ih0 _ _)
      | (with_reducible exact ih1 _ _ _)
      | (with_reducible exact ih2 _ _ _ _ _ _)
      | (with_reducible exact LeO.refl _)
      | (with_reducible exact LeO.none _)
      | (with_reducible refine LeO.ite ?_ ?_)
      | (with_reducible refine LeO.bind ?_ (fun _ => ?_))
      | exact ih0 _ _
      | exact ih1 _ _ _
      | exact ih2 _ _ _ _ _ _
      | exact LeO.none _
      | refine LeO.ite ?_ ?_
      | refine LeO.bind ?_ (fun _ => ?_)
theorem laws_eqTermS.mono : ∀ a0 a1 k, LeO (laws_eqTermS.f k a0 a1) (laws_eqTermS.f (k + 1) a0 a1) := by
  intro a0 a1 k
  obtain ⟨ih0, ih1, ih2⟩ := laws_eqTermS.grp_mono k
  exact ih0 a0 a1
theorem laws_eqTerm.mono : ∀ a0 a1 a2 a3 a4 a5 k, LeO (laws_eqTerm.f k a0 a1 a2 a3 a4 a5) (laws_eqTerm.f (k + 1) a0 a1 a2 a3 a4 a5) := by
  intro a0 a1 a2 a3 a4 a5 k
  obtain ⟨ih0, ih1, ih2⟩ := laws_eqTermS.grp_mono k
  exact ih2 a0 a1 a2 a3 a4 a5
/-! ### laws_eqTermS: function 21 -/
def laws_eqTermS.T6 : Bool × List (List Nat × List Nat) := (true, [([], []), ([], []), ([0, 1], [0, 1]), ([2], [2]), ([], []), ([], []), ([4, 5], [4, 5]), ([6], [6]), ([3, 7], [3, 7]), ([8], [8])])
def laws_eqTermS.B6 : List Nat := [0, 0, 3, 7, 0, 0, 48, 112, 255, 511]
theorem laws_eqTermS.tab6 : rtab .any (opsOf Try.f21 6) = laws_eqTermS.T6 := by kernel_rfl
theorem laws_eqTermS.bits6 : waitsOk laws_eqTermS.T6.2 laws_eqTermS.B6 = true := by kernel_rfl
set_option maxHeartbeats 8000000 in
set_option maxRecDepth 100000 in
theorem laws_eqTermS.step (k : Nat) (ihg_21 : ∀ m, m < k → ∀ (A0 : Option Addr) (c0 : Nat) (l0 : List (I_Term)) (A1 : Option Addr) (c1 : Nat) (l1 : List (I_Term)) (r : Bool) (w : World) (hr0 : Kd.C k33 w A0 l0.length l0) (hc0 : l0.length ≤ c0) (hr1 : Kd.C k33 w A1 l1.length l1) (hc1 : l1.length ≤ c1) (h : laws_eqTermS.f m l0 l1 = some r),
    Calls Try.prog 21 #[.slice A0 l0.length c0, .slice A1 l1.length c1] w fun e w' => e = .returned (.bool r) ∧ Below w.heap.size w w') (ihg_23 : ∀ m, m < k → ∀ (a0_0 : Int) (a0_1 : Int) (A0_2 : Option Addr) (c0_2 : Nat) (l0_2 : List (I_Term)) (a1_0 : Int) (a1_1 : Int) (A1_2 : Option Addr) (c1_2 : Nat) (l1_2 : List (I_Term)) (r : Bool) (w : World) (hr0_2 : Kd.C k33 w A0_2 l0_2.length l0_2) (hc0_2 : l0_2.length ≤ c0_2) (hr1_2 : Kd.C k33 w A1_2 l1_2.length l1_2) (hc1_2 : l1_2.length ≤ c1_2) (h : laws_eqTerm.f m a0_0 a0_1 l0_2 a1_0 a1_1 l1_2 = some r),
    Calls Try.prog 23 #[.agg #[.int .i64 a0_0, .int .i64 a0_1, .slice A0_2 l0_2.length c0_2], .agg #[.int .i64 a1_0, .int .i64 a1_1, .slice A1_2 l1_2.length c1_2]] w fun e w' => e = .returned (.bool r) ∧ Below w.heap.size w w') : ∀ (A0 : Option Addr) (c0 : Nat) (l0 : List (I_Term)) (A1 : Option Addr) (c1 : Nat) (l1 : List (I_Term)) (r : Bool) (w : World) (hr0 : Kd.C k33 w A0 l0.length l0) (hc0 : l0.length ≤ c0) (hr1 : Kd.C k33 w A1 l1.length l1) (hc1 : l1.length ≤ c1) (h : laws_eqTermS.f k l0 l1 = some r),
    Calls Try.prog 21 #[.slice A0 l0.length c0, .slice A1 l1.length c1] w fun e w' => e = .returned (.bool r) ∧ Below w.heap.size w w' := by
  intro A0 c0 l0 A1 c1 l1 r w hr0 hc0 hr1 hc1 h
  cases k with
  | zero => exact absurd h (by simp [laws_eqTermS.f])
  | succ k =>
  simp only [laws_eqTermS.f] at h
  have hu33 := Try.underlying33; have HR0 := ak hr0; have HC0 := ak hc0; clear hr0 hc0; have HR1 := ak hr1; have HC1 := ak hc1; clear hr1 hc1; have HB := ak (Below.refl w.heap.size w); have H : (if (l0.length : Int) = (l1.length : Int) then (laws_eqTermS.l0 k l0 l1 0) else (some false)) = some r := h; clear h
  by_cases c3 : (l0.length : Int) = (l1.length : Int)
  · rw [if_pos c3] at H; have c3b0 : ((l0.length : Int) == (l1.length : Int)) = true := beq_iff_eq.mpr c3; have c3b1 : ((l0.length : Int) != (l1.length : Int)) = false := bne_eq_false_iff_eq.mpr c3; have c3b2 : (l0.length == l1.length) = true := by first | simpa using c3 | (simp at c3 ⊢; omega)
    clear c3; have H' := ak H; clear H
    go_enter Try.func21, Try.ntmps21
    go_wp2
    go_loopg [5] k (fun kq v5 w' => ∃ (x5_1 : Int), v5 = .int .i64 x5_1 ∧ Aside0 (laws_eqTermS.l0 kq l0 l1 x5_1 = some r) ∧ Aside0 (kq ≤ k) ∧ Aside0 (Below w.heap.size w w'))
    case atStart => exact ⟨(0), (by first | rfl | (simp; done) | (simp [*]; done)), H', ⟨Nat.le_refl _⟩, ⟨by repeat (first | (with_reducible first | exact HB.out | apply below_alloc | apply pw_below_drewN | apply below_drew1) | exact HB.out)⟩⟩
    case round =>
      clear H'; (try clear c1); (try clear c2); (try clear p2); (try clear c3); (try clear c3b0); (try clear c3b1); (try clear c3b2); obtain ⟨x5_1, rfl, HA, HK1, HB⟩ := hrel
      cases gk with
      | zero => exact absurd HA.out (by simp [laws_eqTermS.l0])
      | succ k1 =>
        have H := HA.out; clear HA
        simp only [laws_eqTermS.l0] at H
        by_cases c4 : x5_1 < (l0.length : Int)
        · rw [if_pos c4] at H; have c4b0 := decide_eq_true c4; clear c4
          by_cases c5 : 0 ≤ x5_1
          · rw [if_pos c5] at H; have c5b0 := decide_eq_true c5; clear c5
            by_cases c6 : x5_1 < (l1.length : Int)
            · rw [if_pos c6] at H; have c6b0 := decide_eq_true c6; clear c6; replace H := Option.bind_eq_some_iff.mp H; obtain ⟨t235, A70, H⟩ := H; have A7 := ak A70; clear A70
              by_cases c8 : t235 = true
              · subst c8; rw [if_pos rfl] at H; have H' := ak H; clear H
                try go_wp2
                replace HB := ak (below_drew1 HB.out); have p233 : 0 ≤ (x5_1 : Int) := as_; have q233 : x5_1 < (l0.length : Int) := as_; obtain ⟨ad233, A233_2, c233_2, e233, hx233_0, hx233_1, hx233_2, hl233_2, hi233_2⟩ := at_T33 HR0.out x5_1 p233 q233; have hw233_2 := hx233_2; have hw233_1 := hx233_1; have hw233_0 := hx233_0
                cases e233
                replace hx233_0 := hbc_ HB.out hx233_0; replace hx233_1 := hbc_ HB.out hx233_1; replace hx233_2 := hbc_ HB.out hx233_2; have HR233_2 := ak hi233_2; have HC233_2 := ak hl233_2; clear hi233_2 hl233_2; replace p233 := eq_true p233; replace q233 := eq_true q233; have p234 : 0 ≤ (x5_1 : Int) := as_; have q234 : x5_1 < (l1.length : Int) := as_; obtain ⟨ad234, A234_2, c234_2, e234, hx234_0, hx234_1, hx234_2, hl234_2, hi234_2⟩ := at_T33 HR1.out x5_1 p234 q234; have hw234_2 := hx234_2; have hw234_1 := hx234_1; have hw234_0 := hx234_0
                cases e234
                replace hx234_0 := hbc_ HB.out hx234_0; replace hx234_1 := hbc_ HB.out hx234_1; replace hx234_2 := hbc_ HB.out hx234_2; have HR234_2 := ak hi234_2; have HC234_2 := ak hl234_2; clear hi234_2 hl234_2; replace p234 := eq_true p234; replace q234 := eq_true q234; refine start_ (n := 10) (S := fun w' => w'.cell? (ad233.add ((x5_1).toNat * 3)) = some (.int .i64 ((rd_I_Term l0 x5_1).f0)) ∧ w'.cell? ⟨(ad233.add ((x5_1).toNat * 3)).block, (ad233.add ((x5_1).toNat * 3)).off + 1, none⟩ = some (.int .i64 ((rd_I_Term l0 x5_1).f1)) ∧ w'.cell? ⟨(ad233.add ((x5_1).toNat * 3)).block, (ad233.add ((x5_1).toNat * 3)).off + 2, none⟩ = some (.slice A233_2 ((rd_I_Term l0 x5_1).f2).length c233_2) ∧ w'.cell? (ad234.add ((x5_1).toNat * 3)) = some (.int .i64 ((rd_I_Term l1 x5_1).f0)) ∧ w'.cell? ⟨(ad234.add ((x5_1).toNat * 3)).block, (ad234.add ((x5_1).toNat * 3)).off + 1, none⟩ = some (.int .i64 ((rd_I_Term l1 x5_1).f1)) ∧ w'.cell? ⟨(ad234.add ((x5_1).toNat * 3)).block, (ad234.add ((x5_1).toNat * 3)).off + 2, none⟩ = some (.slice A234_2 ((rd_I_Term l1 x5_1).f2).length c234_2)) (ds := []) (bm 10 0) (by kernel_rfl) rfl (by kernel_rfl) ⟨(hbc_ HB.out hw233_0 :), (hbc_ HB.out hw233_1 :), (hbc_ HB.out hw233_2 :), (hbc_ HB.out hw234_0 :), (hbc_ HB.out hw234_1 :), (hbc_ HB.out hw234_2 :)⟩ (fun hHeld => ?_); refine with_tabW laws_eqTermS.tab6 laws_eqTermS.bits6 (fun HT_ HW_ => ?_)
                generalize wr.drew = w9 at HB HR233_2 HR234_2 hx233_0 hx233_1 hx233_2 hx234_0 hx234_1 hx234_2 hHeld ⊢
                refine pv_ 0 ?_; refine pv_ 1 ?_; refine pv_ 2 ?_; refine pv_ 4 ?_; refine pv_ 5 ?_; refine pv_ 6 ?_; refine tv_ 3 hHeld ?_; refine tv_ 7 hHeld ?_; refine one_ (i := 8) (N := some 25) (bm 10 511) rfl rfl (one_of HT_.out (by kernel_rfl)) (by decide) (fun K hK => ?_); refine goesB_ Try.func23 (by kernel_rfl) rfl #[.agg #[.int .i64 ((rd_I_Term l0 x5_1).f0), .int .i64 ((rd_I_Term l0 x5_1).f1), .slice A233_2 ((rd_I_Term l0 x5_1).f2).length c233_2], .agg #[.int .i64 ((rd_I_Term l1 x5_1).f0), .int .i64 ((rd_I_Term l1 x5_1).f1), .slice A234_2 ((rd_I_Term l1 x5_1).f2).length c234_2]] (by rfl) rfl rfl ?_
                with_reducible refine (ihg_23 k1 (by have := HK1.out; omega) ((rd_I_Term l0 x5_1).f0) ((rd_I_Term l0 x5_1).f1) _ _ ((rd_I_Term l0 x5_1).f2) ((rd_I_Term l1 x5_1).f0) ((rd_I_Term l1 x5_1).f1) _ _ ((rd_I_Term l1 x5_1).f2) true _ ?side1 ?side2 ?side3 ?side4 A7.out).mono ?_
                (case side1 => exact cb_ HR233_2.out HB.out); (case side2 => exact HC233_2.out); (case side3 => exact cb_ HR234_2.out HB.out); (case side4 => exact HC234_2.out); rintro e w10 ⟨rfl, hb⟩; refine ⟨_, rfl, ?_⟩; replace HB := ak (below_step (bl_ HB.out) hb); (try clear hb); (try clear hb2); (try clear hk); (try clear hi); refine hK.out _ _ ⟨(hbc_ HB.out hw233_0 :), (hbc_ HB.out hw233_1 :), (hbc_ HB.out hw233_2 :), (hbc_ HB.out hw234_0 :), (hbc_ HB.out hw234_1 :), (hbc_ HB.out hw234_2 :)⟩ (fun hHeld => ?_); clear hK K; refine norm_ (a' := ?_) ?_ ?_
                rotate_left
                · show Act.put _ (some 25) _ = _
                  simp only [Act.put, List.setIfInBounds_toArray, List.set_cons_zero, List.set_cons_succ, i64_w, i32_w]
                  rfl
                refine pv_ 9 ?_; refine done_ (done_of HT_.out (by kernel_rfl)) ?_
                try go_wp2
                go_roundg k1
                case measure => have := HK1.out; omega
                case rel => exact ⟨(wrap64 (x5_1 + 1)), (by first | rfl | (simp; done) | (simp [*]; done)), H', ⟨by have := HK1.out; omega⟩, ⟨by repeat (first | (with_reducible first | exact HB.out | apply below_alloc | apply pw_below_drewN | apply below_drew1) | exact HB.out)⟩⟩
              replace c8 := Bool.eq_false_iff.mpr c8; subst c8; rw [if_neg (show ¬ (false = true) by decide)] at H; obtain rfl := Option.some.inj H
              try go_wp2
              replace HB := ak (below_drew1 HB.out); have p233 : 0 ≤ (x5_1 : Int) := as_; have q233 : x5_1 < (l0.length : Int) := as_; obtain ⟨ad233, A233_2, c233_2, e233, hx233_0, hx233_1, hx233_2, hl233_2, hi233_2⟩ := at_T33 HR0.out x5_1 p233 q233; have hw233_2 := hx233_2; have hw233_1 := hx233_1; have hw233_0 := hx233_0
              cases e233
              replace hx233_0 := hbc_ HB.out hx233_0; replace hx233_1 := hbc_ HB.out hx233_1; replace hx233_2 := hbc_ HB.out hx233_2; have HR233_2 := ak hi233_2; have HC233_2 := ak hl233_2; clear hi233_2 hl233_2; replace p233 := eq_true p233; replace q233 := eq_true q233; have p234 : 0 ≤ (x5_1 : Int) := as_; have q234 : x5_1 < (l1.length : Int) := as_; obtain ⟨ad234, A234_2, c234_2, e234, hx234_0, hx234_1, hx234_2, hl234_2, hi234_2⟩ := at_T33 HR1.out x5_1 p234 q234; have hw234_2 := hx234_2; have hw234_1 := hx234_1; have hw234_0 := hx234_0
              cases e234
              replace hx234_0 := hbc_ HB.out hx234_0; replace hx234_1 := hbc_ HB.out hx234_1; replace hx234_2 := hbc_ HB.out hx234_2; have HR234_2 := ak hi234_2; have HC234_2 := ak hl234_2; clear hi234_2 hl234_2; replace p234 := eq_true p234; replace q234 := eq_true q234; refine start_ (n := 10) (S := fun w' => w'.cell? (ad233.add ((x5_1).toNat * 3)) = some (.int .i64 ((rd_I_Term l0 x5_1).f0)) ∧ w'.cell? ⟨(ad233.add ((x5_1).toNat * 3)).block, (ad233.add ((x5_1).toNat * 3)).off + 1, none⟩ = some (.int .i64 ((rd_I_Term l0 x5_1).f1)) ∧ w'.cell? ⟨(ad233.add ((x5_1).toNat * 3)).block, (ad233.add ((x5_1).toNat * 3)).off + 2, none⟩ = some (.slice A233_2 ((rd_I_Term l0 x5_1).f2).length c233_2) ∧ w'.cell? (ad234.add ((x5_1).toNat * 3)) = some (.int .i64 ((rd_I_Term l1 x5_1).f0)) ∧ w'.cell? ⟨(ad234.add ((x5_1).toNat * 3)).block, (ad234.add ((x5_1).toNat * 3)).off + 1, none⟩ = some (.int .i64 ((rd_I_Term l1 x5_1).f1)) ∧ w'.cell? ⟨(ad234.add ((x5_1).toNat * 3)).block, (ad234.add ((x5_1).toNat * 3)).off + 2, none⟩ = some (.slice A234_2 ((rd_I_Term l1 x5_1).f2).length c234_2)) (ds := []) (bm 10 0) (by kernel_rfl) rfl (by kernel_rfl) ⟨(hbc_ HB.out hw233_0 :), (hbc_ HB.out hw233_1 :), (hbc_ HB.out hw233_2 :), (hbc_ HB.out hw234_0 :), (hbc_ HB.out hw234_1 :), (hbc_ HB.out hw234_2 :)⟩ (fun hHeld => ?_); refine with_tabW laws_eqTermS.tab6 laws_eqTermS.bits6 (fun HT_ HW_ => ?_)
              generalize wr.drew = w11 at HB HR233_2 HR234_2 hx233_0 hx233_1 hx233_2 hx234_0 hx234_1 hx234_2 hHeld ⊢
              refine pv_ 0 ?_; refine pv_ 1 ?_; refine pv_ 2 ?_; refine pv_ 4 ?_; refine pv_ 5 ?_; refine pv_ 6 ?_; refine tv_ 3 hHeld ?_; refine tv_ 7 hHeld ?_; refine one_ (i := 8) (N := some 25) (bm 10 511) rfl rfl (one_of HT_.out (by kernel_rfl)) (by decide) (fun K hK => ?_); refine goesB_ Try.func23 (by kernel_rfl) rfl #[.agg #[.int .i64 ((rd_I_Term l0 x5_1).f0), .int .i64 ((rd_I_Term l0 x5_1).f1), .slice A233_2 ((rd_I_Term l0 x5_1).f2).length c233_2], .agg #[.int .i64 ((rd_I_Term l1 x5_1).f0), .int .i64 ((rd_I_Term l1 x5_1).f1), .slice A234_2 ((rd_I_Term l1 x5_1).f2).length c234_2]] (by rfl) rfl rfl ?_
              with_reducible refine (ihg_23 k1 (by have := HK1.out; omega) ((rd_I_Term l0 x5_1).f0) ((rd_I_Term l0 x5_1).f1) _ _ ((rd_I_Term l0 x5_1).f2) ((rd_I_Term l1 x5_1).f0) ((rd_I_Term l1 x5_1).f1) _ _ ((rd_I_Term l1 x5_1).f2) false _ ?side1 ?side2 ?side3 ?side4 A7.out).mono ?_
              (case side1 => exact cb_ HR233_2.out HB.out); (case side2 => exact HC233_2.out); (case side3 => exact cb_ HR234_2.out HB.out); (case side4 => exact HC234_2.out); rintro e w12 ⟨rfl, hb⟩; refine ⟨_, rfl, ?_⟩; replace HB := ak (below_step (bl_ HB.out) hb); (try clear hb); (try clear hb2); (try clear hk); (try clear hi); refine hK.out _ _ ⟨(hbc_ HB.out hw233_0 :), (hbc_ HB.out hw233_1 :), (hbc_ HB.out hw233_2 :), (hbc_ HB.out hw234_0 :), (hbc_ HB.out hw234_1 :), (hbc_ HB.out hw234_2 :)⟩ (fun hHeld => ?_); clear hK K; refine norm_ (a' := ?_) ?_ ?_
              rotate_left
              · show Act.put _ (some 25) _ = _
                simp only [Act.put, List.setIfInBounds_toArray, List.set_cons_zero, List.set_cons_succ, i64_w, i32_w]
                rfl
              refine pv_ 9 ?_; refine done_ (done_of HT_.out (by kernel_rfl)) ?_
              try go_wp2
              go_ret
              exact fin_ (bl_ HB.out)
            rw [if_neg c6] at H; exact absurd H (by simp)
          rw [if_neg c5] at H; exact absurd H (by simp)
        rw [if_neg c4] at H; have c4b0 := decide_eq_false c4; clear c4; obtain rfl := Option.some.inj H
        go_wp2
        go_ret
        exact fin_ (bl_ HB.out)
  rw [if_neg c3] at H; have c3b0 : ((l0.length : Int) == (l1.length : Int)) = false := beq_eq_false_iff_ne.mpr c3; have c3b1 : ((l0.length : Int) != (l1.length : Int)) = true := bne_iff_ne.mpr c3; have c3b2 : (l0.length == l1.length) = false := by first | simpa using c3 | (simp at c3 ⊢; omega)
  obtain rfl := Option.some.inj H
  go_enter Try.func21, Try.ntmps21
  go_wp2
  go_ret
  exact fin_ (bl_ HB.out)

/-! ### laws_eqTerm: function 23 -/
set_option maxHeartbeats 8000000 in
set_option maxRecDepth 100000 in
theorem laws_eqTerm.step (k : Nat) (ihg_21 : ∀ m, m < k → ∀ (A0 : Option Addr) (c0 : Nat) (l0 : List (I_Term)) (A1 : Option Addr) (c1 : Nat) (l1 : List (I_Term)) (r : Bool) (w : World) (hr0 : Kd.C k33 w A0 l0.length l0) (hc0 : l0.length ≤ c0) (hr1 : Kd.C k33 w A1 l1.length l1) (hc1 : l1.length ≤ c1) (h : laws_eqTermS.f m l0 l1 = some r),
    Calls Try.prog 21 #[.slice A0 l0.length c0, .slice A1 l1.length c1] w fun e w' => e = .returned (.bool r) ∧ Below w.heap.size w w') (ihg_23 : ∀ m, m < k → ∀ (a0_0 : Int) (a0_1 : Int) (A0_2 : Option Addr) (c0_2 : Nat) (l0_2 : List (I_Term)) (a1_0 : Int) (a1_1 : Int) (A1_2 : Option Addr) (c1_2 : Nat) (l1_2 : List (I_Term)) (r : Bool) (w : World) (hr0_2 : Kd.C k33 w A0_2 l0_2.length l0_2) (hc0_2 : l0_2.length ≤ c0_2) (hr1_2 : Kd.C k33 w A1_2 l1_2.length l1_2) (hc1_2 : l1_2.length ≤ c1_2) (h : laws_eqTerm.f m a0_0 a0_1 l0_2 a1_0 a1_1 l1_2 = some r),
    Calls Try.prog 23 #[.agg #[.int .i64 a0_0, .int .i64 a0_1, .slice A0_2 l0_2.length c0_2], .agg #[.int .i64 a1_0, .int .i64 a1_1, .slice A1_2 l1_2.length c1_2]] w fun e w' => e = .returned (.bool r) ∧ Below w.heap.size w w') : ∀ (a0_0 : Int) (a0_1 : Int) (A0_2 : Option Addr) (c0_2 : Nat) (l0_2 : List (I_Term)) (a1_0 : Int) (a1_1 : Int) (A1_2 : Option Addr) (c1_2 : Nat) (l1_2 : List (I_Term)) (r : Bool) (w : World) (hr0_2 : Kd.C k33 w A0_2 l0_2.length l0_2) (hc0_2 : l0_2.length ≤ c0_2) (hr1_2 : Kd.C k33 w A1_2 l1_2.length l1_2) (hc1_2 : l1_2.length ≤ c1_2) (h : laws_eqTerm.f k a0_0 a0_1 l0_2 a1_0 a1_1 l1_2 = some r),
    Calls Try.prog 23 #[.agg #[.int .i64 a0_0, .int .i64 a0_1, .slice A0_2 l0_2.length c0_2], .agg #[.int .i64 a1_0, .int .i64 a1_1, .slice A1_2 l1_2.length c1_2]] w fun e w' => e = .returned (.bool r) ∧ Below w.heap.size w w' := by
  intro a0_0 a0_1 A0_2 c0_2 l0_2 a1_0 a1_1 A1_2 c1_2 l1_2 r w hr0_2 hc0_2 hr1_2 hc1_2 h
  cases k with
  | zero => exact absurd h (by simp [laws_eqTerm.f])
  | succ k =>
  simp only [laws_eqTerm.f] at h
  have hu33 := Try.underlying33; have HR0_2 := ak hr0_2; have HC0_2 := ak hc0_2; clear hr0_2 hc0_2; have HR1_2 := ak hr1_2; have HC1_2 := ak hc1_2; clear hr1_2 hc1_2; have HB := ak (Below.refl w.heap.size w); have H : (if a0_0 = a1_0 then (if a0_1 = a1_1 then ((laws_eqTermS.f k l0_2 l1_2).bind fun t238 => (if t238 = true then (some true) else (some false))) else (some false)) else (some false)) = some r := h; clear h
  by_cases c3 : a0_0 = a1_0
  · rw [if_pos c3] at H; have c3b0 : (a0_0 == a1_0) = true := beq_iff_eq.mpr c3; have c3b1 : (a0_0 != a1_0) = false := bne_eq_false_iff_eq.mpr c3; clear c3
    by_cases c4 : a0_1 = a1_1
    · rw [if_pos c4] at H; have c4b0 : (a0_1 == a1_1) = true := beq_iff_eq.mpr c4; have c4b1 : (a0_1 != a1_1) = false := bne_eq_false_iff_eq.mpr c4; clear c4; replace H := Option.bind_eq_some_iff.mp H; obtain ⟨t238, A50, H⟩ := H; have A5 := ak A50; clear A50
      by_cases c6 : t238 = true
      · subst c6; rw [if_pos rfl] at H; obtain rfl := Option.some.inj H
        go_enter Try.func23, Try.ntmps23
        go_wp2_with (first | ((with_reducible refine gate_dst (N := 2) rfl ?_); refine bxe_ (N := 2) (cs := #[.int .i64 a0_0, .int .i64 a0_1, .slice A0_2 l0_2.length c0_2]) (t := 33) ?_; intro gb236 hg w7 hbox hb; have BK236 := ak (hbox); have GW236 := ak (lg_ hg (bl_ HB.out)); have GE236 := ak (lg_ hg (bl_ HB.out)); replace HB := ak (below_step (bl_ HB.out) hb); clear hb hbox hg) | ((with_reducible refine gate_dst (N := 3) rfl ?_); refine bxe_ (N := 3) (cs := #[.int .i64 a1_0, .int .i64 a1_1, .slice A1_2 l1_2.length c1_2]) (t := 33) ?_; intro gb237 hg w8 hbox hb; have BK237 := ak (hbox); have GW237 := ak (lg_ hg (bs1_ HB.out GE236.out)); have GE237 := ak (lg_ hg (bs1_ HB.out GE236.out)); replace HB := ak (below_step (bs1_ HB.out GE236.out) hb); have NB236_237 := ak (nl_ hg (bk_ BK236.out)); have NB237_236 := ak (ng_ hg (bk_ BK236.out)); replace BK236 := ak (blk_below (bk_ BK236.out) hb); clear hb hbox hg; have hnb9 := NB236_237.out; have hnc9 := NB237_236.out; have hcz10_0 := bc_ BK236.out 0; have hcz10_1 := bc_ BK236.out 1; have hcz10_2 := bc_ BK236.out 2; have hfz10_0 := blk_frozen BK236.out 0; have hfz10_1 := blk_frozen BK236.out 1; have hfz10_2 := blk_frozen BK236.out 2; have hcz11_0 := bc_ BK237.out 0; have hcz11_1 := bc_ BK237.out 1; have hcz11_2 := bc_ BK237.out 2; have hfz11_0 := blk_frozen BK237.out 0; have hfz11_1 := blk_frozen BK237.out 1; have hfz11_2 := blk_frozen BK237.out 2) | ((with_reducible refine gate_callee (f := 21) rfl ?_); refine goesM_ (some 19) rfl rfl Try.func21 (by kernel_rfl) rfl #[.slice A0_2 l0_2.length c0_2, .slice A1_2 l1_2.length c1_2] rfl ?_; (with_reducible refine (ihg_21 k (by omega) _ _ l0_2 _ _ l1_2 true _ ?side1 ?side2 ?side3 ?side4 A5.out).mono ?_); (case side1 => exact cb_ HR0_2.out HB.out); (case side2 => exact HC0_2.out); (case side3 => exact cb_ HR1_2.out HB.out); (case side4 => exact HC1_2.out); rintro e w12 ⟨rfl, hb⟩; refine ⟨_, rfl, ?_⟩; replace BK236 := ak (blk_below (bk_ BK236.out) hb); replace BK237 := ak (blk_below (bk_ BK237.out) hb); replace HB := ak (below_step (bs2_ HB.out GE236.out GE237.out) hb); (try clear hb); (try clear hb2); (try clear hk); (try clear hi)))
        go_ret
        exact fin_ (bs2_ HB.out GE236.out GE237.out)
      replace c6 := Bool.eq_false_iff.mpr c6; subst c6; rw [if_neg (show ¬ (false = true) by decide)] at H; obtain rfl := Option.some.inj H
      go_enter Try.func23, Try.ntmps23
      go_wp2_with (first | ((with_reducible refine gate_dst (N := 2) rfl ?_); refine bxe_ (N := 2) (cs := #[.int .i64 a0_0, .int .i64 a0_1, .slice A0_2 l0_2.length c0_2]) (t := 33) ?_; intro gb236 hg w13 hbox hb; have BK236 := ak (hbox); have GW236 := ak (lg_ hg (bl_ HB.out)); have GE236 := ak (lg_ hg (bl_ HB.out)); replace HB := ak (below_step (bl_ HB.out) hb); clear hb hbox hg) | ((with_reducible refine gate_dst (N := 3) rfl ?_); refine bxe_ (N := 3) (cs := #[.int .i64 a1_0, .int .i64 a1_1, .slice A1_2 l1_2.length c1_2]) (t := 33) ?_; intro gb237 hg w14 hbox hb; have BK237 := ak (hbox); have GW237 := ak (lg_ hg (bs1_ HB.out GE236.out)); have GE237 := ak (lg_ hg (bs1_ HB.out GE236.out)); replace HB := ak (below_step (bs1_ HB.out GE236.out) hb); have NB236_237 := ak (nl_ hg (bk_ BK236.out)); have NB237_236 := ak (ng_ hg (bk_ BK236.out)); replace BK236 := ak (blk_below (bk_ BK236.out) hb); clear hb hbox hg; have hnb15 := NB236_237.out; have hnc15 := NB237_236.out; have hcz16_0 := bc_ BK236.out 0; have hcz16_1 := bc_ BK236.out 1; have hcz16_2 := bc_ BK236.out 2; have hfz16_0 := blk_frozen BK236.out 0; have hfz16_1 := blk_frozen BK236.out 1; have hfz16_2 := blk_frozen BK236.out 2; have hcz17_0 := bc_ BK237.out 0; have hcz17_1 := bc_ BK237.out 1; have hcz17_2 := bc_ BK237.out 2; have hfz17_0 := blk_frozen BK237.out 0; have hfz17_1 := blk_frozen BK237.out 1; have hfz17_2 := blk_frozen BK237.out 2) | ((with_reducible refine gate_callee (f := 21) rfl ?_); refine goesM_ (some 19) rfl rfl Try.func21 (by kernel_rfl) rfl #[.slice A0_2 l0_2.length c0_2, .slice A1_2 l1_2.length c1_2] rfl ?_; (with_reducible refine (ihg_21 k (by omega) _ _ l0_2 _ _ l1_2 false _ ?side1 ?side2 ?side3 ?side4 A5.out).mono ?_); (case side1 => exact cb_ HR0_2.out HB.out); (case side2 => exact HC0_2.out); (case side3 => exact cb_ HR1_2.out HB.out); (case side4 => exact HC1_2.out); rintro e w18 ⟨rfl, hb⟩; refine ⟨_, rfl, ?_⟩; replace BK236 := ak (blk_below (bk_ BK236.out) hb); replace BK237 := ak (blk_below (bk_ BK237.out) hb); replace HB := ak (below_step (bs2_ HB.out GE236.out GE237.out) hb); (try clear hb); (try clear hb2); (try clear hk); (try clear hi)))
      go_ret
      exact fin_ (bs2_ HB.out GE236.out GE237.out)
    rw [if_neg c4] at H; have c4b0 : (a0_1 == a1_1) = false := beq_eq_false_iff_ne.mpr c4; have c4b1 : (a0_1 != a1_1) = true := bne_iff_ne.mpr c4; obtain rfl := Option.some.inj H
    go_enter Try.func23, Try.ntmps23
    go_wp2_with (first | ((with_reducible refine gate_dst (N := 2) rfl ?_); refine bxe_ (N := 2) (cs := #[.int .i64 a0_0, .int .i64 a0_1, .slice A0_2 l0_2.length c0_2]) (t := 33) ?_; intro gb236 hg w19 hbox hb; have BK236 := ak (hbox); have GW236 := ak (lg_ hg (bl_ HB.out)); have GE236 := ak (lg_ hg (bl_ HB.out)); replace HB := ak (below_step (bl_ HB.out) hb); clear hb hbox hg) | ((with_reducible refine gate_dst (N := 3) rfl ?_); refine bxe_ (N := 3) (cs := #[.int .i64 a1_0, .int .i64 a1_1, .slice A1_2 l1_2.length c1_2]) (t := 33) ?_; intro gb237 hg w20 hbox hb; have BK237 := ak (hbox); have GW237 := ak (lg_ hg (bs1_ HB.out GE236.out)); have GE237 := ak (lg_ hg (bs1_ HB.out GE236.out)); replace HB := ak (below_step (bs1_ HB.out GE236.out) hb); have NB236_237 := ak (nl_ hg (bk_ BK236.out)); have NB237_236 := ak (ng_ hg (bk_ BK236.out)); replace BK236 := ak (blk_below (bk_ BK236.out) hb); clear hb hbox hg; have hnb21 := NB236_237.out; have hnc21 := NB237_236.out; have hcz22_0 := bc_ BK236.out 0; have hcz22_1 := bc_ BK236.out 1; have hcz22_2 := bc_ BK236.out 2; have hfz22_0 := blk_frozen BK236.out 0; have hfz22_1 := blk_frozen BK236.out 1; have hfz22_2 := blk_frozen BK236.out 2; have hcz23_0 := bc_ BK237.out 0; have hcz23_1 := bc_ BK237.out 1; have hcz23_2 := bc_ BK237.out 2; have hfz23_0 := blk_frozen BK237.out 0; have hfz23_1 := blk_frozen BK237.out 1; have hfz23_2 := blk_frozen BK237.out 2))
    go_ret
    exact fin_ (bs2_ HB.out GE236.out GE237.out)
  rw [if_neg c3] at H; have c3b0 : (a0_0 == a1_0) = false := beq_eq_false_iff_ne.mpr c3; have c3b1 : (a0_0 != a1_0) = true := bne_iff_ne.mpr c3; obtain rfl := Option.some.inj H
  go_enter Try.func23, Try.ntmps23
  go_wp2_with (first | ((with_reducible refine gate_dst (N := 2) rfl ?_); refine bxe_ (N := 2) (cs := #[.int .i64 a0_0, .int .i64 a0_1, .slice A0_2 l0_2.length c0_2]) (t := 33) ?_; intro gb236 hg w24 hbox hb; have BK236 := ak (hbox); have GW236 := ak (lg_ hg (bl_ HB.out)); have GE236 := ak (lg_ hg (bl_ HB.out)); replace HB := ak (below_step (bl_ HB.out) hb); clear hb hbox hg) | ((with_reducible refine gate_dst (N := 3) rfl ?_); refine bxe_ (N := 3) (cs := #[.int .i64 a1_0, .int .i64 a1_1, .slice A1_2 l1_2.length c1_2]) (t := 33) ?_; intro gb237 hg w25 hbox hb; have BK237 := ak (hbox); have GW237 := ak (lg_ hg (bs1_ HB.out GE236.out)); have GE237 := ak (lg_ hg (bs1_ HB.out GE236.out)); replace HB := ak (below_step (bs1_ HB.out GE236.out) hb); have NB236_237 := ak (nl_ hg (bk_ BK236.out)); have NB237_236 := ak (ng_ hg (bk_ BK236.out)); replace BK236 := ak (blk_below (bk_ BK236.out) hb); clear hb hbox hg; have hnb26 := NB236_237.out; have hnc26 := NB237_236.out; have hcz27_0 := bc_ BK236.out 0; have hcz27_1 := bc_ BK236.out 1; have hcz27_2 := bc_ BK236.out 2; have hfz27_0 := blk_frozen BK236.out 0; have hfz27_1 := blk_frozen BK236.out 1; have hfz27_2 := blk_frozen BK236.out 2; have hcz28_0 := bc_ BK237.out 0; have hcz28_1 := bc_ BK237.out 1; have hcz28_2 := bc_ BK237.out 2; have hfz28_0 := blk_frozen BK237.out 0; have hfz28_1 := blk_frozen BK237.out 1; have hfz28_2 := blk_frozen BK237.out 2))
  go_ret
  exact fin_ (bs2_ HB.out GE236.out GE237.out)

theorem laws_eqTermS.grp_all (k : Nat) : (∀ (A0 : Option Addr) (c0 : Nat) (l0 : List (I_Term)) (A1 : Option Addr) (c1 : Nat) (l1 : List (I_Term)) (r : Bool) (w : World) (hr0 : Kd.C k33 w A0 l0.length l0) (hc0 : l0.length ≤ c0) (hr1 : Kd.C k33 w A1 l1.length l1) (hc1 : l1.length ≤ c1) (h : laws_eqTermS.f k l0 l1 = some r),
    Calls Try.prog 21 #[.slice A0 l0.length c0, .slice A1 l1.length c1] w fun e w' => e = .returned (.bool r) ∧ Below w.heap.size w w') ∧ (∀ (a0_0 : Int) (a0_1 : Int) (A0_2 : Option Addr) (c0_2 : Nat) (l0_2 : List (I_Term)) (a1_0 : Int) (a1_1 : Int) (A1_2 : Option Addr) (c1_2 : Nat) (l1_2 : List (I_Term)) (r : Bool) (w : World) (hr0_2 : Kd.C k33 w A0_2 l0_2.length l0_2) (hc0_2 : l0_2.length ≤ c0_2) (hr1_2 : Kd.C k33 w A1_2 l1_2.length l1_2) (hc1_2 : l1_2.length ≤ c1_2) (h : laws_eqTerm.f k a0_0 a0_1 l0_2 a1_0 a1_1 l1_2 = some r),
    Calls Try.prog 23 #[.agg #[.int .i64 a0_0, .int .i64 a0_1, .slice A0_2 l0_2.length c0_2], .agg #[.int .i64 a1_0, .int .i64 a1_1, .slice A1_2 l1_2.length c1_2]] w fun e w' => e = .returned (.bool r) ∧ Below w.heap.size w w') := by
  induction k using Nat.strongRecOn with
  | _ k ih =>
  exact ⟨laws_eqTermS.step k (fun m hm => (ih m hm).1) (fun m hm => (ih m hm).2), laws_eqTerm.step k (fun m hm => (ih m hm).1) (fun m hm => (ih m hm).2)⟩
theorem laws_eqTermS.calls (k : Nat) : ∀ (A0 : Option Addr) (c0 : Nat) (l0 : List (I_Term)) (A1 : Option Addr) (c1 : Nat) (l1 : List (I_Term)) (r : Bool) (w : World) (hr0 : Kd.C k33 w A0 l0.length l0) (hc0 : l0.length ≤ c0) (hr1 : Kd.C k33 w A1 l1.length l1) (hc1 : l1.length ≤ c1) (h : laws_eqTermS.f k l0 l1 = some r),
    Calls Try.prog 21 #[.slice A0 l0.length c0, .slice A1 l1.length c1] w fun e w' => e = .returned (.bool r) ∧ Below w.heap.size w w' := (laws_eqTermS.grp_all k).1
theorem laws_eqTerm.calls (k : Nat) : ∀ (a0_0 : Int) (a0_1 : Int) (A0_2 : Option Addr) (c0_2 : Nat) (l0_2 : List (I_Term)) (a1_0 : Int) (a1_1 : Int) (A1_2 : Option Addr) (c1_2 : Nat) (l1_2 : List (I_Term)) (r : Bool) (w : World) (hr0_2 : Kd.C k33 w A0_2 l0_2.length l0_2) (hc0_2 : l0_2.length ≤ c0_2) (hr1_2 : Kd.C k33 w A1_2 l1_2.length l1_2) (hc1_2 : l1_2.length ≤ c1_2) (h : laws_eqTerm.f k a0_0 a0_1 l0_2 a1_0 a1_1 l1_2 = some r),
    Calls Try.prog 23 #[.agg #[.int .i64 a0_0, .int .i64 a0_1, .slice A0_2 l0_2.length c0_2], .agg #[.int .i64 a1_0, .int .i64 a1_1, .slice A1_2 l1_2.length c1_2]] w fun e w' => e = .returned (.bool r) ∧ Below w.heap.size w w' := (laws_eqTermS.grp_all k).2

/-! ### laws_eqBind: function 283 -/
def laws_eqBind.f (k : Nat) (a0_0 : Int) (a0_1 : Int) (a0_2 : Int) (l0_3 : List (I_Term)) (a1_0 : Int) (a1_1 : Int) (a1_2 : Int) (l1_3 : List (I_Term)) : Option (Bool) := if a0_0 = a1_0 then ((laws_eqTerm.f k a0_1 a0_2 l0_3 a1_1 a1_2 l1_3).bind fun t241 => (if t241 = true then (some true) else (some false))) else (some false)
theorem laws_eqBind.mono : ∀ a0 a1 a2 a3 a4 a5 a6 a7 k, LeO (laws_eqBind.f k a0 a1 a2 a3 a4 a5 a6 a7) (laws_eqBind.f (k + 1) a0 a1 a2 a3 a4 a5 a6 a7) := by
  intro a0 a1 a2 a3 a4 a5 a6 a7 k
  unfold laws_eqBind.f
  repeat' first
      | (with_reducible exact laws_eqTerm.mono _ _ _ _ _ _ _)
      | (with_reducible exact LeO.refl _)
      | (with_reducible exact LeO.none _)
      | (with_reducible refine LeO.ite ?_ ?_)
      | (with_reducible refine LeO.bind ?_ (fun _ => ?_))
      | exact laws_eqTerm.mono _ _ _ _ _ _ _
      | exact LeO.none _
      | refine LeO.ite ?_ ?_
      | refine LeO.bind ?_ (fun _ => ?_)
set_option maxHeartbeats 8000000 in
set_option maxRecDepth 100000 in
theorem laws_eqBind.calls (k : Nat) (a0_0 : Int) (a0_1 : Int) (a0_2 : Int) (A0_3 : Option Addr) (c0_3 : Nat) (l0_3 : List (I_Term)) (a1_0 : Int) (a1_1 : Int) (a1_2 : Int) (A1_3 : Option Addr) (c1_3 : Nat) (l1_3 : List (I_Term)) (r : Bool) (w : World) (hr0_3 : Kd.C k33 w A0_3 l0_3.length l0_3) (hc0_3 : l0_3.length ≤ c0_3) (hr1_3 : Kd.C k33 w A1_3 l1_3.length l1_3) (hc1_3 : l1_3.length ≤ c1_3) (h : laws_eqBind.f k a0_0 a0_1 a0_2 l0_3 a1_0 a1_1 a1_2 l1_3 = some r) :
    Calls Try.prog 283 #[.agg #[.int .i64 a0_0, .int .i64 a0_1, .int .i64 a0_2, .slice A0_3 l0_3.length c0_3], .agg #[.int .i64 a1_0, .int .i64 a1_1, .int .i64 a1_2, .slice A1_3 l1_3.length c1_3]] w fun e w' => e = .returned (.bool r) ∧ Below w.heap.size w w' := by
  have hu107 := Try.underlying107; have hu33 := Try.underlying33; have HR0_3 := ak hr0_3; have HC0_3 := ak hc0_3; clear hr0_3 hc0_3; have HR1_3 := ak hr1_3; have HC1_3 := ak hc1_3; clear hr1_3 hc1_3; have HB := ak (Below.refl w.heap.size w); have H : (if a0_0 = a1_0 then ((laws_eqTerm.f k a0_1 a0_2 l0_3 a1_1 a1_2 l1_3).bind fun t241 => (if t241 = true then (some true) else (some false))) else (some false)) = some r := h; clear h
  by_cases c3 : a0_0 = a1_0
  · rw [if_pos c3] at H; have c3b0 : (a0_0 == a1_0) = true := beq_iff_eq.mpr c3; have c3b1 : (a0_0 != a1_0) = false := bne_eq_false_iff_eq.mpr c3; clear c3; replace H := Option.bind_eq_some_iff.mp H; obtain ⟨t241, A40, H⟩ := H; have A4 := ak A40; clear A40
    by_cases c5 : t241 = true
    · subst c5; rw [if_pos rfl] at H; obtain rfl := Option.some.inj H
      go_enter Try.func283, Try.ntmps283
      go_wp2_with (first | ((with_reducible refine gate_dst (N := 2) rfl ?_); refine bxe_ (N := 2) (cs := #[.int .i64 a0_0, .int .i64 a0_1, .int .i64 a0_2, .slice A0_3 l0_3.length c0_3]) (t := 107) ?_; intro gb239 hg w6 hbox hb; have BK239 := ak (hbox); have GW239 := ak (lg_ hg (bl_ HB.out)); have GE239 := ak (lg_ hg (bl_ HB.out)); replace HB := ak (below_step (bl_ HB.out) hb); clear hb hbox hg) | ((with_reducible refine gate_dst (N := 3) rfl ?_); refine bxe_ (N := 3) (cs := #[.int .i64 a1_0, .int .i64 a1_1, .int .i64 a1_2, .slice A1_3 l1_3.length c1_3]) (t := 107) ?_; intro gb240 hg w7 hbox hb; have BK240 := ak (hbox); have GW240 := ak (lg_ hg (bs1_ HB.out GE239.out)); have GE240 := ak (lg_ hg (bs1_ HB.out GE239.out)); replace HB := ak (below_step (bs1_ HB.out GE239.out) hb); have NB239_240 := ak (nl_ hg (bk_ BK239.out)); have NB240_239 := ak (ng_ hg (bk_ BK239.out)); replace BK239 := ak (blk_below (bk_ BK239.out) hb); clear hb hbox hg; have hnb8 := NB239_240.out; have hnc8 := NB240_239.out; have hcz9_0 := bc_ BK239.out 0; have hcz9_1 := bc_ BK239.out 1; have hcz9_2 := bc_ BK239.out 2; have hcz9_3 := bc_ BK239.out 3; have hfz9_0 := blk_frozen BK239.out 0; have hfz9_1 := blk_frozen BK239.out 1; have hfz9_2 := blk_frozen BK239.out 2; have hfz9_3 := blk_frozen BK239.out 3; have hcz10_0 := bc_ BK240.out 0; have hcz10_1 := bc_ BK240.out 1; have hcz10_2 := bc_ BK240.out 2; have hcz10_3 := bc_ BK240.out 3; have hfz10_0 := blk_frozen BK240.out 0; have hfz10_1 := blk_frozen BK240.out 1; have hfz10_2 := blk_frozen BK240.out 2; have hfz10_3 := blk_frozen BK240.out 3) | ((with_reducible refine gate_callee (f := 23) rfl ?_); refine goesM_ (some 14) rfl rfl Try.func23 (by kernel_rfl) rfl #[.agg #[.int .i64 a0_1, .int .i64 a0_2, .slice A0_3 l0_3.length c0_3], .agg #[.int .i64 a1_1, .int .i64 a1_2, .slice A1_3 l1_3.length c1_3]] rfl ?_; (with_reducible refine (laws_eqTerm.calls k a0_1 a0_2 _ _ l0_3 a1_1 a1_2 _ _ l1_3 true _ ?side1 ?side2 ?side3 ?side4 A4.out).mono ?_); (case side1 => exact cb_ HR0_3.out HB.out); (case side2 => exact HC0_3.out); (case side3 => exact cb_ HR1_3.out HB.out); (case side4 => exact HC1_3.out); rintro e w11 ⟨rfl, hb⟩; refine ⟨_, rfl, ?_⟩; replace BK239 := ak (blk_below (bk_ BK239.out) hb); replace BK240 := ak (blk_below (bk_ BK240.out) hb); replace HB := ak (below_step (bs2_ HB.out GE239.out GE240.out) hb); (try clear hb); (try clear hb2); (try clear hk); (try clear hi)))
      go_ret
      exact fin_ (bs2_ HB.out GE239.out GE240.out)
    replace c5 := Bool.eq_false_iff.mpr c5; subst c5; rw [if_neg (show ¬ (false = true) by decide)] at H; obtain rfl := Option.some.inj H
    go_enter Try.func283, Try.ntmps283
    go_wp2_with (first | ((with_reducible refine gate_dst (N := 2) rfl ?_); refine bxe_ (N := 2) (cs := #[.int .i64 a0_0, .int .i64 a0_1, .int .i64 a0_2, .slice A0_3 l0_3.length c0_3]) (t := 107) ?_; intro gb239 hg w12 hbox hb; have BK239 := ak (hbox); have GW239 := ak (lg_ hg (bl_ HB.out)); have GE239 := ak (lg_ hg (bl_ HB.out)); replace HB := ak (below_step (bl_ HB.out) hb); clear hb hbox hg) | ((with_reducible refine gate_dst (N := 3) rfl ?_); refine bxe_ (N := 3) (cs := #[.int .i64 a1_0, .int .i64 a1_1, .int .i64 a1_2, .slice A1_3 l1_3.length c1_3]) (t := 107) ?_; intro gb240 hg w13 hbox hb; have BK240 := ak (hbox); have GW240 := ak (lg_ hg (bs1_ HB.out GE239.out)); have GE240 := ak (lg_ hg (bs1_ HB.out GE239.out)); replace HB := ak (below_step (bs1_ HB.out GE239.out) hb); have NB239_240 := ak (nl_ hg (bk_ BK239.out)); have NB240_239 := ak (ng_ hg (bk_ BK239.out)); replace BK239 := ak (blk_below (bk_ BK239.out) hb); clear hb hbox hg; have hnb14 := NB239_240.out; have hnc14 := NB240_239.out; have hcz15_0 := bc_ BK239.out 0; have hcz15_1 := bc_ BK239.out 1; have hcz15_2 := bc_ BK239.out 2; have hcz15_3 := bc_ BK239.out 3; have hfz15_0 := blk_frozen BK239.out 0; have hfz15_1 := blk_frozen BK239.out 1; have hfz15_2 := blk_frozen BK239.out 2; have hfz15_3 := blk_frozen BK239.out 3; have hcz16_0 := bc_ BK240.out 0; have hcz16_1 := bc_ BK240.out 1; have hcz16_2 := bc_ BK240.out 2; have hcz16_3 := bc_ BK240.out 3; have hfz16_0 := blk_frozen BK240.out 0; have hfz16_1 := blk_frozen BK240.out 1; have hfz16_2 := blk_frozen BK240.out 2; have hfz16_3 := blk_frozen BK240.out 3) | ((with_reducible refine gate_callee (f := 23) rfl ?_); refine goesM_ (some 14) rfl rfl Try.func23 (by kernel_rfl) rfl #[.agg #[.int .i64 a0_1, .int .i64 a0_2, .slice A0_3 l0_3.length c0_3], .agg #[.int .i64 a1_1, .int .i64 a1_2, .slice A1_3 l1_3.length c1_3]] rfl ?_; (with_reducible refine (laws_eqTerm.calls k a0_1 a0_2 _ _ l0_3 a1_1 a1_2 _ _ l1_3 false _ ?side1 ?side2 ?side3 ?side4 A4.out).mono ?_); (case side1 => exact cb_ HR0_3.out HB.out); (case side2 => exact HC0_3.out); (case side3 => exact cb_ HR1_3.out HB.out); (case side4 => exact HC1_3.out); rintro e w17 ⟨rfl, hb⟩; refine ⟨_, rfl, ?_⟩; replace BK239 := ak (blk_below (bk_ BK239.out) hb); replace BK240 := ak (blk_below (bk_ BK240.out) hb); replace HB := ak (below_step (bs2_ HB.out GE239.out GE240.out) hb); (try clear hb); (try clear hb2); (try clear hk); (try clear hi)))
    go_ret
    exact fin_ (bs2_ HB.out GE239.out GE240.out)
  rw [if_neg c3] at H; have c3b0 : (a0_0 == a1_0) = false := beq_eq_false_iff_ne.mpr c3; have c3b1 : (a0_0 != a1_0) = true := bne_iff_ne.mpr c3; obtain rfl := Option.some.inj H
  go_enter Try.func283, Try.ntmps283
  go_wp2_with (first | ((with_reducible refine gate_dst (N := 2) rfl ?_); refine bxe_ (N := 2) (cs := #[.int .i64 a0_0, .int .i64 a0_1, .int .i64 a0_2, .slice A0_3 l0_3.length c0_3]) (t := 107) ?_; intro gb239 hg w18 hbox hb; have BK239 := ak (hbox); have GW239 := ak (lg_ hg (bl_ HB.out)); have GE239 := ak (lg_ hg (bl_ HB.out)); replace HB := ak (below_step (bl_ HB.out) hb); clear hb hbox hg) | ((with_reducible refine gate_dst (N := 3) rfl ?_); refine bxe_ (N := 3) (cs := #[.int .i64 a1_0, .int .i64 a1_1, .int .i64 a1_2, .slice A1_3 l1_3.length c1_3]) (t := 107) ?_; intro gb240 hg w19 hbox hb; have BK240 := ak (hbox); have GW240 := ak (lg_ hg (bs1_ HB.out GE239.out)); have GE240 := ak (lg_ hg (bs1_ HB.out GE239.out)); replace HB := ak (below_step (bs1_ HB.out GE239.out) hb); have NB239_240 := ak (nl_ hg (bk_ BK239.out)); have NB240_239 := ak (ng_ hg (bk_ BK239.out)); replace BK239 := ak (blk_below (bk_ BK239.out) hb); clear hb hbox hg; have hnb20 := NB239_240.out; have hnc20 := NB240_239.out; have hcz21_0 := bc_ BK239.out 0; have hcz21_1 := bc_ BK239.out 1; have hcz21_2 := bc_ BK239.out 2; have hcz21_3 := bc_ BK239.out 3; have hfz21_0 := blk_frozen BK239.out 0; have hfz21_1 := blk_frozen BK239.out 1; have hfz21_2 := blk_frozen BK239.out 2; have hfz21_3 := blk_frozen BK239.out 3; have hcz22_0 := bc_ BK240.out 0; have hcz22_1 := bc_ BK240.out 1; have hcz22_2 := bc_ BK240.out 2; have hcz22_3 := bc_ BK240.out 3; have hfz22_0 := blk_frozen BK240.out 0; have hfz22_1 := blk_frozen BK240.out 1; have hfz22_2 := blk_frozen BK240.out 2; have hfz22_3 := blk_frozen BK240.out 3))
  go_ret
  exact fin_ (bs2_ HB.out GE239.out GE240.out)

/-! ### laws_eqBindS: function 247 -/
def laws_eqBindS.l0 : Nat → List (I_Bind) → List (I_Bind) → Int → Option (Bool)
  | 0, _, _, _ => none
  | k + 1, x0, x1, x5 => if x5 < (x0.length : Int) then (if 0 ≤ x5 then (if x5 < (x1.length : Int) then ((laws_eqBind.f k ((rd_I_Bind x0 x5).f0) ((rd_I_Bind x0 x5).f1.f0) ((rd_I_Bind x0 x5).f1.f1) ((rd_I_Bind x0 x5).f1.f2) ((rd_I_Bind x1 x5).f0) ((rd_I_Bind x1 x5).f1.f0) ((rd_I_Bind x1 x5).f1.f1) ((rd_I_Bind x1 x5).f1.f2)).bind fun t244 => (if t244 = true then (laws_eqBindS.l0 k x0 x1 (wrap64 (x5 + 1))) else (some false))) else (none)) else (none)) else (some true)
def laws_eqBindS.f (k : Nat) (l0 : List (I_Bind)) (l1 : List (I_Bind)) : Option (Bool) := if (l0.length : Int) = (l1.length : Int) then (laws_eqBindS.l0 k l0 l1 0) else (some false)
theorem laws_eqBindS.mono_l : ∀ k, (∀ y0 y1 y2, LeO (laws_eqBindS.l0 k y0 y1 y2) (laws_eqBindS.l0 (k + 1) y0 y1 y2))
  | 0 => fun _ _ _ r h => by simp [laws_eqBindS.l0] at h
  | k + 1 => by
    have ih0 := laws_eqBindS.mono_l k
    · intro y0 y1 y2
      unfold laws_eqBindS.l0
      repeat' first | (with_reducible first | exact ih0 _ _ _ | exact laws_eqBind.mono _ _ _ _ _ _ _ _ _ | exact LeO.refl _ | exact LeO.none _ | refine LeO.ite ?_ ?_ | refine LeO.bind ?_ (fun _ => ?_)) | exact ih0 _ _ _ | exact laws_eqBind.mono _ _ _ _ _ _ _ _ _ | exact LeO.none _ | refine LeO.ite ?_ ?_ | refine LeO.bind ?_ (fun _ => ?_)
theorem laws_eqBindS.mono : ∀ a0 a1 k, LeO (laws_eqBindS.f k a0 a1) (laws_eqBindS.f (k + 1) a0 a1) := by
  intro a0 a1 k; have ih0 := laws_eqBindS.mono_l k
  unfold laws_eqBindS.f
  repeat' first
      | (with_reducible exact ih0 _ _ _)
      | (with_reducible exact laws_eqBind.mono _ _ _ _ _ _ _ _ _)
      | (with_reducible exact LeO.refl _)
      | (with_reducible exact LeO.none _)
      | (with_reducible refine LeO.ite ?_ ?_)
      | (with_reducible refine LeO.bind ?_ (fun _ => ?_))
      | exact ih0 _ _ _
      | exact laws_eqBind.mono _ _ _ _ _ _ _ _ _
      | exact LeO.none _
      | refine LeO.ite ?_ ?_
      | refine LeO.bind ?_ (fun _ => ?_)
def laws_eqBindS.T6 : Bool × List (List Nat × List Nat) := (true, [([], []), ([], []), ([0, 1], [0, 1]), ([2], [2]), ([], []), ([], []), ([4, 5], [4, 5]), ([6], [6]), ([3, 7], [3, 7]), ([8], [8])])
def laws_eqBindS.B6 : List Nat := [0, 0, 3, 7, 0, 0, 48, 112, 255, 511]
theorem laws_eqBindS.tab6 : rtab .any (opsOf Try.f247 6) = laws_eqBindS.T6 := by kernel_rfl
theorem laws_eqBindS.bits6 : waitsOk laws_eqBindS.T6.2 laws_eqBindS.B6 = true := by kernel_rfl
set_option maxHeartbeats 8000000 in
set_option maxRecDepth 100000 in
theorem laws_eqBindS.calls (k : Nat) (A0 : Option Addr) (c0 : Nat) (l0 : List (I_Bind)) (A1 : Option Addr) (c1 : Nat) (l1 : List (I_Bind)) (r : Bool) (w : World) (hr0 : Kd.C k107 w A0 l0.length l0) (hc0 : l0.length ≤ c0) (hr1 : Kd.C k107 w A1 l1.length l1) (hc1 : l1.length ≤ c1) (h : laws_eqBindS.f k l0 l1 = some r) :
    Calls Try.prog 247 #[.slice A0 l0.length c0, .slice A1 l1.length c1] w fun e w' => e = .returned (.bool r) ∧ Below w.heap.size w w' := by
  have hu107 := Try.underlying107; have HR0 := ak hr0; have HC0 := ak hc0; clear hr0 hc0; have HR1 := ak hr1; have HC1 := ak hc1; clear hr1 hc1; have HB := ak (Below.refl w.heap.size w); have H : (if (l0.length : Int) = (l1.length : Int) then (laws_eqBindS.l0 k l0 l1 0) else (some false)) = some r := h; clear h
  by_cases c3 : (l0.length : Int) = (l1.length : Int)
  · rw [if_pos c3] at H; have c3b0 : ((l0.length : Int) == (l1.length : Int)) = true := beq_iff_eq.mpr c3; have c3b1 : ((l0.length : Int) != (l1.length : Int)) = false := bne_eq_false_iff_eq.mpr c3; have c3b2 : (l0.length == l1.length) = true := by first | simpa using c3 | (simp at c3 ⊢; omega)
    clear c3; have H' := ak H; clear H
    go_enter Try.func247, Try.ntmps247
    go_wp2
    go_loopg [5] k (fun kq v5 w' => ∃ (x5_1 : Int), v5 = .int .i64 x5_1 ∧ Aside0 (laws_eqBindS.l0 kq l0 l1 x5_1 = some r) ∧ Aside0 (kq ≤ k) ∧ Aside0 (Below w.heap.size w w'))
    case atStart => exact ⟨(0), (by first | rfl | (simp; done) | (simp [*]; done)), H', ⟨Nat.le_refl _⟩, ⟨by repeat (first | (with_reducible first | exact HB.out | apply below_alloc | apply pw_below_drewN | apply below_drew1) | exact HB.out)⟩⟩
    case round =>
      clear H'; (try clear c1); (try clear c2); (try clear p2); (try clear c3); (try clear c3b0); (try clear c3b1); (try clear c3b2); obtain ⟨x5_1, rfl, HA, HK1, HB⟩ := hrel
      cases gk with
      | zero => exact absurd HA.out (by simp [laws_eqBindS.l0])
      | succ k1 =>
        have H := HA.out; clear HA
        simp only [laws_eqBindS.l0] at H
        by_cases c4 : x5_1 < (l0.length : Int)
        · rw [if_pos c4] at H; have c4b0 := decide_eq_true c4; clear c4
          by_cases c5 : 0 ≤ x5_1
          · rw [if_pos c5] at H; have c5b0 := decide_eq_true c5; clear c5
            by_cases c6 : x5_1 < (l1.length : Int)
            · rw [if_pos c6] at H; have c6b0 := decide_eq_true c6; clear c6; replace H := Option.bind_eq_some_iff.mp H; obtain ⟨t244, A70, H⟩ := H; have A7 := ak A70; clear A70
              by_cases c8 : t244 = true
              · subst c8; rw [if_pos rfl] at H; have H' := ak H; clear H
                try go_wp2
                replace HB := ak (below_drew1 HB.out); have p242 : 0 ≤ (x5_1 : Int) := as_; have q242 : x5_1 < (l0.length : Int) := as_; obtain ⟨ad242, A242_3, c242_3, e242, hx242_0, hx242_1, hx242_2, hx242_3, hl242_3, hi242_3⟩ := at_T107 HR0.out x5_1 p242 q242; have hw242_3 := hx242_3; have hw242_2 := hx242_2; have hw242_1 := hx242_1; have hw242_0 := hx242_0
                cases e242
                replace hx242_0 := hbc_ HB.out hx242_0; replace hx242_1 := hbc_ HB.out hx242_1; replace hx242_2 := hbc_ HB.out hx242_2; replace hx242_3 := hbc_ HB.out hx242_3; have HR242_3 := ak hi242_3; have HC242_3 := ak hl242_3; clear hi242_3 hl242_3; replace p242 := eq_true p242; replace q242 := eq_true q242; have p243 : 0 ≤ (x5_1 : Int) := as_; have q243 : x5_1 < (l1.length : Int) := as_; obtain ⟨ad243, A243_3, c243_3, e243, hx243_0, hx243_1, hx243_2, hx243_3, hl243_3, hi243_3⟩ := at_T107 HR1.out x5_1 p243 q243; have hw243_3 := hx243_3; have hw243_2 := hx243_2; have hw243_1 := hx243_1; have hw243_0 := hx243_0
                cases e243
                replace hx243_0 := hbc_ HB.out hx243_0; replace hx243_1 := hbc_ HB.out hx243_1; replace hx243_2 := hbc_ HB.out hx243_2; replace hx243_3 := hbc_ HB.out hx243_3; have HR243_3 := ak hi243_3; have HC243_3 := ak hl243_3; clear hi243_3 hl243_3; replace p243 := eq_true p243; replace q243 := eq_true q243; refine start_ (n := 10) (S := fun w' => w'.cell? (ad242.add ((x5_1).toNat * 4)) = some (.int .i64 ((rd_I_Bind l0 x5_1).f0)) ∧ w'.cell? ⟨(ad242.add ((x5_1).toNat * 4)).block, (ad242.add ((x5_1).toNat * 4)).off + 1, none⟩ = some (.int .i64 ((rd_I_Bind l0 x5_1).f1.f0)) ∧ w'.cell? ⟨(ad242.add ((x5_1).toNat * 4)).block, (ad242.add ((x5_1).toNat * 4)).off + 2, none⟩ = some (.int .i64 ((rd_I_Bind l0 x5_1).f1.f1)) ∧ w'.cell? ⟨(ad242.add ((x5_1).toNat * 4)).block, (ad242.add ((x5_1).toNat * 4)).off + 3, none⟩ = some (.slice A242_3 ((rd_I_Bind l0 x5_1).f1.f2).length c242_3) ∧ w'.cell? (ad243.add ((x5_1).toNat * 4)) = some (.int .i64 ((rd_I_Bind l1 x5_1).f0)) ∧ w'.cell? ⟨(ad243.add ((x5_1).toNat * 4)).block, (ad243.add ((x5_1).toNat * 4)).off + 1, none⟩ = some (.int .i64 ((rd_I_Bind l1 x5_1).f1.f0)) ∧ w'.cell? ⟨(ad243.add ((x5_1).toNat * 4)).block, (ad243.add ((x5_1).toNat * 4)).off + 2, none⟩ = some (.int .i64 ((rd_I_Bind l1 x5_1).f1.f1)) ∧ w'.cell? ⟨(ad243.add ((x5_1).toNat * 4)).block, (ad243.add ((x5_1).toNat * 4)).off + 3, none⟩ = some (.slice A243_3 ((rd_I_Bind l1 x5_1).f1.f2).length c243_3)) (ds := []) (bm 10 0) (by kernel_rfl) rfl (by kernel_rfl) ⟨(hbc_ HB.out hw242_0 :), (hbc_ HB.out hw242_1 :), (hbc_ HB.out hw242_2 :), (hbc_ HB.out hw242_3 :), (hbc_ HB.out hw243_0 :), (hbc_ HB.out hw243_1 :), (hbc_ HB.out hw243_2 :), (hbc_ HB.out hw243_3 :)⟩ (fun hHeld => ?_); refine with_tabW laws_eqBindS.tab6 laws_eqBindS.bits6 (fun HT_ HW_ => ?_)
                generalize wr.drew = w9 at HB HR242_3 HR243_3 hx242_0 hx242_1 hx242_2 hx242_3 hx243_0 hx243_1 hx243_2 hx243_3 hHeld ⊢
                refine pv_ 0 ?_; refine pv_ 1 ?_; refine pv_ 2 ?_; refine pv_ 4 ?_; refine pv_ 5 ?_; refine pv_ 6 ?_; refine tv_ 3 hHeld ?_; refine tv_ 7 hHeld ?_; refine one_ (i := 8) (N := some 25) (bm 10 511) rfl rfl (one_of HT_.out (by kernel_rfl)) (by decide) (fun K hK => ?_); refine goesB_ Try.func283 (by kernel_rfl) rfl #[.agg #[.int .i64 ((rd_I_Bind l0 x5_1).f0), .int .i64 ((rd_I_Bind l0 x5_1).f1.f0), .int .i64 ((rd_I_Bind l0 x5_1).f1.f1), .slice A242_3 ((rd_I_Bind l0 x5_1).f1.f2).length c242_3], .agg #[.int .i64 ((rd_I_Bind l1 x5_1).f0), .int .i64 ((rd_I_Bind l1 x5_1).f1.f0), .int .i64 ((rd_I_Bind l1 x5_1).f1.f1), .slice A243_3 ((rd_I_Bind l1 x5_1).f1.f2).length c243_3]] (by rfl) rfl rfl ?_
                with_reducible refine (laws_eqBind.calls k1 ((rd_I_Bind l0 x5_1).f0) ((rd_I_Bind l0 x5_1).f1.f0) ((rd_I_Bind l0 x5_1).f1.f1) _ _ ((rd_I_Bind l0 x5_1).f1.f2) ((rd_I_Bind l1 x5_1).f0) ((rd_I_Bind l1 x5_1).f1.f0) ((rd_I_Bind l1 x5_1).f1.f1) _ _ ((rd_I_Bind l1 x5_1).f1.f2) true _ ?side1 ?side2 ?side3 ?side4 A7.out).mono ?_
                (case side1 => exact cb_ HR242_3.out HB.out); (case side2 => exact HC242_3.out); (case side3 => exact cb_ HR243_3.out HB.out); (case side4 => exact HC243_3.out); rintro e w10 ⟨rfl, hb⟩; refine ⟨_, rfl, ?_⟩; replace HB := ak (below_step (bl_ HB.out) hb); (try clear hb); (try clear hb2); (try clear hk); (try clear hi); refine hK.out _ _ ⟨(hbc_ HB.out hw242_0 :), (hbc_ HB.out hw242_1 :), (hbc_ HB.out hw242_2 :), (hbc_ HB.out hw242_3 :), (hbc_ HB.out hw243_0 :), (hbc_ HB.out hw243_1 :), (hbc_ HB.out hw243_2 :), (hbc_ HB.out hw243_3 :)⟩ (fun hHeld => ?_); clear hK K; refine norm_ (a' := ?_) ?_ ?_
                rotate_left
                · show Act.put _ (some 25) _ = _
                  simp only [Act.put, List.setIfInBounds_toArray, List.set_cons_zero, List.set_cons_succ, i64_w, i32_w]
                  rfl
                refine pv_ 9 ?_; refine done_ (done_of HT_.out (by kernel_rfl)) ?_
                try go_wp2
                go_roundg k1
                case measure => have := HK1.out; omega
                case rel => exact ⟨(wrap64 (x5_1 + 1)), (by first | rfl | (simp; done) | (simp [*]; done)), H', ⟨by have := HK1.out; omega⟩, ⟨by repeat (first | (with_reducible first | exact HB.out | apply below_alloc | apply pw_below_drewN | apply below_drew1) | exact HB.out)⟩⟩
              replace c8 := Bool.eq_false_iff.mpr c8; subst c8; rw [if_neg (show ¬ (false = true) by decide)] at H; obtain rfl := Option.some.inj H
              try go_wp2
              replace HB := ak (below_drew1 HB.out); have p242 : 0 ≤ (x5_1 : Int) := as_; have q242 : x5_1 < (l0.length : Int) := as_; obtain ⟨ad242, A242_3, c242_3, e242, hx242_0, hx242_1, hx242_2, hx242_3, hl242_3, hi242_3⟩ := at_T107 HR0.out x5_1 p242 q242; have hw242_3 := hx242_3; have hw242_2 := hx242_2; have hw242_1 := hx242_1; have hw242_0 := hx242_0
              cases e242
              replace hx242_0 := hbc_ HB.out hx242_0; replace hx242_1 := hbc_ HB.out hx242_1; replace hx242_2 := hbc_ HB.out hx242_2; replace hx242_3 := hbc_ HB.out hx242_3; have HR242_3 := ak hi242_3; have HC242_3 := ak hl242_3; clear hi242_3 hl242_3; replace p242 := eq_true p242; replace q242 := eq_true q242; have p243 : 0 ≤ (x5_1 : Int) := as_; have q243 : x5_1 < (l1.length : Int) := as_; obtain ⟨ad243, A243_3, c243_3, e243, hx243_0, hx243_1, hx243_2, hx243_3, hl243_3, hi243_3⟩ := at_T107 HR1.out x5_1 p243 q243; have hw243_3 := hx243_3; have hw243_2 := hx243_2; have hw243_1 := hx243_1; have hw243_0 := hx243_0
              cases e243
              replace hx243_0 := hbc_ HB.out hx243_0; replace hx243_1 := hbc_ HB.out hx243_1; replace hx243_2 := hbc_ HB.out hx243_2; replace hx243_3 := hbc_ HB.out hx243_3; have HR243_3 := ak hi243_3; have HC243_3 := ak hl243_3; clear hi243_3 hl243_3; replace p243 := eq_true p243; replace q243 := eq_true q243; refine start_ (n := 10) (S := fun w' => w'.cell? (ad242.add ((x5_1).toNat * 4)) = some (.int .i64 ((rd_I_Bind l0 x5_1).f0)) ∧ w'.cell? ⟨(ad242.add ((x5_1).toNat * 4)).block, (ad242.add ((x5_1).toNat * 4)).off + 1, none⟩ = some (.int .i64 ((rd_I_Bind l0 x5_1).f1.f0)) ∧ w'.cell? ⟨(ad242.add ((x5_1).toNat * 4)).block, (ad242.add ((x5_1).toNat * 4)).off + 2, none⟩ = some (.int .i64 ((rd_I_Bind l0 x5_1).f1.f1)) ∧ w'.cell? ⟨(ad242.add ((x5_1).toNat * 4)).block, (ad242.add ((x5_1).toNat * 4)).off + 3, none⟩ = some (.slice A242_3 ((rd_I_Bind l0 x5_1).f1.f2).length c242_3) ∧ w'.cell? (ad243.add ((x5_1).toNat * 4)) = some (.int .i64 ((rd_I_Bind l1 x5_1).f0)) ∧ w'.cell? ⟨(ad243.add ((x5_1).toNat * 4)).block, (ad243.add ((x5_1).toNat * 4)).off + 1, none⟩ = some (.int .i64 ((rd_I_Bind l1 x5_1).f1.f0)) ∧ w'.cell? ⟨(ad243.add ((x5_1).toNat * 4)).block, (ad243.add ((x5_1).toNat * 4)).off + 2, none⟩ = some (.int .i64 ((rd_I_Bind l1 x5_1).f1.f1)) ∧ w'.cell? ⟨(ad243.add ((x5_1).toNat * 4)).block, (ad243.add ((x5_1).toNat * 4)).off + 3, none⟩ = some (.slice A243_3 ((rd_I_Bind l1 x5_1).f1.f2).length c243_3)) (ds := []) (bm 10 0) (by kernel_rfl) rfl (by kernel_rfl) ⟨(hbc_ HB.out hw242_0 :), (hbc_ HB.out hw242_1 :), (hbc_ HB.out hw242_2 :), (hbc_ HB.out hw242_3 :), (hbc_ HB.out hw243_0 :), (hbc_ HB.out hw243_1 :), (hbc_ HB.out hw243_2 :), (hbc_ HB.out hw243_3 :)⟩ (fun hHeld => ?_); refine with_tabW laws_eqBindS.tab6 laws_eqBindS.bits6 (fun HT_ HW_ => ?_)
              generalize wr.drew = w11 at HB HR242_3 HR243_3 hx242_0 hx242_1 hx242_2 hx242_3 hx243_0 hx243_1 hx243_2 hx243_3 hHeld ⊢
              refine pv_ 0 ?_; refine pv_ 1 ?_; refine pv_ 2 ?_; refine pv_ 4 ?_; refine pv_ 5 ?_; refine pv_ 6 ?_; refine tv_ 3 hHeld ?_; refine tv_ 7 hHeld ?_; refine one_ (i := 8) (N := some 25) (bm 10 511) rfl rfl (one_of HT_.out (by kernel_rfl)) (by decide) (fun K hK => ?_); refine goesB_ Try.func283 (by kernel_rfl) rfl #[.agg #[.int .i64 ((rd_I_Bind l0 x5_1).f0), .int .i64 ((rd_I_Bind l0 x5_1).f1.f0), .int .i64 ((rd_I_Bind l0 x5_1).f1.f1), .slice A242_3 ((rd_I_Bind l0 x5_1).f1.f2).length c242_3], .agg #[.int .i64 ((rd_I_Bind l1 x5_1).f0), .int .i64 ((rd_I_Bind l1 x5_1).f1.f0), .int .i64 ((rd_I_Bind l1 x5_1).f1.f1), .slice A243_3 ((rd_I_Bind l1 x5_1).f1.f2).length c243_3]] (by rfl) rfl rfl ?_
              with_reducible refine (laws_eqBind.calls k1 ((rd_I_Bind l0 x5_1).f0) ((rd_I_Bind l0 x5_1).f1.f0) ((rd_I_Bind l0 x5_1).f1.f1) _ _ ((rd_I_Bind l0 x5_1).f1.f2) ((rd_I_Bind l1 x5_1).f0) ((rd_I_Bind l1 x5_1).f1.f0) ((rd_I_Bind l1 x5_1).f1.f1) _ _ ((rd_I_Bind l1 x5_1).f1.f2) false _ ?side1 ?side2 ?side3 ?side4 A7.out).mono ?_
              (case side1 => exact cb_ HR242_3.out HB.out); (case side2 => exact HC242_3.out); (case side3 => exact cb_ HR243_3.out HB.out); (case side4 => exact HC243_3.out); rintro e w12 ⟨rfl, hb⟩; refine ⟨_, rfl, ?_⟩; replace HB := ak (below_step (bl_ HB.out) hb); (try clear hb); (try clear hb2); (try clear hk); (try clear hi); refine hK.out _ _ ⟨(hbc_ HB.out hw242_0 :), (hbc_ HB.out hw242_1 :), (hbc_ HB.out hw242_2 :), (hbc_ HB.out hw242_3 :), (hbc_ HB.out hw243_0 :), (hbc_ HB.out hw243_1 :), (hbc_ HB.out hw243_2 :), (hbc_ HB.out hw243_3 :)⟩ (fun hHeld => ?_); clear hK K; refine norm_ (a' := ?_) ?_ ?_
              rotate_left
              · show Act.put _ (some 25) _ = _
                simp only [Act.put, List.setIfInBounds_toArray, List.set_cons_zero, List.set_cons_succ, i64_w, i32_w]
                rfl
              refine pv_ 9 ?_; refine done_ (done_of HT_.out (by kernel_rfl)) ?_
              try go_wp2
              go_ret
              exact fin_ (bl_ HB.out)
            rw [if_neg c6] at H; exact absurd H (by simp)
          rw [if_neg c5] at H; exact absurd H (by simp)
        rw [if_neg c4] at H; have c4b0 := decide_eq_false c4; clear c4; obtain rfl := Option.some.inj H
        go_wp2
        go_ret
        exact fin_ (bl_ HB.out)
  rw [if_neg c3] at H; have c3b0 : ((l0.length : Int) == (l1.length : Int)) = false := beq_eq_false_iff_ne.mpr c3; have c3b1 : ((l0.length : Int) != (l1.length : Int)) = true := bne_iff_ne.mpr c3; have c3b2 : (l0.length == l1.length) = false := by first | simpa using c3 | (simp at c3 ⊢; omega)
  obtain rfl := Option.some.inj H
  go_enter Try.func247, Try.ntmps247
  go_wp2
  go_ret
  exact fin_ (bl_ HB.out)

/-! ### laws_eqLit: function 112 -/
def laws_eqLit.f (k : Nat) (a0_0 : Bool) (a0_1 : Int) (a0_2 : Int) (l0_3 : List (I_Term)) (a0_4 : Int) (a0_5 : Int) (l0_6 : List (I_Term)) (a1_0 : Bool) (a1_1 : Int) (a1_2 : Int) (l1_3 : List (I_Term)) (a1_4 : Int) (a1_5 : Int) (l1_6 : List (I_Term)) : Option (Bool) := if (a0_0 != a1_0) = true then (some false) else ((laws_eqTerm.f k a0_1 a0_2 l0_3 a1_1 a1_2 l1_3).bind fun t247 => (if t247 = true then ((laws_eqTerm.f k a0_4 a0_5 l0_6 a1_4 a1_5 l1_6).bind fun t248 => (if t248 = true then (some true) else (some false))) else (some false)))
theorem laws_eqLit.mono : ∀ a0 a1 a2 a3 a4 a5 a6 a7 a8 a9 a10 a11 a12 a13 k, LeO (laws_eqLit.f k a0 a1 a2 a3 a4 a5 a6 a7 a8 a9 a10 a11 a12 a13) (laws_eqLit.f (k + 1) a0 a1 a2 a3 a4 a5 a6 a7 a8 a9 a10 a11 a12 a13) := by
  intro a0 a1 a2 a3 a4 a5 a6 a7 a8 a9 a10 a11 a12 a13 k
  unfold laws_eqLit.f
  repeat' first
      | (with_reducible exact laws_eqTerm.mono _ _ _ _ _ _ _)
      | (with_reducible exact LeO.refl _)
      | (with_reducible exact LeO.none _)
      | (with_reducible refine LeO.ite ?_ ?_)
      | (with_reducible refine LeO.bind ?_ (fun _ => ?_))
      | exact laws_eqTerm.mono _ _ _ _ _ _ _
      | exact LeO.none _
      | refine LeO.ite ?_ ?_
      | refine LeO.bind ?_ (fun _ => ?_)
set_option maxHeartbeats 8000000 in
set_option maxRecDepth 100000 in
theorem laws_eqLit.calls (k : Nat) (a0_0 : Bool) (a0_1 : Int) (a0_2 : Int) (A0_3 : Option Addr) (c0_3 : Nat) (l0_3 : List (I_Term)) (a0_4 : Int) (a0_5 : Int) (A0_6 : Option Addr) (c0_6 : Nat) (l0_6 : List (I_Term)) (a1_0 : Bool) (a1_1 : Int) (a1_2 : Int) (A1_3 : Option Addr) (c1_3 : Nat) (l1_3 : List (I_Term)) (a1_4 : Int) (a1_5 : Int) (A1_6 : Option Addr) (c1_6 : Nat) (l1_6 : List (I_Term)) (r : Bool) (w : World) (hr0_3 : Kd.C k33 w A0_3 l0_3.length l0_3) (hc0_3 : l0_3.length ≤ c0_3) (hr0_6 : Kd.C k33 w A0_6 l0_6.length l0_6) (hc0_6 : l0_6.length ≤ c0_6) (hr1_3 : Kd.C k33 w A1_3 l1_3.length l1_3) (hc1_3 : l1_3.length ≤ c1_3) (hr1_6 : Kd.C k33 w A1_6 l1_6.length l1_6) (hc1_6 : l1_6.length ≤ c1_6) (h : laws_eqLit.f k a0_0 a0_1 a0_2 l0_3 a0_4 a0_5 l0_6 a1_0 a1_1 a1_2 l1_3 a1_4 a1_5 l1_6 = some r) :
    Calls Try.prog 112 #[.agg #[.bool a0_0, .int .i64 a0_1, .int .i64 a0_2, .slice A0_3 l0_3.length c0_3, .int .i64 a0_4, .int .i64 a0_5, .slice A0_6 l0_6.length c0_6], .agg #[.bool a1_0, .int .i64 a1_1, .int .i64 a1_2, .slice A1_3 l1_3.length c1_3, .int .i64 a1_4, .int .i64 a1_5, .slice A1_6 l1_6.length c1_6]] w fun e w' => e = .returned (.bool r) ∧ Below w.heap.size w w' := by
  have hu120 := Try.underlying120; have hu33 := Try.underlying33; have HR0_3 := ak hr0_3; have HC0_3 := ak hc0_3; clear hr0_3 hc0_3; have HR0_6 := ak hr0_6; have HC0_6 := ak hc0_6; clear hr0_6 hc0_6; have HR1_3 := ak hr1_3; have HC1_3 := ak hc1_3; clear hr1_3 hc1_3; have HR1_6 := ak hr1_6; have HC1_6 := ak hc1_6; clear hr1_6 hc1_6; have HB := ak (Below.refl w.heap.size w); have H : (if (a0_0 != a1_0) = true then (some false) else ((laws_eqTerm.f k a0_1 a0_2 l0_3 a1_1 a1_2 l1_3).bind fun t247 => (if t247 = true then ((laws_eqTerm.f k a0_4 a0_5 l0_6 a1_4 a1_5 l1_6).bind fun t248 => (if t248 = true then (some true) else (some false))) else (some false)))) = some r := h; clear h
  by_cases c3 : (a0_0 != a1_0) = true
  · rw [if_pos c3] at H; have c3b0 : (a0_0 != a1_0) = true := c3; (try (have c3b1 : decide (a0_0 = a1_0) = false := by simpa using c3)); (try (have c3b2 : (a0_0 == a1_0) = false := by simpa using c3)); (try (have c3b3 : (!(a0_0 == a1_0)) = true := by simpa using c3)); (try (have c3b4 : ¬ (a0_0 = a1_0) := by simpa using c3)); clear c3; obtain rfl := Option.some.inj H
    go_enter Try.func112, Try.ntmps112
    go_wp2_with (first | ((with_reducible refine gate_dst (N := 2) rfl ?_); refine bxe_ (N := 2) (cs := #[.bool a0_0, .int .i64 a0_1, .int .i64 a0_2, .slice A0_3 l0_3.length c0_3, .int .i64 a0_4, .int .i64 a0_5, .slice A0_6 l0_6.length c0_6]) (t := 120) ?_; intro gb245 hg w4 hbox hb; have BK245 := ak (hbox); have GW245 := ak (lg_ hg (bl_ HB.out)); have GE245 := ak (lg_ hg (bl_ HB.out)); replace HB := ak (below_step (bl_ HB.out) hb); clear hb hbox hg) | ((with_reducible refine gate_dst (N := 3) rfl ?_); refine bxe_ (N := 3) (cs := #[.bool a1_0, .int .i64 a1_1, .int .i64 a1_2, .slice A1_3 l1_3.length c1_3, .int .i64 a1_4, .int .i64 a1_5, .slice A1_6 l1_6.length c1_6]) (t := 120) ?_; intro gb246 hg w5 hbox hb; have BK246 := ak (hbox); have GW246 := ak (lg_ hg (bs1_ HB.out GE245.out)); have GE246 := ak (lg_ hg (bs1_ HB.out GE245.out)); replace HB := ak (below_step (bs1_ HB.out GE245.out) hb); have NB245_246 := ak (nl_ hg (bk_ BK245.out)); have NB246_245 := ak (ng_ hg (bk_ BK245.out)); replace BK245 := ak (blk_below (bk_ BK245.out) hb); clear hb hbox hg; have hnb6 := NB245_246.out; have hnc6 := NB246_245.out; have hcz7_0 := bc_ BK245.out 0; have hcz7_1 := bc_ BK245.out 1; have hcz7_2 := bc_ BK245.out 2; have hcz7_3 := bc_ BK245.out 3; have hcz7_4 := bc_ BK245.out 4; have hcz7_5 := bc_ BK245.out 5; have hcz7_6 := bc_ BK245.out 6; have hfz7_0 := blk_frozen BK245.out 0; have hfz7_1 := blk_frozen BK245.out 1; have hfz7_2 := blk_frozen BK245.out 2; have hfz7_3 := blk_frozen BK245.out 3; have hfz7_4 := blk_frozen BK245.out 4; have hfz7_5 := blk_frozen BK245.out 5; have hfz7_6 := blk_frozen BK245.out 6; have hcz8_0 := bc_ BK246.out 0; have hcz8_1 := bc_ BK246.out 1; have hcz8_2 := bc_ BK246.out 2; have hcz8_3 := bc_ BK246.out 3; have hcz8_4 := bc_ BK246.out 4; have hcz8_5 := bc_ BK246.out 5; have hcz8_6 := bc_ BK246.out 6; have hfz8_0 := blk_frozen BK246.out 0; have hfz8_1 := blk_frozen BK246.out 1; have hfz8_2 := blk_frozen BK246.out 2; have hfz8_3 := blk_frozen BK246.out 3; have hfz8_4 := blk_frozen BK246.out 4; have hfz8_5 := blk_frozen BK246.out 5; have hfz8_6 := blk_frozen BK246.out 6))
    go_ret
    exact fin_ (bs2_ HB.out GE245.out GE246.out)
  rw [if_neg c3] at H; have c3b0 : (a0_0 != a1_0) = false := by simpa using c3
  (try (have c3b1 : decide (a0_0 = a1_0) = true := by simpa using c3)); (try (have c3b2 : (a0_0 == a1_0) = true := by simpa using c3)); (try (have c3b3 : (!(a0_0 == a1_0)) = false := by simpa using c3)); clear c3; replace H := Option.bind_eq_some_iff.mp H; obtain ⟨t247, A90, H⟩ := H; have A9 := ak A90; clear A90
  by_cases c10 : t247 = true
  · subst c10; rw [if_pos rfl] at H; replace H := Option.bind_eq_some_iff.mp H; obtain ⟨t248, A110, H⟩ := H; have A11 := ak A110; clear A110
    by_cases c12 : t248 = true
    · subst c12; rw [if_pos rfl] at H; obtain rfl := Option.some.inj H
      go_enter Try.func112, Try.ntmps112
      go_wp2_with (first | ((with_reducible refine gate_dst (N := 2) rfl ?_); refine bxe_ (N := 2) (cs := #[.bool a0_0, .int .i64 a0_1, .int .i64 a0_2, .slice A0_3 l0_3.length c0_3, .int .i64 a0_4, .int .i64 a0_5, .slice A0_6 l0_6.length c0_6]) (t := 120) ?_; intro gb245 hg w13 hbox hb; have BK245 := ak (hbox); have GW245 := ak (lg_ hg (bl_ HB.out)); have GE245 := ak (lg_ hg (bl_ HB.out)); replace HB := ak (below_step (bl_ HB.out) hb); clear hb hbox hg) | ((with_reducible refine gate_dst (N := 3) rfl ?_); refine bxe_ (N := 3) (cs := #[.bool a1_0, .int .i64 a1_1, .int .i64 a1_2, .slice A1_3 l1_3.length c1_3, .int .i64 a1_4, .int .i64 a1_5, .slice A1_6 l1_6.length c1_6]) (t := 120) ?_; intro gb246 hg w14 hbox hb; have BK246 := ak (hbox); have GW246 := ak (lg_ hg (bs1_ HB.out GE245.out)); have GE246 := ak (lg_ hg (bs1_ HB.out GE245.out)); replace HB := ak (below_step (bs1_ HB.out GE245.out) hb); have NB245_246 := ak (nl_ hg (bk_ BK245.out)); have NB246_245 := ak (ng_ hg (bk_ BK245.out)); replace BK245 := ak (blk_below (bk_ BK245.out) hb); clear hb hbox hg; have hnb15 := NB245_246.out; have hnc15 := NB246_245.out; have hcz16_0 := bc_ BK245.out 0; have hcz16_1 := bc_ BK245.out 1; have hcz16_2 := bc_ BK245.out 2; have hcz16_3 := bc_ BK245.out 3; have hcz16_4 := bc_ BK245.out 4; have hcz16_5 := bc_ BK245.out 5; have hcz16_6 := bc_ BK245.out 6; have hfz16_0 := blk_frozen BK245.out 0; have hfz16_1 := blk_frozen BK245.out 1; have hfz16_2 := blk_frozen BK245.out 2; have hfz16_3 := blk_frozen BK245.out 3; have hfz16_4 := blk_frozen BK245.out 4; have hfz16_5 := blk_frozen BK245.out 5; have hfz16_6 := blk_frozen BK245.out 6; have hcz17_0 := bc_ BK246.out 0; have hcz17_1 := bc_ BK246.out 1; have hcz17_2 := bc_ BK246.out 2; have hcz17_3 := bc_ BK246.out 3; have hcz17_4 := bc_ BK246.out 4; have hcz17_5 := bc_ BK246.out 5; have hcz17_6 := bc_ BK246.out 6; have hfz17_0 := blk_frozen BK246.out 0; have hfz17_1 := blk_frozen BK246.out 1; have hfz17_2 := blk_frozen BK246.out 2; have hfz17_3 := blk_frozen BK246.out 3; have hfz17_4 := blk_frozen BK246.out 4; have hfz17_5 := blk_frozen BK246.out 5; have hfz17_6 := blk_frozen BK246.out 6) | ((with_reducible refine gate_callee (f := 23) rfl ?_); refine goesM_ (some 14) rfl rfl Try.func23 (by kernel_rfl) rfl #[.agg #[.int .i64 a0_1, .int .i64 a0_2, .slice A0_3 l0_3.length c0_3], .agg #[.int .i64 a1_1, .int .i64 a1_2, .slice A1_3 l1_3.length c1_3]] rfl ?_; (with_reducible refine (laws_eqTerm.calls k a0_1 a0_2 _ _ l0_3 a1_1 a1_2 _ _ l1_3 true _ ?side1 ?side2 ?side3 ?side4 A9.out).mono ?_); (case side1 => exact cb_ HR0_3.out HB.out); (case side2 => exact HC0_3.out); (case side3 => exact cb_ HR1_3.out HB.out); (case side4 => exact HC1_3.out); rintro e w18 ⟨rfl, hb⟩; refine ⟨_, rfl, ?_⟩; replace BK245 := ak (blk_below (bk_ BK245.out) hb); replace BK246 := ak (blk_below (bk_ BK246.out) hb); replace HB := ak (below_step (bs2_ HB.out GE245.out GE246.out) hb); (try clear hb); (try clear hb2); (try clear hk); (try clear hi); have hcz19_0 := bc_ BK245.out 0; have hcz19_1 := bc_ BK245.out 1; have hcz19_2 := bc_ BK245.out 2; have hcz19_3 := bc_ BK245.out 3; have hcz19_4 := bc_ BK245.out 4; have hcz19_5 := bc_ BK245.out 5; have hcz19_6 := bc_ BK245.out 6; have hfz19_0 := blk_frozen BK245.out 0; have hfz19_1 := blk_frozen BK245.out 1; have hfz19_2 := blk_frozen BK245.out 2; have hfz19_3 := blk_frozen BK245.out 3; have hfz19_4 := blk_frozen BK245.out 4; have hfz19_5 := blk_frozen BK245.out 5; have hfz19_6 := blk_frozen BK245.out 6; have hcz20_0 := bc_ BK246.out 0; have hcz20_1 := bc_ BK246.out 1; have hcz20_2 := bc_ BK246.out 2; have hcz20_3 := bc_ BK246.out 3; have hcz20_4 := bc_ BK246.out 4; have hcz20_5 := bc_ BK246.out 5; have hcz20_6 := bc_ BK246.out 6; have hfz20_0 := blk_frozen BK246.out 0; have hfz20_1 := blk_frozen BK246.out 1; have hfz20_2 := blk_frozen BK246.out 2; have hfz20_3 := blk_frozen BK246.out 3; have hfz20_4 := blk_frozen BK246.out 4; have hfz20_5 := blk_frozen BK246.out 5; have hfz20_6 := blk_frozen BK246.out 6) | ((with_reducible refine gate_callee (f := 23) rfl ?_); refine goesM_ (some 20) rfl rfl Try.func23 (by kernel_rfl) rfl #[.agg #[.int .i64 a0_4, .int .i64 a0_5, .slice A0_6 l0_6.length c0_6], .agg #[.int .i64 a1_4, .int .i64 a1_5, .slice A1_6 l1_6.length c1_6]] rfl ?_; (with_reducible refine (laws_eqTerm.calls k a0_4 a0_5 _ _ l0_6 a1_4 a1_5 _ _ l1_6 true _ ?side1 ?side2 ?side3 ?side4 A11.out).mono ?_); (case side1 => exact cb_ HR0_6.out HB.out); (case side2 => exact HC0_6.out); (case side3 => exact cb_ HR1_6.out HB.out); (case side4 => exact HC1_6.out); rintro e w21 ⟨rfl, hb⟩; refine ⟨_, rfl, ?_⟩; replace BK245 := ak (blk_below (bk_ BK245.out) hb); replace BK246 := ak (blk_below (bk_ BK246.out) hb); replace HB := ak (below_step (bs2_ HB.out GE245.out GE246.out) hb); (try clear hb); (try clear hb2); (try clear hk); (try clear hi)))
      go_ret
      exact fin_ (bs2_ HB.out GE245.out GE246.out)
    replace c12 := Bool.eq_false_iff.mpr c12; subst c12; rw [if_neg (show ¬ (false = true) by decide)] at H; obtain rfl := Option.some.inj H
    go_enter Try.func112, Try.ntmps112
    go_wp2_with (first | ((with_reducible refine gate_dst (N := 2) rfl ?_); refine bxe_ (N := 2) (cs := #[.bool a0_0, .int .i64 a0_1, .int .i64 a0_2, .slice A0_3 l0_3.length c0_3, .int .i64 a0_4, .int .i64 a0_5, .slice A0_6 l0_6.length c0_6]) (t := 120) ?_; intro gb245 hg w22 hbox hb; have BK245 := ak (hbox); have GW245 := ak (lg_ hg (bl_ HB.out)); have GE245 := ak (lg_ hg (bl_ HB.out)); replace HB := ak (below_step (bl_ HB.out) hb); clear hb hbox hg) | ((with_reducible refine gate_dst (N := 3) rfl ?_); refine bxe_ (N := 3) (cs := #[.bool a1_0, .int .i64 a1_1, .int .i64 a1_2, .slice A1_3 l1_3.length c1_3, .int .i64 a1_4, .int .i64 a1_5, .slice A1_6 l1_6.length c1_6]) (t := 120) ?_; intro gb246 hg w23 hbox hb; have BK246 := ak (hbox); have GW246 := ak (lg_ hg (bs1_ HB.out GE245.out)); have GE246 := ak (lg_ hg (bs1_ HB.out GE245.out)); replace HB := ak (below_step (bs1_ HB.out GE245.out) hb); have NB245_246 := ak (nl_ hg (bk_ BK245.out)); have NB246_245 := ak (ng_ hg (bk_ BK245.out)); replace BK245 := ak (blk_below (bk_ BK245.out) hb); clear hb hbox hg; have hnb24 := NB245_246.out; have hnc24 := NB246_245.out; have hcz25_0 := bc_ BK245.out 0; have hcz25_1 := bc_ BK245.out 1; have hcz25_2 := bc_ BK245.out 2; have hcz25_3 := bc_ BK245.out 3; have hcz25_4 := bc_ BK245.out 4; have hcz25_5 := bc_ BK245.out 5; have hcz25_6 := bc_ BK245.out 6; have hfz25_0 := blk_frozen BK245.out 0; have hfz25_1 := blk_frozen BK245.out 1; have hfz25_2 := blk_frozen BK245.out 2; have hfz25_3 := blk_frozen BK245.out 3; have hfz25_4 := blk_frozen BK245.out 4; have hfz25_5 := blk_frozen BK245.out 5; have hfz25_6 := blk_frozen BK245.out 6; have hcz26_0 := bc_ BK246.out 0; have hcz26_1 := bc_ BK246.out 1; have hcz26_2 := bc_ BK246.out 2; have hcz26_3 := bc_ BK246.out 3; have hcz26_4 := bc_ BK246.out 4; have hcz26_5 := bc_ BK246.out 5; have hcz26_6 := bc_ BK246.out 6; have hfz26_0 := blk_frozen BK246.out 0; have hfz26_1 := blk_frozen BK246.out 1; have hfz26_2 := blk_frozen BK246.out 2; have hfz26_3 := blk_frozen BK246.out 3; have hfz26_4 := blk_frozen BK246.out 4; have hfz26_5 := blk_frozen BK246.out 5; have hfz26_6 := blk_frozen BK246.out 6) | ((with_reducible refine gate_callee (f := 23) rfl ?_); refine goesM_ (some 14) rfl rfl Try.func23 (by kernel_rfl) rfl #[.agg #[.int .i64 a0_1, .int .i64 a0_2, .slice A0_3 l0_3.length c0_3], .agg #[.int .i64 a1_1, .int .i64 a1_2, .slice A1_3 l1_3.length c1_3]] rfl ?_; (with_reducible refine (laws_eqTerm.calls k a0_1 a0_2 _ _ l0_3 a1_1 a1_2 _ _ l1_3 true _ ?side1 ?side2 ?side3 ?side4 A9.out).mono ?_); (case side1 => exact cb_ HR0_3.out HB.out); (case side2 => exact HC0_3.out); (case side3 => exact cb_ HR1_3.out HB.out); (case side4 => exact HC1_3.out); rintro e w27 ⟨rfl, hb⟩; refine ⟨_, rfl, ?_⟩; replace BK245 := ak (blk_below (bk_ BK245.out) hb); replace BK246 := ak (blk_below (bk_ BK246.out) hb); replace HB := ak (below_step (bs2_ HB.out GE245.out GE246.out) hb); (try clear hb); (try clear hb2); (try clear hk); (try clear hi); have hcz28_0 := bc_ BK245.out 0; have hcz28_1 := bc_ BK245.out 1; have hcz28_2 := bc_ BK245.out 2; have hcz28_3 := bc_ BK245.out 3; have hcz28_4 := bc_ BK245.out 4; have hcz28_5 := bc_ BK245.out 5; have hcz28_6 := bc_ BK245.out 6; have hfz28_0 := blk_frozen BK245.out 0; have hfz28_1 := blk_frozen BK245.out 1; have hfz28_2 := blk_frozen BK245.out 2; have hfz28_3 := blk_frozen BK245.out 3; have hfz28_4 := blk_frozen BK245.out 4; have hfz28_5 := blk_frozen BK245.out 5; have hfz28_6 := blk_frozen BK245.out 6; have hcz29_0 := bc_ BK246.out 0; have hcz29_1 := bc_ BK246.out 1; have hcz29_2 := bc_ BK246.out 2; have hcz29_3 := bc_ BK246.out 3; have hcz29_4 := bc_ BK246.out 4; have hcz29_5 := bc_ BK246.out 5; have hcz29_6 := bc_ BK246.out 6; have hfz29_0 := blk_frozen BK246.out 0; have hfz29_1 := blk_frozen BK246.out 1; have hfz29_2 := blk_frozen BK246.out 2; have hfz29_3 := blk_frozen BK246.out 3; have hfz29_4 := blk_frozen BK246.out 4; have hfz29_5 := blk_frozen BK246.out 5; have hfz29_6 := blk_frozen BK246.out 6) | ((with_reducible refine gate_callee (f := 23) rfl ?_); refine goesM_ (some 20) rfl rfl Try.func23 (by kernel_rfl) rfl #[.agg #[.int .i64 a0_4, .int .i64 a0_5, .slice A0_6 l0_6.length c0_6], .agg #[.int .i64 a1_4, .int .i64 a1_5, .slice A1_6 l1_6.length c1_6]] rfl ?_; (with_reducible refine (laws_eqTerm.calls k a0_4 a0_5 _ _ l0_6 a1_4 a1_5 _ _ l1_6 false _ ?side1 ?side2 ?side3 ?side4 A11.out).mono ?_); (case side1 => exact cb_ HR0_6.out HB.out); (case side2 => exact HC0_6.out); (case side3 => exact cb_ HR1_6.out HB.out); (case side4 => exact HC1_6.out); rintro e w30 ⟨rfl, hb⟩; refine ⟨_, rfl, ?_⟩; replace BK245 := ak (blk_below (bk_ BK245.out) hb); replace BK246 := ak (blk_below (bk_ BK246.out) hb); replace HB := ak (below_step (bs2_ HB.out GE245.out GE246.out) hb); (try clear hb); (try clear hb2); (try clear hk); (try clear hi)))
    go_ret
    exact fin_ (bs2_ HB.out GE245.out GE246.out)
  replace c10 := Bool.eq_false_iff.mpr c10; subst c10; rw [if_neg (show ¬ (false = true) by decide)] at H; obtain rfl := Option.some.inj H
  go_enter Try.func112, Try.ntmps112
  go_wp2_with (first | ((with_reducible refine gate_dst (N := 2) rfl ?_); refine bxe_ (N := 2) (cs := #[.bool a0_0, .int .i64 a0_1, .int .i64 a0_2, .slice A0_3 l0_3.length c0_3, .int .i64 a0_4, .int .i64 a0_5, .slice A0_6 l0_6.length c0_6]) (t := 120) ?_; intro gb245 hg w31 hbox hb; have BK245 := ak (hbox); have GW245 := ak (lg_ hg (bl_ HB.out)); have GE245 := ak (lg_ hg (bl_ HB.out)); replace HB := ak (below_step (bl_ HB.out) hb); clear hb hbox hg) | ((with_reducible refine gate_dst (N := 3) rfl ?_); refine bxe_ (N := 3) (cs := #[.bool a1_0, .int .i64 a1_1, .int .i64 a1_2, .slice A1_3 l1_3.length c1_3, .int .i64 a1_4, .int .i64 a1_5, .slice A1_6 l1_6.length c1_6]) (t := 120) ?_; intro gb246 hg w32 hbox hb; have BK246 := ak (hbox); have GW246 := ak (lg_ hg (bs1_ HB.out GE245.out)); have GE246 := ak (lg_ hg (bs1_ HB.out GE245.out)); replace HB := ak (below_step (bs1_ HB.out GE245.out) hb); have NB245_246 := ak (nl_ hg (bk_ BK245.out)); have NB246_245 := ak (ng_ hg (bk_ BK245.out)); replace BK245 := ak (blk_below (bk_ BK245.out) hb); clear hb hbox hg; have hnb33 := NB245_246.out; have hnc33 := NB246_245.out; have hcz34_0 := bc_ BK245.out 0; have hcz34_1 := bc_ BK245.out 1; have hcz34_2 := bc_ BK245.out 2; have hcz34_3 := bc_ BK245.out 3; have hcz34_4 := bc_ BK245.out 4; have hcz34_5 := bc_ BK245.out 5; have hcz34_6 := bc_ BK245.out 6; have hfz34_0 := blk_frozen BK245.out 0; have hfz34_1 := blk_frozen BK245.out 1; have hfz34_2 := blk_frozen BK245.out 2; have hfz34_3 := blk_frozen BK245.out 3; have hfz34_4 := blk_frozen BK245.out 4; have hfz34_5 := blk_frozen BK245.out 5; have hfz34_6 := blk_frozen BK245.out 6; have hcz35_0 := bc_ BK246.out 0; have hcz35_1 := bc_ BK246.out 1; have hcz35_2 := bc_ BK246.out 2; have hcz35_3 := bc_ BK246.out 3; have hcz35_4 := bc_ BK246.out 4; have hcz35_5 := bc_ BK246.out 5; have hcz35_6 := bc_ BK246.out 6; have hfz35_0 := blk_frozen BK246.out 0; have hfz35_1 := blk_frozen BK246.out 1; have hfz35_2 := blk_frozen BK246.out 2; have hfz35_3 := blk_frozen BK246.out 3; have hfz35_4 := blk_frozen BK246.out 4; have hfz35_5 := blk_frozen BK246.out 5; have hfz35_6 := blk_frozen BK246.out 6) | ((with_reducible refine gate_callee (f := 23) rfl ?_); refine goesM_ (some 14) rfl rfl Try.func23 (by kernel_rfl) rfl #[.agg #[.int .i64 a0_1, .int .i64 a0_2, .slice A0_3 l0_3.length c0_3], .agg #[.int .i64 a1_1, .int .i64 a1_2, .slice A1_3 l1_3.length c1_3]] rfl ?_; (with_reducible refine (laws_eqTerm.calls k a0_1 a0_2 _ _ l0_3 a1_1 a1_2 _ _ l1_3 false _ ?side1 ?side2 ?side3 ?side4 A9.out).mono ?_); (case side1 => exact cb_ HR0_3.out HB.out); (case side2 => exact HC0_3.out); (case side3 => exact cb_ HR1_3.out HB.out); (case side4 => exact HC1_3.out); rintro e w36 ⟨rfl, hb⟩; refine ⟨_, rfl, ?_⟩; replace BK245 := ak (blk_below (bk_ BK245.out) hb); replace BK246 := ak (blk_below (bk_ BK246.out) hb); replace HB := ak (below_step (bs2_ HB.out GE245.out GE246.out) hb); (try clear hb); (try clear hb2); (try clear hk); (try clear hi)))
  go_ret
  exact fin_ (bs2_ HB.out GE245.out GE246.out)

end Go.Proofs.Ytejfjfhopapaaaa.XDeepOf
