-- printed by a program of this session (xprint, turned from the kit's print) for this claim
import Derived.Test.YtlgoindmpejgcaaXFingerx0
namespace Go.Proofs.Ytlgoindmpejgcaa.XFinger
open Go.RowKit Go.Proofs.Ytlgoindmpejgcaa.XOpens Go.Proofs.YtlgoindmpejgcaaW.PrintWords Go.Proofs.YtlgoindmpejgcaaW.PrintLast Go.Proofs.YtlgoindmpejgcaaW.PrintMore
attribute [local go_sem] max2_int min2_int max_two min_two max_three min_three max_four min_four   -- for this text's walks alone
set_option linter.unusedVariables false
set_option linter.unusedSimpArgs false

/-! ### a group: laws_eqTermS, laws_eqTerm -/
mutual
def laws_eqTermS.l0 : Nat → List (I_Term) → List (I_Term) → Int → Option (Bool)
  | 0, _, _, _ => none
  | k + 1, x0, x1, x5 => if x5 < (x0.length : Int) then (if 0 ≤ x5 then (if x5 < (x1.length : Int) then ((laws_eqTerm.f k ((rd_I_Term x0 x5).f0) ((rd_I_Term x0 x5).f1) ((rd_I_Term x0 x5).f2) ((rd_I_Term x1 x5).f0) ((rd_I_Term x1 x5).f1) ((rd_I_Term x1 x5).f2)).bind fun t185 => (if t185 = true then (laws_eqTermS.l0 k x0 x1 (wrap64 (x5 + 1))) else (some false))) else (none)) else (none)) else (some true)
def laws_eqTermS.f : Nat → List (I_Term) → List (I_Term) → Option (Bool)
  | 0, _, _ => none
  | k + 1, l0, l1 => if (l0.length : Int) = (l1.length : Int) then (laws_eqTermS.l0 k l0 l1 0) else (some false)
def laws_eqTerm.f : Nat → Int → Int → List (I_Term) → Int → Int → List (I_Term) → Option (Bool)
  | 0, _, _, _, _, _, _ => none
  | k + 1, a0_0, a0_1, l0_2, a1_0, a1_1, l1_2 => if a0_0 = a1_0 then (if a0_1 = a1_1 then ((laws_eqTermS.f k l0_2 l1_2).bind fun t188 => (if t188 = true then (some true) else (some false))) else (some false)) else (some false)
end
theorem laws_eqTermS.grp_mono : ∀ k, (∀ y0 y1, LeO (laws_eqTermS.f k y0 y1) (laws_eqTermS.f (k + 1) y0 y1)) ∧ (∀ y0 y1 y2, LeO (laws_eqTermS.l0 k y0 y1 y2) (laws_eqTermS.l0 (k + 1) y0 y1 y2)) ∧ (∀ y0 y1 y2 y3 y4 y5, LeO (laws_eqTerm.f k y0 y1 y2 y3 y4 y5) (laws_eqTerm.f (k + 1) y0 y1 y2 y3 y4 y5))
  | 0 => ⟨fun _ _ r h => by simp [laws_eqTermS.f] at h, fun _ _ _ r h => by simp [laws_eqTermS.l0] at h, fun _ _ _ _ _ _ r h => by simp [laws_eqTerm.f] at h⟩
  | k + 1 => by
    obtain ⟨ih0, ih1, ih2⟩ := laws_eqTermS.grp_mono k
    refine ⟨?_, ?_, ?_⟩
    · intro y0 y1
      unfold laws_eqTermS.f
      repeat' first
      | (with_reducible exact ih0 _ _)
      | (with_reducible exact ih1 _ _ _)
      | (with_reducible exact ih2 _ _ _ _ _ _)
      | (with_reducible exact LeO.refl _)
      | (with_reducible exact LeO.none _)
      | (with_reducible refine LeO.ite ?_ ?_)
      | (with_reducible refine LeO.bind ?_ (fun _ => ?_))
      | exact ih0 _ _
      | exact ih1 _ _ _
      | exact ih2 _ _ _ _ _ _
      | exact LeO.none _
      | refine LeO.ite ?_ ?_
      | refine LeO.bind ?_ (fun _ => ?_)
    · intro y0 y1 y2
      unfold laws_eqTermS.l0
      repeat' first
      | (with_reducible exact ih0 _ _)
      | (with_reducible exact ih1 _ _ _)
      | (with_reducible exact ih2 _ _ _ _ _ _)
      | (with_reducible exact LeO.refl _)
      | (with_reducible exact LeO.none _)
      | (with_reducible refine LeO.ite ?_ ?_)
      | (with_reducible refine LeO.bind ?_ (fun _ => ?_))
      | exact ih0 _ _
      | exact ih1 _ _ _
      | exact ih2 _ _ _ _ _ _
      | exact LeO.none _
      | refine LeO.ite ?_ ?_
      | refine LeO.bind ?_ (fun _ => ?_)
    · intro y0 y1 y2 y3 y4 y5
      unfold laws_eqTerm.f
      repeat' first
      | (with_reducible exact ih0 _ _)
      | (with_reducible exact ih1 _ _ _)
      | (with_reducible exact ih2 _ _ _ _ _ _)
      | (with_reducible exact LeO.refl _)
      | (with_reducible exact LeO.none _)
      | (with_reducible refine LeO.ite ?_ ?_)
      | (with_reducible refine LeO.bind ?_ (fun _ => ?_))
      | exact ih0 _ _
      | exact ih1 _ _ _
      | exact ih2 _ _ _ _ _ _
      | exact LeO.none _
      | refine LeO.ite ?_ ?_
      | refine LeO.bind ?_ (fun _ => ?_)
theorem laws_eqTermS.mono : ∀ a0 a1 k, LeO (laws_eqTermS.f k a0 a1) (laws_eqTermS.f (k + 1) a0 a1) := by
  intro a0 a1 k
  obtain ⟨ih0, ih1, ih2⟩ := laws_eqTermS.grp_mono k
  exact ih0 a0 a1
theorem laws_eqTerm.mono : ∀ a0 a1 a2 a3 a4 a5 k, LeO (laws_eqTerm.f k a0 a1 a2 a3 a4 a5) (laws_eqTerm.f (k + 1) a0 a1 a2 a3 a4 a5) := by
  intro a0 a1 a2 a3 a4 a5 k
  obtain ⟨ih0, ih1, ih2⟩ := laws_eqTermS.grp_mono k
  exact ih2 a0 a1 a2 a3 a4 a5
/-! ### laws_eqTermS: function 93 -/
def laws_eqTermS.T6 : Bool × List (List Nat × List Nat) := (true, [([], []), ([], []), ([0, 1], [0, 1]), ([2], [2]), ([], []), ([], []), ([4, 5], [4, 5]), ([6], [6]), ([3, 7], [3, 7]), ([8], [8])])
def laws_eqTermS.B6 : List Nat := [0, 0, 3, 7, 0, 0, 48, 112, 255, 511]
theorem laws_eqTermS.tab6 : rtab .any (opsOf Try.f93 6) = laws_eqTermS.T6 := by kernel_rfl
theorem laws_eqTermS.bits6 : waitsOk laws_eqTermS.T6.2 laws_eqTermS.B6 = true := by kernel_rfl
set_option maxHeartbeats 8000000 in
set_option maxRecDepth 100000 in
theorem laws_eqTermS.step (k : Nat) (ihg_93 : ∀ m, m < k → ∀ (A0 : Option Addr) (c0 : Nat) (l0 : List (I_Term)) (A1 : Option Addr) (c1 : Nat) (l1 : List (I_Term)) (r : Bool) (w : World) (hr0 : Kd.C k90 w A0 l0.length l0) (hc0 : l0.length ≤ c0) (hr1 : Kd.C k90 w A1 l1.length l1) (hc1 : l1.length ≤ c1) (h : laws_eqTermS.f m l0 l1 = some r),
    Calls Try.prog 93 #[.slice A0 l0.length c0, .slice A1 l1.length c1] w fun e w' => e = .returned (.bool r) ∧ Below w.heap.size w w') (ihg_63 : ∀ m, m < k → ∀ (a0_0 : Int) (a0_1 : Int) (A0_2 : Option Addr) (c0_2 : Nat) (l0_2 : List (I_Term)) (a1_0 : Int) (a1_1 : Int) (A1_2 : Option Addr) (c1_2 : Nat) (l1_2 : List (I_Term)) (r : Bool) (w : World) (hr0_2 : Kd.C k90 w A0_2 l0_2.length l0_2) (hc0_2 : l0_2.length ≤ c0_2) (hr1_2 : Kd.C k90 w A1_2 l1_2.length l1_2) (hc1_2 : l1_2.length ≤ c1_2) (h : laws_eqTerm.f m a0_0 a0_1 l0_2 a1_0 a1_1 l1_2 = some r),
    Calls Try.prog 63 #[.agg #[.int .i64 a0_0, .int .i64 a0_1, .slice A0_2 l0_2.length c0_2], .agg #[.int .i64 a1_0, .int .i64 a1_1, .slice A1_2 l1_2.length c1_2]] w fun e w' => e = .returned (.bool r) ∧ Below w.heap.size w w') : ∀ (A0 : Option Addr) (c0 : Nat) (l0 : List (I_Term)) (A1 : Option Addr) (c1 : Nat) (l1 : List (I_Term)) (r : Bool) (w : World) (hr0 : Kd.C k90 w A0 l0.length l0) (hc0 : l0.length ≤ c0) (hr1 : Kd.C k90 w A1 l1.length l1) (hc1 : l1.length ≤ c1) (h : laws_eqTermS.f k l0 l1 = some r),
    Calls Try.prog 93 #[.slice A0 l0.length c0, .slice A1 l1.length c1] w fun e w' => e = .returned (.bool r) ∧ Below w.heap.size w w' := by
  intro A0 c0 l0 A1 c1 l1 r w hr0 hc0 hr1 hc1 h
  cases k with
  | zero => exact absurd h (by simp [laws_eqTermS.f])
  | succ k =>
  simp only [laws_eqTermS.f] at h
  have hu90 := Try.underlying90; have HR0 := ak hr0; have HC0 := ak hc0; clear hr0 hc0; have HR1 := ak hr1; have HC1 := ak hc1; clear hr1 hc1; have HB := ak (Below.refl w.heap.size w); have H : (if (l0.length : Int) = (l1.length : Int) then (laws_eqTermS.l0 k l0 l1 0) else (some false)) = some r := h; clear h
  by_cases c3 : (l0.length : Int) = (l1.length : Int)
  · rw [if_pos c3] at H; have c3b0 : ((l0.length : Int) == (l1.length : Int)) = true := beq_iff_eq.mpr c3; have c3b1 : ((l0.length : Int) != (l1.length : Int)) = false := bne_eq_false_iff_eq.mpr c3; have c3b2 : (l0.length == l1.length) = true := by first | simpa using c3 | (simp at c3 ⊢; omega)
    clear c3; have H' := ak H; clear H
    go_enter Try.func93, Try.ntmps93
    go_wp2
    go_loopg [5] k (fun kq v5 w' => ∃ (x5_1 : Int), v5 = .int .i64 x5_1 ∧ Aside0 (laws_eqTermS.l0 kq l0 l1 x5_1 = some r) ∧ Aside0 (kq ≤ k) ∧ Aside0 (Below w.heap.size w w'))
    case atStart => exact ⟨(0), (by first | rfl | (simp; done) | (simp [*]; done)), H', ⟨Nat.le_refl _⟩, ⟨by repeat (first | (with_reducible first | exact HB.out | apply below_alloc | apply pw_below_drewN | apply below_drew1) | exact HB.out)⟩⟩
    case round =>
      clear H'; (try clear c1); (try clear p2); (try clear c3); (try clear c3b0); (try clear c3b1); (try clear c3b2); obtain ⟨x5_1, rfl, HA, HK1, HB⟩ := hrel
      cases gk with
      | zero => exact absurd HA.out (by simp [laws_eqTermS.l0])
      | succ k1 =>
        have H := HA.out; clear HA
        simp only [laws_eqTermS.l0] at H
        by_cases c4 : x5_1 < (l0.length : Int)
        · rw [if_pos c4] at H; have c4b0 := decide_eq_true c4; clear c4
          by_cases c5 : 0 ≤ x5_1
          · rw [if_pos c5] at H; have c5b0 := decide_eq_true c5; clear c5
            by_cases c6 : x5_1 < (l1.length : Int)
            · rw [if_pos c6] at H; have c6b0 := decide_eq_true c6; clear c6; replace H := Option.bind_eq_some_iff.mp H; obtain ⟨t185, A70, H⟩ := H; have A7 := ak A70; clear A70
              by_cases c8 : t185 = true
              · subst c8; rw [if_pos rfl] at H; have H' := ak H; clear H
                try go_wp2
                replace HB := ak (below_drew1 HB.out); have p183 : 0 ≤ (x5_1 : Int) := as_; have q183 : x5_1 < (l0.length : Int) := as_; obtain ⟨ad183, A183_2, c183_2, e183, hx183_0, hx183_1, hx183_2, hl183_2, hi183_2⟩ := at_T90 HR0.out x5_1 p183 q183; have hw183_2 := hx183_2; have hw183_1 := hx183_1; have hw183_0 := hx183_0
                cases e183
                replace hx183_0 := hbc_ HB.out hx183_0; replace hx183_1 := hbc_ HB.out hx183_1; replace hx183_2 := hbc_ HB.out hx183_2; have HR183_2 := ak hi183_2; have HC183_2 := ak hl183_2; clear hi183_2 hl183_2; replace p183 := eq_true p183; replace q183 := eq_true q183; have p184 : 0 ≤ (x5_1 : Int) := as_; have q184 : x5_1 < (l1.length : Int) := as_; obtain ⟨ad184, A184_2, c184_2, e184, hx184_0, hx184_1, hx184_2, hl184_2, hi184_2⟩ := at_T90 HR1.out x5_1 p184 q184; have hw184_2 := hx184_2; have hw184_1 := hx184_1; have hw184_0 := hx184_0
                cases e184
                replace hx184_0 := hbc_ HB.out hx184_0; replace hx184_1 := hbc_ HB.out hx184_1; replace hx184_2 := hbc_ HB.out hx184_2; have HR184_2 := ak hi184_2; have HC184_2 := ak hl184_2; clear hi184_2 hl184_2; replace p184 := eq_true p184; replace q184 := eq_true q184; refine start_ (n := 10) (S := fun w' => w'.cell? (ad183.add ((x5_1).toNat * 3)) = some (.int .i64 ((rd_I_Term l0 x5_1).f0)) ∧ w'.cell? ⟨(ad183.add ((x5_1).toNat * 3)).block, (ad183.add ((x5_1).toNat * 3)).off + 1, none⟩ = some (.int .i64 ((rd_I_Term l0 x5_1).f1)) ∧ w'.cell? ⟨(ad183.add ((x5_1).toNat * 3)).block, (ad183.add ((x5_1).toNat * 3)).off + 2, none⟩ = some (.slice A183_2 ((rd_I_Term l0 x5_1).f2).length c183_2) ∧ w'.cell? (ad184.add ((x5_1).toNat * 3)) = some (.int .i64 ((rd_I_Term l1 x5_1).f0)) ∧ w'.cell? ⟨(ad184.add ((x5_1).toNat * 3)).block, (ad184.add ((x5_1).toNat * 3)).off + 1, none⟩ = some (.int .i64 ((rd_I_Term l1 x5_1).f1)) ∧ w'.cell? ⟨(ad184.add ((x5_1).toNat * 3)).block, (ad184.add ((x5_1).toNat * 3)).off + 2, none⟩ = some (.slice A184_2 ((rd_I_Term l1 x5_1).f2).length c184_2)) (ds := []) (bm 10 0) (by kernel_rfl) rfl (by kernel_rfl) ⟨(hbc_ HB.out hw183_0 :), (hbc_ HB.out hw183_1 :), (hbc_ HB.out hw183_2 :), (hbc_ HB.out hw184_0 :), (hbc_ HB.out hw184_1 :), (hbc_ HB.out hw184_2 :)⟩ (fun hHeld => ?_); refine with_tabW laws_eqTermS.tab6 laws_eqTermS.bits6 (fun HT_ HW_ => ?_)
                generalize wr.drew = w9 at HB HR183_2 HR184_2 hx183_0 hx183_1 hx183_2 hx184_0 hx184_1 hx184_2 hHeld ⊢
                refine pv_ 0 ?_; refine pv_ 1 ?_; refine pv_ 2 ?_; refine pv_ 4 ?_; refine pv_ 5 ?_; refine pv_ 6 ?_; refine tv_ 3 hHeld ?_; refine tv_ 7 hHeld ?_; refine one_ (i := 8) (N := some 25) (bm 10 511) rfl rfl (one_of HT_.out (by kernel_rfl)) (by decide) (fun K hK => ?_); refine goesB_ Try.func63 (by kernel_rfl) rfl #[.agg #[.int .i64 ((rd_I_Term l0 x5_1).f0), .int .i64 ((rd_I_Term l0 x5_1).f1), .slice A183_2 ((rd_I_Term l0 x5_1).f2).length c183_2], .agg #[.int .i64 ((rd_I_Term l1 x5_1).f0), .int .i64 ((rd_I_Term l1 x5_1).f1), .slice A184_2 ((rd_I_Term l1 x5_1).f2).length c184_2]] (by rfl) rfl rfl ?_
                with_reducible refine (ihg_63 k1 (by have := HK1.out; omega) ((rd_I_Term l0 x5_1).f0) ((rd_I_Term l0 x5_1).f1) _ _ ((rd_I_Term l0 x5_1).f2) ((rd_I_Term l1 x5_1).f0) ((rd_I_Term l1 x5_1).f1) _ _ ((rd_I_Term l1 x5_1).f2) true _ ?side1 ?side2 ?side3 ?side4 A7.out).mono ?_
                (case side1 => exact cb_ HR183_2.out HB.out); (case side2 => exact HC183_2.out); (case side3 => exact cb_ HR184_2.out HB.out); (case side4 => exact HC184_2.out); rintro e w10 ⟨rfl, hb⟩; refine ⟨_, rfl, ?_⟩; replace HB := ak (below_step (bl_ HB.out) hb); (try clear hb); (try clear hb2); (try clear hk); (try clear hi); refine hK.out _ _ ⟨(hbc_ HB.out hw183_0 :), (hbc_ HB.out hw183_1 :), (hbc_ HB.out hw183_2 :), (hbc_ HB.out hw184_0 :), (hbc_ HB.out hw184_1 :), (hbc_ HB.out hw184_2 :)⟩ (fun hHeld => ?_); clear hK K; refine norm_ (a' := ?_) ?_ ?_
                rotate_left
                · show Act.put _ (some 25) _ = _
                  simp only [Act.put, List.setIfInBounds_toArray, List.set_cons_zero, List.set_cons_succ, i64_w, i32_w]
                  rfl
                refine pv_ 9 ?_; refine done_ (done_of HT_.out (by kernel_rfl)) ?_
                try go_wp2
                go_roundg k1
                case measure => have := HK1.out; omega
                case rel => exact ⟨(wrap64 (x5_1 + 1)), (by first | rfl | (simp; done) | (simp [*]; done)), H', ⟨by have := HK1.out; omega⟩, ⟨by repeat (first | (with_reducible first | exact HB.out | apply below_alloc | apply pw_below_drewN | apply below_drew1) | exact HB.out)⟩⟩
              replace c8 := Bool.eq_false_iff.mpr c8; subst c8; rw [if_neg (show ¬ (false = true) by decide)] at H; obtain rfl := Option.some.inj H
              try go_wp2
              replace HB := ak (below_drew1 HB.out); have p183 : 0 ≤ (x5_1 : Int) := as_; have q183 : x5_1 < (l0.length : Int) := as_; obtain ⟨ad183, A183_2, c183_2, e183, hx183_0, hx183_1, hx183_2, hl183_2, hi183_2⟩ := at_T90 HR0.out x5_1 p183 q183; have hw183_2 := hx183_2; have hw183_1 := hx183_1; have hw183_0 := hx183_0
              cases e183
              replace hx183_0 := hbc_ HB.out hx183_0; replace hx183_1 := hbc_ HB.out hx183_1; replace hx183_2 := hbc_ HB.out hx183_2; have HR183_2 := ak hi183_2; have HC183_2 := ak hl183_2; clear hi183_2 hl183_2; replace p183 := eq_true p183; replace q183 := eq_true q183; have p184 : 0 ≤ (x5_1 : Int) := as_; have q184 : x5_1 < (l1.length : Int) := as_; obtain ⟨ad184, A184_2, c184_2, e184, hx184_0, hx184_1, hx184_2, hl184_2, hi184_2⟩ := at_T90 HR1.out x5_1 p184 q184; have hw184_2 := hx184_2; have hw184_1 := hx184_1; have hw184_0 := hx184_0
              cases e184
              replace hx184_0 := hbc_ HB.out hx184_0; replace hx184_1 := hbc_ HB.out hx184_1; replace hx184_2 := hbc_ HB.out hx184_2; have HR184_2 := ak hi184_2; have HC184_2 := ak hl184_2; clear hi184_2 hl184_2; replace p184 := eq_true p184; replace q184 := eq_true q184; refine start_ (n := 10) (S := fun w' => w'.cell? (ad183.add ((x5_1).toNat * 3)) = some (.int .i64 ((rd_I_Term l0 x5_1).f0)) ∧ w'.cell? ⟨(ad183.add ((x5_1).toNat * 3)).block, (ad183.add ((x5_1).toNat * 3)).off + 1, none⟩ = some (.int .i64 ((rd_I_Term l0 x5_1).f1)) ∧ w'.cell? ⟨(ad183.add ((x5_1).toNat * 3)).block, (ad183.add ((x5_1).toNat * 3)).off + 2, none⟩ = some (.slice A183_2 ((rd_I_Term l0 x5_1).f2).length c183_2) ∧ w'.cell? (ad184.add ((x5_1).toNat * 3)) = some (.int .i64 ((rd_I_Term l1 x5_1).f0)) ∧ w'.cell? ⟨(ad184.add ((x5_1).toNat * 3)).block, (ad184.add ((x5_1).toNat * 3)).off + 1, none⟩ = some (.int .i64 ((rd_I_Term l1 x5_1).f1)) ∧ w'.cell? ⟨(ad184.add ((x5_1).toNat * 3)).block, (ad184.add ((x5_1).toNat * 3)).off + 2, none⟩ = some (.slice A184_2 ((rd_I_Term l1 x5_1).f2).length c184_2)) (ds := []) (bm 10 0) (by kernel_rfl) rfl (by kernel_rfl) ⟨(hbc_ HB.out hw183_0 :), (hbc_ HB.out hw183_1 :), (hbc_ HB.out hw183_2 :), (hbc_ HB.out hw184_0 :), (hbc_ HB.out hw184_1 :), (hbc_ HB.out hw184_2 :)⟩ (fun hHeld => ?_); refine with_tabW laws_eqTermS.tab6 laws_eqTermS.bits6 (fun HT_ HW_ => ?_)
              generalize wr.drew = w11 at HB HR183_2 HR184_2 hx183_0 hx183_1 hx183_2 hx184_0 hx184_1 hx184_2 hHeld ⊢
              refine pv_ 0 ?_; refine pv_ 1 ?_; refine pv_ 2 ?_; refine pv_ 4 ?_; refine pv_ 5 ?_; refine pv_ 6 ?_; refine tv_ 3 hHeld ?_; refine tv_ 7 hHeld ?_; refine one_ (i := 8) (N := some 25) (bm 10 511) rfl rfl (one_of HT_.out (by kernel_rfl)) (by decide) (fun K hK => ?_); refine goesB_ Try.func63 (by kernel_rfl) rfl #[.agg #[.int .i64 ((rd_I_Term l0 x5_1).f0), .int .i64 ((rd_I_Term l0 x5_1).f1), .slice A183_2 ((rd_I_Term l0 x5_1).f2).length c183_2], .agg #[.int .i64 ((rd_I_Term l1 x5_1).f0), .int .i64 ((rd_I_Term l1 x5_1).f1), .slice A184_2 ((rd_I_Term l1 x5_1).f2).length c184_2]] (by rfl) rfl rfl ?_
              with_reducible refine (ihg_63 k1 (by have := HK1.out; omega) ((rd_I_Term l0 x5_1).f0) ((rd_I_Term l0 x5_1).f1) _ _ ((rd_I_Term l0 x5_1).f2) ((rd_I_Term l1 x5_1).f0) ((rd_I_Term l1 x5_1).f1) _ _ ((rd_I_Term l1 x5_1).f2) false _ ?side1 ?side2 ?side3 ?side4 A7.out).mono ?_
              (case side1 => exact cb_ HR183_2.out HB.out); (case side2 => exact HC183_2.out); (case side3 => exact cb_ HR184_2.out HB.out); (case side4 => exact HC184_2.out); rintro e w12 ⟨rfl, hb⟩; refine ⟨_, rfl, ?_⟩; replace HB := ak (below_step (bl_ HB.out) hb); (try clear hb); (try clear hb2); (try clear hk); (try clear hi); refine hK.out _ _ ⟨(hbc_ HB.out hw183_0 :), (hbc_ HB.out hw183_1 :), (hbc_ HB.out hw183_2 :), (hbc_ HB.out hw184_0 :), (hbc_ HB.out hw184_1 :), (hbc_ HB.out hw184_2 :)⟩ (fun hHeld => ?_); clear hK K; refine norm_ (a' := ?_) ?_ ?_
              rotate_left
              · show Act.put _ (some 25) _ = _
                simp only [Act.put, List.setIfInBounds_toArray, List.set_cons_zero, List.set_cons_succ, i64_w, i32_w]
                rfl
              refine pv_ 9 ?_; refine done_ (done_of HT_.out (by kernel_rfl)) ?_
              try go_wp2
              go_ret
              exact fin_ (bl_ HB.out)
            rw [if_neg c6] at H; exact absurd H (by simp)
          rw [if_neg c5] at H; exact absurd H (by simp)
        rw [if_neg c4] at H; have c4b0 := decide_eq_false c4; clear c4; obtain rfl := Option.some.inj H
        go_wp2
        go_ret
        exact fin_ (bl_ HB.out)
  rw [if_neg c3] at H; have c3b0 : ((l0.length : Int) == (l1.length : Int)) = false := beq_eq_false_iff_ne.mpr c3; have c3b1 : ((l0.length : Int) != (l1.length : Int)) = true := bne_iff_ne.mpr c3; have c3b2 : (l0.length == l1.length) = false := by first | simpa using c3 | (simp at c3 ⊢; omega)
  obtain rfl := Option.some.inj H
  go_enter Try.func93, Try.ntmps93
  go_wp2
  go_ret
  exact fin_ (bl_ HB.out)

/-! ### laws_eqTerm: function 63 -/
set_option maxHeartbeats 8000000 in
set_option maxRecDepth 100000 in
theorem laws_eqTerm.step (k : Nat) (ihg_93 : ∀ m, m < k → ∀ (A0 : Option Addr) (c0 : Nat) (l0 : List (I_Term)) (A1 : Option Addr) (c1 : Nat) (l1 : List (I_Term)) (r : Bool) (w : World) (hr0 : Kd.C k90 w A0 l0.length l0) (hc0 : l0.length ≤ c0) (hr1 : Kd.C k90 w A1 l1.length l1) (hc1 : l1.length ≤ c1) (h : laws_eqTermS.f m l0 l1 = some r),
    Calls Try.prog 93 #[.slice A0 l0.length c0, .slice A1 l1.length c1] w fun e w' => e = .returned (.bool r) ∧ Below w.heap.size w w') (ihg_63 : ∀ m, m < k → ∀ (a0_0 : Int) (a0_1 : Int) (A0_2 : Option Addr) (c0_2 : Nat) (l0_2 : List (I_Term)) (a1_0 : Int) (a1_1 : Int) (A1_2 : Option Addr) (c1_2 : Nat) (l1_2 : List (I_Term)) (r : Bool) (w : World) (hr0_2 : Kd.C k90 w A0_2 l0_2.length l0_2) (hc0_2 : l0_2.length ≤ c0_2) (hr1_2 : Kd.C k90 w A1_2 l1_2.length l1_2) (hc1_2 : l1_2.length ≤ c1_2) (h : laws_eqTerm.f m a0_0 a0_1 l0_2 a1_0 a1_1 l1_2 = some r),
    Calls Try.prog 63 #[.agg #[.int .i64 a0_0, .int .i64 a0_1, .slice A0_2 l0_2.length c0_2], .agg #[.int .i64 a1_0, .int .i64 a1_1, .slice A1_2 l1_2.length c1_2]] w fun e w' => e = .returned (.bool r) ∧ Below w.heap.size w w') : ∀ (a0_0 : Int) (a0_1 : Int) (A0_2 : Option Addr) (c0_2 : Nat) (l0_2 : List (I_Term)) (a1_0 : Int) (a1_1 : Int) (A1_2 : Option Addr) (c1_2 : Nat) (l1_2 : List (I_Term)) (r : Bool) (w : World) (hr0_2 : Kd.C k90 w A0_2 l0_2.length l0_2) (hc0_2 : l0_2.length ≤ c0_2) (hr1_2 : Kd.C k90 w A1_2 l1_2.length l1_2) (hc1_2 : l1_2.length ≤ c1_2) (h : laws_eqTerm.f k a0_0 a0_1 l0_2 a1_0 a1_1 l1_2 = some r),
    Calls Try.prog 63 #[.agg #[.int .i64 a0_0, .int .i64 a0_1, .slice A0_2 l0_2.length c0_2], .agg #[.int .i64 a1_0, .int .i64 a1_1, .slice A1_2 l1_2.length c1_2]] w fun e w' => e = .returned (.bool r) ∧ Below w.heap.size w w' := by
  intro a0_0 a0_1 A0_2 c0_2 l0_2 a1_0 a1_1 A1_2 c1_2 l1_2 r w hr0_2 hc0_2 hr1_2 hc1_2 h
  cases k with
  | zero => exact absurd h (by simp [laws_eqTerm.f])
  | succ k =>
  simp only [laws_eqTerm.f] at h
  have hu90 := Try.underlying90; have HR0_2 := ak hr0_2; have HC0_2 := ak hc0_2; clear hr0_2 hc0_2; have HR1_2 := ak hr1_2; have HC1_2 := ak hc1_2; clear hr1_2 hc1_2; have HB := ak (Below.refl w.heap.size w); have H : (if a0_0 = a1_0 then (if a0_1 = a1_1 then ((laws_eqTermS.f k l0_2 l1_2).bind fun t188 => (if t188 = true then (some true) else (some false))) else (some false)) else (some false)) = some r := h; clear h
  by_cases c3 : a0_0 = a1_0
  · rw [if_pos c3] at H; have c3b0 : (a0_0 == a1_0) = true := beq_iff_eq.mpr c3; have c3b1 : (a0_0 != a1_0) = false := bne_eq_false_iff_eq.mpr c3; clear c3
    by_cases c4 : a0_1 = a1_1
    · rw [if_pos c4] at H; have c4b0 : (a0_1 == a1_1) = true := beq_iff_eq.mpr c4; have c4b1 : (a0_1 != a1_1) = false := bne_eq_false_iff_eq.mpr c4; clear c4; replace H := Option.bind_eq_some_iff.mp H; obtain ⟨t188, A50, H⟩ := H; have A5 := ak A50; clear A50
      by_cases c6 : t188 = true
      · subst c6; rw [if_pos rfl] at H; obtain rfl := Option.some.inj H
        go_enter Try.func63, Try.ntmps63
        go_wp2_with (first | ((with_reducible refine gate_dst (N := 2) rfl ?_); refine bxe_ (N := 2) (cs := #[.int .i64 a0_0, .int .i64 a0_1, .slice A0_2 l0_2.length c0_2]) (t := 90) ?_; intro gb186 hg w7 hbox hb; have BK186 := ak (hbox); have GW186 := ak (lg_ hg (bl_ HB.out)); have GE186 := ak (lg_ hg (bl_ HB.out)); replace HB := ak (below_step (bl_ HB.out) hb); clear hb hbox hg) | ((with_reducible refine gate_dst (N := 3) rfl ?_); refine bxe_ (N := 3) (cs := #[.int .i64 a1_0, .int .i64 a1_1, .slice A1_2 l1_2.length c1_2]) (t := 90) ?_; intro gb187 hg w8 hbox hb; have BK187 := ak (hbox); have GW187 := ak (lg_ hg (bs1_ HB.out GE186.out)); have GE187 := ak (lg_ hg (bs1_ HB.out GE186.out)); replace HB := ak (below_step (bs1_ HB.out GE186.out) hb); have NB186_187 := ak (nl_ hg (bk_ BK186.out)); have NB187_186 := ak (ng_ hg (bk_ BK186.out)); replace BK186 := ak (blk_below (bk_ BK186.out) hb); clear hb hbox hg; have hnb9 := NB186_187.out; have hnc9 := NB187_186.out; have hcz10_0 := bc_ BK186.out 0; have hcz10_1 := bc_ BK186.out 1; have hcz10_2 := bc_ BK186.out 2; have hfz10_0 := blk_frozen BK186.out 0; have hfz10_1 := blk_frozen BK186.out 1; have hfz10_2 := blk_frozen BK186.out 2; have hcz11_0 := bc_ BK187.out 0; have hcz11_1 := bc_ BK187.out 1; have hcz11_2 := bc_ BK187.out 2; have hfz11_0 := blk_frozen BK187.out 0; have hfz11_1 := blk_frozen BK187.out 1; have hfz11_2 := blk_frozen BK187.out 2) | ((with_reducible refine gate_callee (f := 93) rfl ?_); refine goesM_ (some 19) rfl rfl Try.func93 (by kernel_rfl) rfl #[.slice A0_2 l0_2.length c0_2, .slice A1_2 l1_2.length c1_2] rfl ?_; (with_reducible refine (ihg_93 k (by omega) _ _ l0_2 _ _ l1_2 true _ ?side1 ?side2 ?side3 ?side4 A5.out).mono ?_); (case side1 => exact cb_ HR0_2.out HB.out); (case side2 => exact HC0_2.out); (case side3 => exact cb_ HR1_2.out HB.out); (case side4 => exact HC1_2.out); rintro e w12 ⟨rfl, hb⟩; refine ⟨_, rfl, ?_⟩; replace BK186 := ak (blk_below (bk_ BK186.out) hb); replace BK187 := ak (blk_below (bk_ BK187.out) hb); replace HB := ak (below_step (bs2_ HB.out GE186.out GE187.out) hb); (try clear hb); (try clear hb2); (try clear hk); (try clear hi)))
        go_ret
        exact fin_ (bs2_ HB.out GE186.out GE187.out)
      replace c6 := Bool.eq_false_iff.mpr c6; subst c6; rw [if_neg (show ¬ (false = true) by decide)] at H; obtain rfl := Option.some.inj H
      go_enter Try.func63, Try.ntmps63
      go_wp2_with (first | ((with_reducible refine gate_dst (N := 2) rfl ?_); refine bxe_ (N := 2) (cs := #[.int .i64 a0_0, .int .i64 a0_1, .slice A0_2 l0_2.length c0_2]) (t := 90) ?_; intro gb186 hg w13 hbox hb; have BK186 := ak (hbox); have GW186 := ak (lg_ hg (bl_ HB.out)); have GE186 := ak (lg_ hg (bl_ HB.out)); replace HB := ak (below_step (bl_ HB.out) hb); clear hb hbox hg) | ((with_reducible refine gate_dst (N := 3) rfl ?_); refine bxe_ (N := 3) (cs := #[.int .i64 a1_0, .int .i64 a1_1, .slice A1_2 l1_2.length c1_2]) (t := 90) ?_; intro gb187 hg w14 hbox hb; have BK187 := ak (hbox); have GW187 := ak (lg_ hg (bs1_ HB.out GE186.out)); have GE187 := ak (lg_ hg (bs1_ HB.out GE186.out)); replace HB := ak (below_step (bs1_ HB.out GE186.out) hb); have NB186_187 := ak (nl_ hg (bk_ BK186.out)); have NB187_186 := ak (ng_ hg (bk_ BK186.out)); replace BK186 := ak (blk_below (bk_ BK186.out) hb); clear hb hbox hg; have hnb15 := NB186_187.out; have hnc15 := NB187_186.out; have hcz16_0 := bc_ BK186.out 0; have hcz16_1 := bc_ BK186.out 1; have hcz16_2 := bc_ BK186.out 2; have hfz16_0 := blk_frozen BK186.out 0; have hfz16_1 := blk_frozen BK186.out 1; have hfz16_2 := blk_frozen BK186.out 2; have hcz17_0 := bc_ BK187.out 0; have hcz17_1 := bc_ BK187.out 1; have hcz17_2 := bc_ BK187.out 2; have hfz17_0 := blk_frozen BK187.out 0; have hfz17_1 := blk_frozen BK187.out 1; have hfz17_2 := blk_frozen BK187.out 2) | ((with_reducible refine gate_callee (f := 93) rfl ?_); refine goesM_ (some 19) rfl rfl Try.func93 (by kernel_rfl) rfl #[.slice A0_2 l0_2.length c0_2, .slice A1_2 l1_2.length c1_2] rfl ?_; (with_reducible refine (ihg_93 k (by omega) _ _ l0_2 _ _ l1_2 false _ ?side1 ?side2 ?side3 ?side4 A5.out).mono ?_); (case side1 => exact cb_ HR0_2.out HB.out); (case side2 => exact HC0_2.out); (case side3 => exact cb_ HR1_2.out HB.out); (case side4 => exact HC1_2.out); rintro e w18 ⟨rfl, hb⟩; refine ⟨_, rfl, ?_⟩; replace BK186 := ak (blk_below (bk_ BK186.out) hb); replace BK187 := ak (blk_below (bk_ BK187.out) hb); replace HB := ak (below_step (bs2_ HB.out GE186.out GE187.out) hb); (try clear hb); (try clear hb2); (try clear hk); (try clear hi)))
      go_ret
      exact fin_ (bs2_ HB.out GE186.out GE187.out)
    rw [if_neg c4] at H; have c4b0 : (a0_1 == a1_1) = false := beq_eq_false_iff_ne.mpr c4; have c4b1 : (a0_1 != a1_1) = true := bne_iff_ne.mpr c4; obtain rfl := Option.some.inj H
    go_enter Try.func63, Try.ntmps63
    go_wp2_with (first | ((with_reducible refine gate_dst (N := 2) rfl ?_); refine bxe_ (N := 2) (cs := #[.int .i64 a0_0, .int .i64 a0_1, .slice A0_2 l0_2.length c0_2]) (t := 90) ?_; intro gb186 hg w19 hbox hb; have BK186 := ak (hbox); have GW186 := ak (lg_ hg (bl_ HB.out)); have GE186 := ak (lg_ hg (bl_ HB.out)); replace HB := ak (below_step (bl_ HB.out) hb); clear hb hbox hg) | ((with_reducible refine gate_dst (N := 3) rfl ?_); refine bxe_ (N := 3) (cs := #[.int .i64 a1_0, .int .i64 a1_1, .slice A1_2 l1_2.length c1_2]) (t := 90) ?_; intro gb187 hg w20 hbox hb; have BK187 := ak (hbox); have GW187 := ak (lg_ hg (bs1_ HB.out GE186.out)); have GE187 := ak (lg_ hg (bs1_ HB.out GE186.out)); replace HB := ak (below_step (bs1_ HB.out GE186.out) hb); have NB186_187 := ak (nl_ hg (bk_ BK186.out)); have NB187_186 := ak (ng_ hg (bk_ BK186.out)); replace BK186 := ak (blk_below (bk_ BK186.out) hb); clear hb hbox hg; have hnb21 := NB186_187.out; have hnc21 := NB187_186.out; have hcz22_0 := bc_ BK186.out 0; have hcz22_1 := bc_ BK186.out 1; have hcz22_2 := bc_ BK186.out 2; have hfz22_0 := blk_frozen BK186.out 0; have hfz22_1 := blk_frozen BK186.out 1; have hfz22_2 := blk_frozen BK186.out 2; have hcz23_0 := bc_ BK187.out 0; have hcz23_1 := bc_ BK187.out 1; have hcz23_2 := bc_ BK187.out 2; have hfz23_0 := blk_frozen BK187.out 0; have hfz23_1 := blk_frozen BK187.out 1; have hfz23_2 := blk_frozen BK187.out 2))
    go_ret
    exact fin_ (bs2_ HB.out GE186.out GE187.out)
  rw [if_neg c3] at H; have c3b0 : (a0_0 == a1_0) = false := beq_eq_false_iff_ne.mpr c3; have c3b1 : (a0_0 != a1_0) = true := bne_iff_ne.mpr c3; obtain rfl := Option.some.inj H
  go_enter Try.func63, Try.ntmps63
  go_wp2_with (first | ((with_reducible refine gate_dst (N := 2) rfl ?_); refine bxe_ (N := 2) (cs := #[.int .i64 a0_0, .int .i64 a0_1, .slice A0_2 l0_2.length c0_2]) (t := 90) ?_; intro gb186 hg w24 hbox hb; have BK186 := ak (hbox); have GW186 := ak (lg_ hg (bl_ HB.out)); have GE186 := ak (lg_ hg (bl_ HB.out)); replace HB := ak (below_step (bl_ HB.out) hb); clear hb hbox hg) | ((with_reducible refine gate_dst (N := 3) rfl ?_); refine bxe_ (N := 3) (cs := #[.int .i64 a1_0, .int .i64 a1_1, .slice A1_2 l1_2.length c1_2]) (t := 90) ?_; intro gb187 hg w25 hbox hb; have BK187 := ak (hbox); have GW187 := ak (lg_ hg (bs1_ HB.out GE186.out)); have GE187 := ak (lg_ hg (bs1_ HB.out GE186.out)); replace HB := ak (below_step (bs1_ HB.out GE186.out) hb); have NB186_187 := ak (nl_ hg (bk_ BK186.out)); have NB187_186 := ak (ng_ hg (bk_ BK186.out)); replace BK186 := ak (blk_below (bk_ BK186.out) hb); clear hb hbox hg; have hnb26 := NB186_187.out; have hnc26 := NB187_186.out; have hcz27_0 := bc_ BK186.out 0; have hcz27_1 := bc_ BK186.out 1; have hcz27_2 := bc_ BK186.out 2; have hfz27_0 := blk_frozen BK186.out 0; have hfz27_1 := blk_frozen BK186.out 1; have hfz27_2 := blk_frozen BK186.out 2; have hcz28_0 := bc_ BK187.out 0; have hcz28_1 := bc_ BK187.out 1; have hcz28_2 := bc_ BK187.out 2; have hfz28_0 := blk_frozen BK187.out 0; have hfz28_1 := blk_frozen BK187.out 1; have hfz28_2 := blk_frozen BK187.out 2))
  go_ret
  exact fin_ (bs2_ HB.out GE186.out GE187.out)

theorem laws_eqTermS.grp_all (k : Nat) : (∀ (A0 : Option Addr) (c0 : Nat) (l0 : List (I_Term)) (A1 : Option Addr) (c1 : Nat) (l1 : List (I_Term)) (r : Bool) (w : World) (hr0 : Kd.C k90 w A0 l0.length l0) (hc0 : l0.length ≤ c0) (hr1 : Kd.C k90 w A1 l1.length l1) (hc1 : l1.length ≤ c1) (h : laws_eqTermS.f k l0 l1 = some r),
    Calls Try.prog 93 #[.slice A0 l0.length c0, .slice A1 l1.length c1] w fun e w' => e = .returned (.bool r) ∧ Below w.heap.size w w') ∧ (∀ (a0_0 : Int) (a0_1 : Int) (A0_2 : Option Addr) (c0_2 : Nat) (l0_2 : List (I_Term)) (a1_0 : Int) (a1_1 : Int) (A1_2 : Option Addr) (c1_2 : Nat) (l1_2 : List (I_Term)) (r : Bool) (w : World) (hr0_2 : Kd.C k90 w A0_2 l0_2.length l0_2) (hc0_2 : l0_2.length ≤ c0_2) (hr1_2 : Kd.C k90 w A1_2 l1_2.length l1_2) (hc1_2 : l1_2.length ≤ c1_2) (h : laws_eqTerm.f k a0_0 a0_1 l0_2 a1_0 a1_1 l1_2 = some r),
    Calls Try.prog 63 #[.agg #[.int .i64 a0_0, .int .i64 a0_1, .slice A0_2 l0_2.length c0_2], .agg #[.int .i64 a1_0, .int .i64 a1_1, .slice A1_2 l1_2.length c1_2]] w fun e w' => e = .returned (.bool r) ∧ Below w.heap.size w w') := by
  induction k using Nat.strongRecOn with
  | _ k ih =>
  exact ⟨laws_eqTermS.step k (fun m hm => (ih m hm).1) (fun m hm => (ih m hm).2), laws_eqTerm.step k (fun m hm => (ih m hm).1) (fun m hm => (ih m hm).2)⟩
theorem laws_eqTermS.calls (k : Nat) : ∀ (A0 : Option Addr) (c0 : Nat) (l0 : List (I_Term)) (A1 : Option Addr) (c1 : Nat) (l1 : List (I_Term)) (r : Bool) (w : World) (hr0 : Kd.C k90 w A0 l0.length l0) (hc0 : l0.length ≤ c0) (hr1 : Kd.C k90 w A1 l1.length l1) (hc1 : l1.length ≤ c1) (h : laws_eqTermS.f k l0 l1 = some r),
    Calls Try.prog 93 #[.slice A0 l0.length c0, .slice A1 l1.length c1] w fun e w' => e = .returned (.bool r) ∧ Below w.heap.size w w' := (laws_eqTermS.grp_all k).1
theorem laws_eqTerm.calls (k : Nat) : ∀ (a0_0 : Int) (a0_1 : Int) (A0_2 : Option Addr) (c0_2 : Nat) (l0_2 : List (I_Term)) (a1_0 : Int) (a1_1 : Int) (A1_2 : Option Addr) (c1_2 : Nat) (l1_2 : List (I_Term)) (r : Bool) (w : World) (hr0_2 : Kd.C k90 w A0_2 l0_2.length l0_2) (hc0_2 : l0_2.length ≤ c0_2) (hr1_2 : Kd.C k90 w A1_2 l1_2.length l1_2) (hc1_2 : l1_2.length ≤ c1_2) (h : laws_eqTerm.f k a0_0 a0_1 l0_2 a1_0 a1_1 l1_2 = some r),
    Calls Try.prog 63 #[.agg #[.int .i64 a0_0, .int .i64 a0_1, .slice A0_2 l0_2.length c0_2], .agg #[.int .i64 a1_0, .int .i64 a1_1, .slice A1_2 l1_2.length c1_2]] w fun e w' => e = .returned (.bool r) ∧ Below w.heap.size w w' := (laws_eqTermS.grp_all k).2

/-! ### laws_markText: function 94 -/
def laws_markText.l0 : Nat → Int → ByteArray → Option (ByteArray)
  | 0, _, _ => none
  | k + 1, x0, x3 => if x0 > 0 then ((some (([(wrap64 (48 + (Int.tmod x0 10))) % 256] : List Int) : List Int)).bind fun y189 => (if (strOfNums y189).size + x3.size ≤ 9223372036854775807 then (laws_markText.l0 k (wrap64 (Int.tdiv x0 10)) ((strOfNums y189) ++ x3)) else (none))) else (if 1 + x3.size ≤ 9223372036854775807 then (some ((⟨#[109]⟩ : ByteArray) ++ x3)) else (none))
def laws_markText.f (k : Nat) (a0 : Int) : Option (ByteArray) := if a0 ≤ 0 then (some (⟨#[109, 48]⟩ : ByteArray)) else (laws_markText.l0 k a0 (⟨#[]⟩ : ByteArray))
theorem laws_markText.mono_l : ∀ k, (∀ y0 y1, LeO (laws_markText.l0 k y0 y1) (laws_markText.l0 (k + 1) y0 y1))
  | 0 => fun _ _ r h => by simp [laws_markText.l0] at h
  | k + 1 => by
    have ih0 := laws_markText.mono_l k
    · intro y0 y1
      unfold laws_markText.l0
      repeat' first | (with_reducible first | exact ih0 _ _ | exact LeO.refl _ | exact LeO.none _ | refine LeO.ite ?_ ?_ | refine LeO.bind ?_ (fun _ => ?_)) | exact ih0 _ _ | exact LeO.none _ | refine LeO.ite ?_ ?_ | refine LeO.bind ?_ (fun _ => ?_)
theorem laws_markText.mono : ∀ a0 k, LeO (laws_markText.f k a0) (laws_markText.f (k + 1) a0) := by
  intro a0 k; have ih0 := laws_markText.mono_l k
  unfold laws_markText.f
  repeat' first
      | (with_reducible exact ih0 _ _)
      | (with_reducible exact LeO.refl _)
      | (with_reducible exact LeO.none _)
      | (with_reducible refine LeO.ite ?_ ?_)
      | (with_reducible refine LeO.bind ?_ (fun _ => ?_))
      | exact ih0 _ _
      | exact LeO.none _
      | refine LeO.ite ?_ ?_
      | refine LeO.bind ?_ (fun _ => ?_)
set_option maxHeartbeats 8000000 in
set_option maxRecDepth 100000 in
theorem laws_markText.calls (k : Nat) (a0 : Int) (r : ByteArray) (w : World) (h : laws_markText.f k a0 = some r) :
    Calls Try.prog 94 #[.int .i64 a0] w fun e w' => e = .returned (.string r) ∧ Below w.heap.size w w' := by
  have HB := ak (Below.refl w.heap.size w); have H : (if a0 ≤ 0 then (some (⟨#[109, 48]⟩ : ByteArray)) else (laws_markText.l0 k a0 (⟨#[]⟩ : ByteArray))) = some r := h; clear h
  by_cases c2 : a0 ≤ 0
  · rw [if_pos c2] at H; have c2b0 := decide_eq_true c2; clear c2; obtain rfl := Option.some.inj H
    go_enter Try.func94, Try.ntmps94
    go_wp2
    go_ret
    exact fin_ (bl_ HB.out)
  rw [if_neg c2] at H; have c2b0 := decide_eq_false c2; clear c2; have H' := ak H; clear H
  go_enter Try.func94, Try.ntmps94
  go_wp2
  go_loopg [0, 3] k (fun kq v0 v3 w' => ∃ (x0_1 : Int) (x3_1 : ByteArray), v0 = .int .i64 x0_1 ∧ v3 = .string x3_1 ∧ Aside0 (laws_markText.l0 kq x0_1 x3_1 = some r) ∧ Aside0 (kq ≤ k) ∧ Aside0 (Below w.heap.size w w'))
  case atStart => exact ⟨(a0), ((⟨#[]⟩ : ByteArray)), (by first | rfl | (simp; done) | (simp [*]; done)), (by first | rfl | (simp; done) | (simp [*]; done)), H', ⟨Nat.le_refl _⟩, ⟨by repeat (first | (with_reducible first | exact HB.out | apply below_alloc | apply pw_below_drewN | apply below_drew1) | exact HB.out)⟩⟩
  case round =>
    clear H'; (try clear c2); (try clear c2b0); (try clear p2); obtain ⟨x0_1, x3_1, rfl, rfl, HA, HK1, HB⟩ := hrel
    cases gk with
    | zero => exact absurd HA.out (by simp [laws_markText.l0])
    | succ k1 =>
      have H := HA.out; clear HA
      simp only [laws_markText.l0] at H
      by_cases c3 : x0_1 > 0
      · rw [if_pos c3] at H; have c3b0 := decide_eq_true c3; clear c3; obtain ⟨y189, hy189⟩ : ∃ y_ : List Int, y_ = (([(wrap64 (48 + (Int.tmod x0_1 10))) % 256] : List Int)) := ⟨_, rfl⟩; replace H : (if (strOfNums y189).size + x3_1.size ≤ 9223372036854775807 then (laws_markText.l0 k1 (wrap64 (Int.tdiv x0_1 10)) ((strOfNums y189) ++ x3_1)) else (none)) = some r := by first | (rw [hy189]; with_reducible exact H) | (have H2_ := (Option.bind_some _ _).symm.trans H; rw [hy189]; with_reducible exact H2_) | (have H2_ := (Option.bind_some _ _).symm.trans H; with_reducible exact H2_) | with_reducible exact H | (rw [hy189]; exact H) | exact H
        have Ny189 := ak hy189; clear hy189
        by_cases c4 : (strOfNums y189).size + x3_1.size ≤ 9223372036854775807
        · rw [if_pos c4] at H; have c4b0 := eq_true c4; have c4b1 := decide_eq_true c4
          try have c4b2 : (9223372036854775807 < (strOfNums y189).size + x3_1.size) = False := eq_false (Nat.not_lt.2 c4)
          have H' := ak H; clear H
          go_wp2_with (first | ((with_reducible refine gate_dst (N := 12) rfl ?_); refine Kd.R_lit (Kd.int .u8) _ 5 ?hg (N := 12) ?hd (xs := ([(wrap64 (48 + (Int.tmod x0_1 10))) % 256] : List Int)) (inner := [.int .u8 ((wrap64 (48 + (Int.tmod x0_1 10))) % 256)]) (ok := fun _ => True) (okp := fun _ => True) ?hr ?hp (fun _ hk => hk) trivial (Below.refl _ _) (Nat.le_refl _) (by simp) ?_; (case hd => rfl); (case hg => rfl); (case hr => first | (go_simp; done) | (go_simp; rfl)); (case hp => exact (Reps.one (show Kd.M (Kd.int .u8) _ _ _ ((wrap64 (48 + (Int.tmod x0_1 10))) % 256) [.int .u8 ((wrap64 (48 + (Int.tmod x0_1 10))) % 256)] from rfl) (Reps.none _ _))); intro v190 w5 ho6 hb hg_ hnew_; clear hg_ hnew_; (first | rw [← Ny189.out] at ho6 | (simp only [Int.reduceToNat] at ho6; rw [← Ny189.out] at ho6)); have HO191 := ak (Kd.R_lower ho6 (below_size (bl_ HB.out))); replace HB := ak (below_step (bl_ HB.out) hb); clear hb ho6; have hcv7 := own_string (P := Try.prog) Try.underlying35 Try.underlying5 Try.underlying9 (Kd.own_of_R HO191.out)))
          go_roundg k1
          case measure => have := HK1.out; omega
          case rel => exact ⟨(wrap64 (Int.tdiv x0_1 10)), ((strOfNums y189) ++ x3_1), (by first | rfl | (simp; done) | (simp [*]; done)), (by first | rfl | (simp; done) | (simp [*]; done)), H', ⟨by have := HK1.out; omega⟩, ⟨by repeat (first | (with_reducible first | exact HB.out | apply below_alloc | apply pw_below_drewN | apply below_drew1) | exact HB.out)⟩⟩
        rw [if_neg c4] at H; exact absurd H (by simp)
      rw [if_neg c3] at H; have c3b0 := decide_eq_false c3; clear c3
      by_cases c8 : 1 + x3_1.size ≤ 9223372036854775807
      · rw [if_pos c8] at H; have c8b0 := eq_true c8; have c8b1 := decide_eq_true c8
        try have c8b2 : (9223372036854775807 < 1 + x3_1.size) = False := eq_false (Nat.not_lt.2 c8)
        obtain rfl := Option.some.inj H
        go_wp2
        go_ret
        exact fin_ (bl_ HB.out)
      rw [if_neg c8] at H; exact absurd H (by simp)

/-! ### laws_markSymS: function 64 -/
def laws_markSymS.l0 : Nat → List (I_Sym) → Int → Int → Option (Int × (List (I_Sym)))
  | 0, _, _, _ => none
  | k + 1, x0, x1, x5 => if x5 < (x0.length : Int) then ((laws_markText.f k x1).bind fun t192 => (if 0 ≤ x5 then ((some (x0.set (x5 : Int).toNat (⟨t192, (rd_I_Sym x0 x5).f1, (rd_I_Sym x0 x5).f2⟩ : I_Sym) : List (I_Sym))).bind fun y193 => ((some (y193.set (x5 : Int).toNat (⟨(rd_I_Sym y193 x5).f0, wrap64 (x1 + 1), (rd_I_Sym y193 x5).f2⟩ : I_Sym) : List (I_Sym))).bind fun y194 => (laws_markSymS.l0 k (y194.set (x5 : Int).toNat (⟨(rd_I_Sym y194 x5).f0, (rd_I_Sym y194 x5).f1, ((Int.tmod (wrap64 ((wrap64 (x1 + 1)) + 1)) 3) == 0)⟩ : I_Sym)) (wrap64 ((wrap64 ((wrap64 (x1 + 1)) + 1)) + 1)) (wrap64 (x5 + 1))))) else (none))) else (some (x1, x0))
def laws_markSymS.f (k : Nat) (l0 : List (I_Sym)) (a1 : Int) : Option (Int × (List (I_Sym))) := laws_markSymS.l0 k l0 a1 0
theorem laws_markSymS.mono_l : ∀ k, (∀ y0 y1 y2, LeO (laws_markSymS.l0 k y0 y1 y2) (laws_markSymS.l0 (k + 1) y0 y1 y2))
  | 0 => fun _ _ _ r h => by simp [laws_markSymS.l0] at h
  | k + 1 => by
    have ih0 := laws_markSymS.mono_l k
    · intro y0 y1 y2
      unfold laws_markSymS.l0
      repeat' first | (with_reducible first | exact ih0 _ _ _ | exact laws_markText.mono _ _ | exact LeO.refl _ | exact LeO.none _ | refine LeO.ite ?_ ?_ | refine LeO.bind ?_ (fun _ => ?_)) | exact ih0 _ _ _ | exact laws_markText.mono _ _ | exact LeO.none _ | refine LeO.ite ?_ ?_ | refine LeO.bind ?_ (fun _ => ?_)
theorem laws_markSymS.mono : ∀ a0 a1 k, LeO (laws_markSymS.f k a0 a1) (laws_markSymS.f (k + 1) a0 a1) := by
  intro a0 a1 k; have ih0 := laws_markSymS.mono_l k
  unfold laws_markSymS.f
  repeat' first
      | (with_reducible exact ih0 _ _ _)
      | (with_reducible exact laws_markText.mono _ _)
      | (with_reducible exact LeO.refl _)
      | (with_reducible exact LeO.none _)
      | (with_reducible refine LeO.ite ?_ ?_)
      | (with_reducible refine LeO.bind ?_ (fun _ => ?_))
      | exact ih0 _ _ _
      | exact laws_markText.mono _ _
      | exact LeO.none _
      | refine LeO.ite ?_ ?_
      | refine LeO.bind ?_ (fun _ => ?_)
set_option maxHeartbeats 8000000 in
set_option maxRecDepth 100000 in
theorem laws_markSymS.calls (k : Nat) (P0_ : Nat → Prop) (u9000_ : Value) (l0 : List (I_Sym)) (a1 : Int) (r1 : Int) (r2 : List (I_Sym)) (w0 w : World) (hB : Below w0.heap.size w0 w) (ho0 : Kd.R k119 119 w w0.heap.size P0_ u9000_ l0) (h : laws_markSymS.f k l0 a1 = some (r1, r2)) :
    Calls Try.prog 64 #[u9000_, .int .i64 a1] w fun e w' => e = .returned (.int .i64 r1) ∧ Kd.R k119 119 w' w0.heap.size (fun k_ => (P0_ k_ ∨ w.heap.size ≤ k_)) u9000_ r2 ∧ Below w0.heap.size w0 w' ∧ Kept w w' (fun k_ => P0_ k_) := by
  have HO0 := ak (show Kd.R k119 119 w w0.heap.size (fun k_ => (P0_ k_ ∨ w.heap.size ≤ k_)) u9000_ l0 from Kd.R_mono ho0 (fun k_ hk => (.inl hk))); have HK := ak (Kept.refl w (fun k_ => P0_ k_)); have HW0 := ak hB.size; have HB := ak hB; clear hB; have H : (laws_markSymS.l0 k l0 a1 0) = some (r1, r2) := h; clear h; have H' := ak H; clear H
  go_enter Try.func64, Try.ntmps64
  go_wp2
  go_loopg [1, 5] k (fun kq v1 v5 w' => ∃ (x0_1 : List (I_Sym)) (x1_1 : Int) (x5_1 : Int), v1 = .int .i64 x1_1 ∧ v5 = .int .i64 x5_1 ∧ Aside0 (laws_markSymS.l0 kq x0_1 x1_1 x5_1 = some (r1, r2)) ∧ Aside0 (kq ≤ k) ∧ Aside0 (Kd.R k119 119 w' w0.heap.size (fun k_ => (P0_ k_ ∨ w.heap.size ≤ k_)) u9000_ x0_1) ∧ Aside0 (Kept w w' (fun k_ => P0_ k_)) ∧ Aside0 (Below w0.heap.size w0 w'))
  case atStart => exact ⟨(l0), (a1), (0), (by first | rfl | (simp; done) | (simp [*]; done)), (by first | rfl | (simp; done) | (simp [*]; done)), H', ⟨Nat.le_refl _⟩, ⟨by (with_reducible repeat (first | apply Kd.R_alloc | apply Kd.R_drewN | apply Kd.R_drew)); exact HO0.out⟩, ⟨by repeat (first | (with_reducible first | exact HK.out | apply Kept.alloc | apply Kept.drewN | apply Kept.drew) | exact HK.out)⟩, ⟨by repeat (first | (with_reducible first | exact HB.out | apply below_alloc | apply pw_below_drewN | apply below_drew1) | exact HB.out)⟩⟩
  case round =>
    clear H'; (try clear p2); obtain ⟨x0_1, x1_1, x5_1, rfl, rfl, HA, HK1, HO_0, HK, HB⟩ := hrel
    cases gk with
    | zero => exact absurd HA.out (by simp [laws_markSymS.l0])
    | succ k1 =>
      have H := HA.out; clear HA
      simp only [laws_markSymS.l0] at H
      by_cases c3 : x5_1 < (x0_1.length : Int)
      · rw [if_pos c3] at H; have c3b0 := decide_eq_true c3; clear c3; replace H := Option.bind_eq_some_iff.mp H; obtain ⟨t192, A40, H⟩ := H; have A4 := ak A40; clear A40
        by_cases c5 : 0 ≤ x5_1
        · rw [if_pos c5] at H; have c5b0 := decide_eq_true c5; clear c5; obtain ⟨y193, hy193⟩ : ∃ y_ : List (I_Sym), y_ = (x0_1.set (x5_1 : Int).toNat (⟨t192, (rd_I_Sym x0_1 x5_1).f1, (rd_I_Sym x0_1 x5_1).f2⟩ : I_Sym)) := ⟨_, rfl⟩; replace H : ((some (y193.set (x5_1 : Int).toNat (⟨(rd_I_Sym y193 x5_1).f0, wrap64 (x1_1 + 1), (rd_I_Sym y193 x5_1).f2⟩ : I_Sym) : List (I_Sym))).bind fun y194 => (laws_markSymS.l0 k1 (y194.set (x5_1 : Int).toNat (⟨(rd_I_Sym y194 x5_1).f0, (rd_I_Sym y194 x5_1).f1, ((Int.tmod (wrap64 ((wrap64 (x1_1 + 1)) + 1)) 3) == 0)⟩ : I_Sym)) (wrap64 ((wrap64 ((wrap64 (x1_1 + 1)) + 1)) + 1)) (wrap64 (x5_1 + 1)))) = some (r1, r2) := by first | (rw [hy193]; with_reducible exact H) | (have H2_ := (Option.bind_some _ _).symm.trans H; rw [hy193]; with_reducible exact H2_) | (have H2_ := (Option.bind_some _ _).symm.trans H; with_reducible exact H2_) | with_reducible exact H | (rw [hy193]; exact H) | exact H
          have Ny193 := ak hy193; clear hy193; obtain ⟨y194, hy194⟩ : ∃ y_ : List (I_Sym), y_ = (y193.set (x5_1 : Int).toNat (⟨(rd_I_Sym y193 x5_1).f0, wrap64 (x1_1 + 1), (rd_I_Sym y193 x5_1).f2⟩ : I_Sym)) := ⟨_, rfl⟩; replace H : (laws_markSymS.l0 k1 (y194.set (x5_1 : Int).toNat (⟨(rd_I_Sym y194 x5_1).f0, (rd_I_Sym y194 x5_1).f1, ((Int.tmod (wrap64 ((wrap64 (x1_1 + 1)) + 1)) 3) == 0)⟩ : I_Sym)) (wrap64 ((wrap64 ((wrap64 (x1_1 + 1)) + 1)) + 1)) (wrap64 (x5_1 + 1))) = some (r1, r2) := by first | (rw [hy194]; with_reducible exact H) | (have H2_ := (Option.bind_some _ _).symm.trans H; rw [hy194]; with_reducible exact H2_) | (have H2_ := (Option.bind_some _ _).symm.trans H; with_reducible exact H2_) | with_reducible exact H | (rw [hy194]; exact H) | exact H
          have Ny194 := ak hy194; clear hy194; obtain ⟨y195, hy195⟩ : ∃ y_ : List (I_Sym), y_ = (y194.set (x5_1 : Int).toNat (⟨(rd_I_Sym y194 x5_1).f0, (rd_I_Sym y194 x5_1).f1, ((Int.tmod (wrap64 ((wrap64 (x1_1 + 1)) + 1)) 3) == 0)⟩ : I_Sym)) := ⟨_, rfl⟩; replace H : (laws_markSymS.l0 k1 y195 (wrap64 ((wrap64 ((wrap64 (x1_1 + 1)) + 1)) + 1)) (wrap64 (x5_1 + 1))) = some (r1, r2) := by first | (rw [hy195]; with_reducible exact H) | (have H2_ := (Option.bind_some _ _).symm.trans H; rw [hy195]; with_reducible exact H2_) | (have H2_ := (Option.bind_some _ _).symm.trans H; with_reducible exact H2_) | with_reducible exact H | (rw [hy195]; exact H) | exact H
          have Ny195 := ak hy195; clear hy195; have H' := ak H; clear H; obtain ⟨Ao9, co9, eo9⟩ := Kd.R_slice HO_0.out; subst eo9
          go_wp2_with (first | ((with_reducible refine gate_callee (f := 94) rfl ?_); refine goesM_ (some 15) rfl rfl Try.func94 (by kernel_rfl) rfl #[.int .i64 x1_1] rfl ?_; (with_reducible refine (laws_markText.calls k1 x1_1 t192 _ A4.out).mono ?_); rintro e w10 ⟨rfl, hb⟩; refine ⟨_, rfl, ?_⟩; replace HO_0 := ak (Kd.R_below (ra_ HO_0.out) hb); replace HK := ak (Kept.below (S := (fun k_ => P0_ k_)) (by repeat (first | (with_reducible first | exact HK.out | apply Kept.alloc | apply Kept.drewN | apply Kept.drew) | exact HK.out)) hb); replace HB := ak (below_step (bl_ HB.out) hb); (try clear hb); (try clear hb2); (try clear hk); (try clear hi); have p6 : 0 ≤ (x5_1 : Int) := as_; have q6 : (x5_1 : Int) < ((x0_1.length : Int) : Int) := as_; obtain ⟨go6, co6, eo6, gb6, gl6, cl6, HG6⟩ := Kd.R_form HO_0.out (by omega); (first | cases eo6 | (injection eo6 with ea_ en_ ec_; (first | subst ea_ | (injection ea_ with ea_; subst ea_)); subst ec_; clear en_)); have GB6 := ak gb6; have GG6 := ak HG6; clear gb6 gl6 HG6; have HMgo6 := ak (show (P0_ go6 ∨ w.heap.size ≤ go6) from (HO_0.out.1 _ rfl)); obtain ⟨ce6, hcl6, hM6, hcc6, hfr6⟩ := Kd.R_elem HO_0.out zI_Sym (x5_1 : Int) p6 q6; obtain rfl := k119_openM hM6; have hx6_0 : w10.cell? ⟨go6, (x5_1 : Int).toNat * 3, none⟩ = some (.string ((rd_I_Sym x0_1 x5_1).f0)) := hcc6 0 _ rfl; have hx6_1 : w10.cell? ⟨go6, (x5_1 : Int).toNat * 3 + 1, none⟩ = some (.int .i64 ((rd_I_Sym x0_1 x5_1).f1)) := hcc6 1 _ rfl; have hx6_2 : w10.cell? ⟨go6, (x5_1 : Int).toNat * 3 + 2, none⟩ = some (.bool ((rd_I_Sym x0_1 x5_1).f2)) := hcc6 2 _ rfl; have hf6_0 : w10.frozen? ⟨go6, (x5_1 : Int).toNat * 3, none⟩ = false := hfr6 0; have hf6_1 : w10.frozen? ⟨go6, (x5_1 : Int).toNat * 3 + 1, none⟩ = false := hfr6 1; have hf6_2 : w10.frozen? ⟨go6, (x5_1 : Int).toNat * 3 + 2, none⟩ = false := hfr6 2; clear hcl6 hcc6 hfr6; (try clear hM6); replace p6 := eq_true p6; replace q6 := eq_true q6; have HX11 := ak (show Kd.R k119 119 w10 w0.heap.size (fun k_ => (P0_ k_ ∨ w.heap.size ≤ k_)) (.slice (some ⟨go6, 0, none⟩) x0_1.length co9) x0_1 from (ra_ HO_0.out)); obtain ⟨ce11, hcl11, hM11, hcc11, hfr11⟩ := Kd.R_elem HX11.out zI_Sym (x5_1 : Int) (as_) (by have h_ : (x5_1 : Int) < ((x0_1.length : Int) : Int) := as_; first | exact h_ | (have e_ := (Kd.R_reads' HO_0.out).1; omega) | simpa using h_); obtain rfl := k119_openM hM11; have HP11 := Kd.R_seg HX11.out (x5_1 : Int) (as_) (by have h_ : (x5_1 : Int) < ((x0_1.length : Int) : Int) := as_; first | exact h_ | (have e_ := (Kd.R_reads' HO_0.out).1; omega) | simpa using h_) (seg := [.string t192]) (j := 0) hcl11 hcc11 (show 1 ≤ 3 from by decide) (x' := (⟨t192, (rd_I_Sym x0_1 x5_1).f1, (rd_I_Sym x0_1 x5_1).f2⟩ : I_Sym)) (k119_mkM _ _ _ (⟨t192, (rd_I_Sym x0_1 x5_1).f1, (rd_I_Sym x0_1 x5_1).f2⟩ : I_Sym) ) (fun _ hk => hk); have hx11_0 := hcc11 0 _ rfl; (try simp only [show (k119).sz = 3 from rfl, Nat.mul_one, Nat.add_zero] at hx11_0); have hf11_0 := hfr11 0; (try simp only [show (k119).sz = 3 from rfl, Nat.mul_one, Nat.add_zero] at hf11_0); clear hcl11 hcc11 hfr11; (try clear hM11)) | ((with_reducible refine gate_store (t := 9) (p := 17) rfl ?_); refine store_event (t := 9) (p := 17) (v := ?vo_w12) (w1 := (w10.setCell ⟨go6, (x5_1 : Int).toNat * 3, none⟩ (.string t192))) ?hg ?ho ?hn ?hr ?_; (case ho => rfl); (case hg => rfl); (case hn => rfl); (case hr => first | (go_simp; done) | (go_simp; rfl)); intro w12 hw; have hg : w10.grownBy w12 (some go6) := (by rw [hw]; exact HP11.2); have hp_ : Kd.R k119 119 w12 w0.heap.size (fun k_ => (P0_ k_ ∨ w.heap.size ≤ k_)) (.slice (some ⟨go6, 0, none⟩) x0_1.length co9) y193 := (by rw [hw, Ny193.out]; exact HP11.1); clear HP11; replace HB := ak (by rw [hw]; exact below_set (HB.out) GB6.out : Below w0.heap.size w0 w12); replace HK := ak (Kept.of_grown (S := (fun k_ => P0_ k_)) hg (by repeat (first | (with_reducible first | exact HK.out | apply Kept.alloc | apply Kept.drewN | apply Kept.drew) | exact HK.out)) (fun k_ e_ => (HO_0.out.1 k_ e_))); replace HO_0 := ak (hp_); clear hg hw hp_; have p7 : 0 ≤ (x5_1 : Int) := as_; have q7 : (x5_1 : Int) < ((x0_1.length : Int) : Int) := as_; obtain ⟨ce7, hcl7, hM7, hcc7, hfr7⟩ := Kd.R_elem HO_0.out zI_Sym (x5_1 : Int) p7 q7; obtain rfl := k119_openM hM7; have hx7_0 : w12.cell? ⟨go6, (x5_1 : Int).toNat * 3, none⟩ = some (.string ((rd_I_Sym y193 x5_1).f0)) := hcc7 0 _ rfl; have hx7_1 : w12.cell? ⟨go6, (x5_1 : Int).toNat * 3 + 1, none⟩ = some (.int .i64 ((rd_I_Sym y193 x5_1).f1)) := hcc7 1 _ rfl; have hx7_2 : w12.cell? ⟨go6, (x5_1 : Int).toNat * 3 + 2, none⟩ = some (.bool ((rd_I_Sym y193 x5_1).f2)) := hcc7 2 _ rfl; have hf7_0 : w12.frozen? ⟨go6, (x5_1 : Int).toNat * 3, none⟩ = false := hfr7 0; have hf7_1 : w12.frozen? ⟨go6, (x5_1 : Int).toNat * 3 + 1, none⟩ = false := hfr7 1; have hf7_2 : w12.frozen? ⟨go6, (x5_1 : Int).toNat * 3 + 2, none⟩ = false := hfr7 2; clear hcl7 hcc7 hfr7; (try clear hM7); replace p7 := eq_true p7; replace q7 := eq_true q7; have HX13 := ak (show Kd.R k119 119 w12 w0.heap.size (fun k_ => (P0_ k_ ∨ w.heap.size ≤ k_)) (.slice (some ⟨go6, 0, none⟩) x0_1.length co9) y193 from (ra_ HO_0.out)); obtain ⟨ce13, hcl13, hM13, hcc13, hfr13⟩ := Kd.R_elem HX13.out zI_Sym (x5_1 : Int) (as_) (by have h_ : (x5_1 : Int) < ((x0_1.length : Int) : Int) := as_; first | exact h_ | (have e_ := (Kd.R_reads' HO_0.out).1; omega) | simpa using h_); obtain rfl := k119_openM hM13; have HP13 := Kd.R_seg HX13.out (x5_1 : Int) (as_) (by have h_ : (x5_1 : Int) < ((x0_1.length : Int) : Int) := as_; first | exact h_ | (have e_ := (Kd.R_reads' HO_0.out).1; omega) | simpa using h_) (seg := [.int .i64 (wrap64 (x1_1 + 1))]) (j := 1) hcl13 hcc13 (show 2 ≤ 3 from by decide) (x' := (⟨(rd_I_Sym y193 x5_1).f0, wrap64 (x1_1 + 1), (rd_I_Sym y193 x5_1).f2⟩ : I_Sym)) (k119_mkM _ _ _ (⟨(rd_I_Sym y193 x5_1).f0, wrap64 (x1_1 + 1), (rd_I_Sym y193 x5_1).f2⟩ : I_Sym) ) (fun _ hk => hk); have hx13_1 := hcc13 1 _ rfl; (try simp only [show (k119).sz = 3 from rfl, Nat.mul_one, Nat.add_zero] at hx13_1); have hf13_1 := hfr13 1; (try simp only [show (k119).sz = 3 from rfl, Nat.mul_one, Nat.add_zero] at hf13_1); clear hcl13 hcc13 hfr13; (try clear hM13)) | ((with_reducible refine gate_store (t := 3) (p := 24) rfl ?_); refine store_event (t := 3) (p := 24) (v := ?vo_w14) (w1 := (w12.setCell ⟨go6, (x5_1 : Int).toNat * 3 + 1, none⟩ (.int .i64 (wrap64 (x1_1 + 1))))) ?hg ?ho ?hn ?hr ?_; (case ho => rfl); (case hg => rfl); (case hn => rfl); (case hr => first | (go_simp; done) | (go_simp; rfl)); intro w14 hw; have hg : w12.grownBy w14 (some go6) := (by rw [hw]; exact HP13.2); have hp_ : Kd.R k119 119 w14 w0.heap.size (fun k_ => (P0_ k_ ∨ w.heap.size ≤ k_)) (.slice (some ⟨go6, 0, none⟩) x0_1.length co9) y194 := (by rw [hw, Ny194.out]; exact HP13.1); clear HP13; replace HB := ak (by rw [hw]; exact below_set (HB.out) GB6.out : Below w0.heap.size w0 w14); replace HK := ak (Kept.of_grown (S := (fun k_ => P0_ k_)) hg (by repeat (first | (with_reducible first | exact HK.out | apply Kept.alloc | apply Kept.drewN | apply Kept.drew) | exact HK.out)) (fun k_ e_ => (HO_0.out.1 k_ e_))); replace HO_0 := ak (hp_); clear hg hw hp_; have p8 : 0 ≤ (x5_1 : Int) := as_; have q8 : (x5_1 : Int) < ((x0_1.length : Int) : Int) := as_; obtain ⟨ce8, hcl8, hM8, hcc8, hfr8⟩ := Kd.R_elem HO_0.out zI_Sym (x5_1 : Int) p8 q8; obtain rfl := k119_openM hM8; have hx8_0 : w14.cell? ⟨go6, (x5_1 : Int).toNat * 3, none⟩ = some (.string ((rd_I_Sym y194 x5_1).f0)) := hcc8 0 _ rfl; have hx8_1 : w14.cell? ⟨go6, (x5_1 : Int).toNat * 3 + 1, none⟩ = some (.int .i64 ((rd_I_Sym y194 x5_1).f1)) := hcc8 1 _ rfl; have hx8_2 : w14.cell? ⟨go6, (x5_1 : Int).toNat * 3 + 2, none⟩ = some (.bool ((rd_I_Sym y194 x5_1).f2)) := hcc8 2 _ rfl; have hf8_0 : w14.frozen? ⟨go6, (x5_1 : Int).toNat * 3, none⟩ = false := hfr8 0; have hf8_1 : w14.frozen? ⟨go6, (x5_1 : Int).toNat * 3 + 1, none⟩ = false := hfr8 1; have hf8_2 : w14.frozen? ⟨go6, (x5_1 : Int).toNat * 3 + 2, none⟩ = false := hfr8 2; clear hcl8 hcc8 hfr8; (try clear hM8); replace p8 := eq_true p8; replace q8 := eq_true q8; have HX15 := ak (show Kd.R k119 119 w14 w0.heap.size (fun k_ => (P0_ k_ ∨ w.heap.size ≤ k_)) (.slice (some ⟨go6, 0, none⟩) x0_1.length co9) y194 from (ra_ HO_0.out)); obtain ⟨ce15, hcl15, hM15, hcc15, hfr15⟩ := Kd.R_elem HX15.out zI_Sym (x5_1 : Int) (as_) (by have h_ : (x5_1 : Int) < ((x0_1.length : Int) : Int) := as_; first | exact h_ | (have e_ := (Kd.R_reads' HO_0.out).1; omega) | simpa using h_); obtain rfl := k119_openM hM15; have HP15 := Kd.R_seg HX15.out (x5_1 : Int) (as_) (by have h_ : (x5_1 : Int) < ((x0_1.length : Int) : Int) := as_; first | exact h_ | (have e_ := (Kd.R_reads' HO_0.out).1; omega) | simpa using h_) (seg := [.bool ((Int.tmod (wrap64 ((wrap64 (x1_1 + 1)) + 1)) 3) == 0)]) (j := 2) hcl15 hcc15 (show 3 ≤ 3 from by decide) (x' := (⟨(rd_I_Sym y194 x5_1).f0, (rd_I_Sym y194 x5_1).f1, ((Int.tmod (wrap64 ((wrap64 (x1_1 + 1)) + 1)) 3) == 0)⟩ : I_Sym)) (k119_mkM _ _ _ (⟨(rd_I_Sym y194 x5_1).f0, (rd_I_Sym y194 x5_1).f1, ((Int.tmod (wrap64 ((wrap64 (x1_1 + 1)) + 1)) 3) == 0)⟩ : I_Sym) ) (fun _ hk => hk); have hx15_2 := hcc15 2 _ rfl; (try simp only [show (k119).sz = 3 from rfl, Nat.mul_one, Nat.add_zero] at hx15_2); have hf15_2 := hfr15 2; (try simp only [show (k119).sz = 3 from rfl, Nat.mul_one, Nat.add_zero] at hf15_2); clear hcl15 hcc15 hfr15; (try clear hM15)) | ((with_reducible refine gate_store (t := 4) (p := 33) rfl ?_); refine store_event (t := 4) (p := 33) (v := ?vo_w16) (w1 := (w14.setCell ⟨go6, (x5_1 : Int).toNat * 3 + 2, none⟩ (.bool ((Int.tmod (wrap64 ((wrap64 (x1_1 + 1)) + 1)) 3) == 0)))) ?hg ?ho ?hn ?hr ?_; (case ho => rfl); (case hg => rfl); (case hn => rfl); (case hr => first | (go_simp; done) | (go_simp; rfl)); intro w16 hw; have hg : w14.grownBy w16 (some go6) := (by rw [hw]; exact HP15.2); have hp_ : Kd.R k119 119 w16 w0.heap.size (fun k_ => (P0_ k_ ∨ w.heap.size ≤ k_)) (.slice (some ⟨go6, 0, none⟩) x0_1.length co9) y195 := (by rw [hw, Ny195.out]; exact HP15.1); clear HP15; replace HB := ak (by rw [hw]; exact below_set (HB.out) GB6.out : Below w0.heap.size w0 w16); replace HK := ak (Kept.of_grown (S := (fun k_ => P0_ k_)) hg (by repeat (first | (with_reducible first | exact HK.out | apply Kept.alloc | apply Kept.drewN | apply Kept.drew) | exact HK.out)) (fun k_ e_ => (HO_0.out.1 k_ e_))); replace HO_0 := ak (hp_); clear hg hw hp_))
          go_roundg k1
          case measure => have := HK1.out; omega
          case rel => exact ⟨(y195), (wrap64 ((wrap64 ((wrap64 (x1_1 + 1)) + 1)) + 1)), (wrap64 (x5_1 + 1)), (by first | rfl | (simp; done) | (simp [*]; done)), (by first | rfl | (simp; done) | (simp [*]; done)), H', ⟨by have := HK1.out; omega⟩, ⟨by (with_reducible repeat (first | apply Kd.R_alloc | apply Kd.R_drewN | apply Kd.R_drew)); exact HO_0.out⟩, ⟨by repeat (first | (with_reducible first | exact HK.out | apply Kept.alloc | apply Kept.drewN | apply Kept.drew) | exact HK.out)⟩, ⟨by repeat (first | (with_reducible first | exact HB.out | apply below_alloc | apply pw_below_drewN | apply below_drew1) | exact HB.out)⟩⟩
        rw [if_neg c5] at H; exact absurd H (by simp)
      rw [if_neg c3] at H; have c3b0 := decide_eq_false c3; clear c3
      simp only [Option.some.injEq, Prod.mk.injEq] at H
      obtain ⟨rfl, rfl⟩ := H; obtain ⟨Ao17, co17, eo17⟩ := Kd.R_slice HO_0.out; subst eo17
      go_wp2
      go_ret
      exact fin_ ⟨by (with_reducible repeat (first | apply Kd.R_alloc | apply Kd.R_drewN | apply Kd.R_drew)); exact HO_0.out, by repeat (first | (with_reducible first | exact HB.out | apply below_alloc | apply pw_below_drewN | apply below_drew1) | exact HB.out), by repeat (first | (with_reducible first | exact HK.out | apply Kept.alloc | apply Kept.drewN | apply Kept.drew) | exact HK.out)⟩

/-! ### laws_markTermS: function 95 -/
theorem gR_pred {α : Type} {d : Kd α} {e base : Nat} {ok : Nat → Prop} {W : World} {v : Value} {xs : List α} (h : Kd.R d e W base ok v xs) : ∃ P : Nat → Prop, (∀ k, P k → ok k) ∧ (∀ k, P k → k < W.heap.size ∧ ∃ q, q ∈ e :: d.E ∧ ∃ cells, W.heap[k]? = some (.cells cells q (0, 0))) ∧ Kd.R d e W base P v xs := ⟨_, fun _ h_ => h_.1, fun _ h_ => h_.2.2, Kd.R_bound h⟩
theorem gS_pred {α : Type} {d : Kd α} {e base : Nat} {ok : Nat → Prop} {W : World} {v : Value} {xs : List α} (h : Kd.S d e W base ok v xs) : ∃ P : Nat → Prop, (∀ k, P k → ok k) ∧ (∀ k, P k → k < W.heap.size ∧ ∃ q, q ∈ e :: d.E ∧ ∃ cells, W.heap[k]? = some (.cells cells q (0, 0))) ∧ Kd.S d e W base P v xs := ⟨_, fun _ h_ => h_.1, fun _ h_ => h_.2.2, Kd.S_bound h⟩
theorem gS_lt {α : Type} {d : Kd α} {e base n : Nat} {ok : Nat → Prop} {W : World} {v : Value} {xs : List α} (h : Kd.S d e W base ok v xs) (hn : n = W.heap.size) : Kd.S d e W base (fun k => ok k ∧ k < n) v xs := Kd.S_mono (Kd.S_bound h) (fun _ h_ => ⟨h_.1, hn ▸ h_.2.2.1⟩)
theorem gR_lt {α : Type} {d : Kd α} {e base n : Nat} {ok : Nat → Prop} {W : World} {v : Value} {xs : List α} (h : Kd.R d e W base ok v xs) (hn : n = W.heap.size) : Kd.R d e W base (fun k => ok k ∧ k < n) v xs := Kd.R_mono (Kd.R_bound h) (fun _ h_ => ⟨h_.1, hn ▸ h_.2.2.1⟩)
theorem gS_ge {α : Type} {d : Kd α} {e n b : Nat} {ok : Nat → Prop} {w1 : World} {v : Value} {xs : List α} (h : Kd.S d e w1 b ok v xs) (hn : n = b) : Kd.S d e w1 b (fun k => ok k ∧ n ≤ k) v xs := Kd.S_mono (Kd.S_bound h) (fun _ h_ => ⟨h_.1, hn ▸ h_.2.1⟩)
theorem gR_ge {α : Type} {d : Kd α} {e n b : Nat} {ok : Nat → Prop} {w1 : World} {v : Value} {xs : List α} (h : Kd.R d e w1 b ok v xs) (hn : n = b) : Kd.R d e w1 b (fun k => ok k ∧ n ≤ k) v xs := Kd.R_mono (Kd.R_bound h) (fun _ h_ => ⟨h_.1, hn ▸ h_.2.1⟩)
theorem gh_ {W w1 : World} (hb : Below W.heap.size W w1) : ∃ n, n = W.heap.size := ⟨_, rfl⟩
theorem gS_off {α : Type} {d : Kd α} {e base : Nat} {ok P : Nat → Prop} {L : List Nat} {W : World} {v : Value} {xs : List α} (h : Kd.S d e W base ok v xs) (hP : ∀ k, P k → k < W.heap.size ∧ ∃ q, q ∈ L ∧ ∃ cells, W.heap[k]? = some (.cells cells q (0, 0))) (ht : ∀ q, q ∈ e :: d.E → q ∉ L) : Kd.S d e W base (fun k => ok k ∧ ¬ P k) v xs := by
  refine Kd.S_mono (Kd.S_bound h) (fun k h_ => ⟨h_.1, fun hp => ?_⟩)
  obtain ⟨_, _, _, q, hq, cells, hc⟩ := h_
  obtain ⟨_, q2, hq2, cells2, hc2⟩ := hP k hp
  rw [hc] at hc2; injection hc2 with hc2; injection hc2 with _ hqq; subst hqq; exact ht _ hq hq2
theorem gR_off {α : Type} {d : Kd α} {e base : Nat} {ok P : Nat → Prop} {L : List Nat} {W : World} {v : Value} {xs : List α} (h : Kd.R d e W base ok v xs) (hP : ∀ k, P k → k < W.heap.size ∧ ∃ q, q ∈ L ∧ ∃ cells, W.heap[k]? = some (.cells cells q (0, 0))) (ht : ∀ q, q ∈ e :: d.E → q ∉ L) : Kd.R d e W base (fun k => ok k ∧ ¬ P k) v xs := by
  refine Kd.R_mono (Kd.R_bound h) (fun k h_ => ⟨h_.1, fun hp => ?_⟩)
  obtain ⟨_, _, _, q, hq, cells, hc⟩ := h_
  obtain ⟨_, q2, hq2, cells2, hc2⟩ := hP k hp
  rw [hc] at hc2; injection hc2 with hc2; injection hc2 with _ hqq; subst hqq; exact ht _ hq hq2
theorem gP_box {P : Nat → Prop} {L : List Nat} {W : World} {g t : Nat} {cs : Array Value} (hP : ∀ k, P k → k < W.heap.size ∧ ∃ q, q ∈ L ∧ ∃ cells, W.heap[k]? = some (.cells cells q (0, 0))) (hb : W.heap[g]? = some (.cells cs t (0, 0))) (ht : t ∉ L) : ¬ P g := by
  intro hp
  obtain ⟨_, q2, hq2, cells2, hc2⟩ := hP g hp
  rw [hb] at hc2; injection hc2 with hc2; injection hc2 with _ hqq; subst hqq; exact ht hq2

inductive Sm : List I_Term → List I_Term → Prop
  | nil : Sm [] []
  | cons {x y : I_Term} {xs ys : List I_Term} : Sm x.f2 y.f2 → Sm xs ys → Sm (x :: xs) (y :: ys)
theorem Sm.len {a b : List I_Term} (h : Sm a b) : a.length = b.length := by
  induction h with
  | nil => rfl
  | cons _ _ _ ih => rw [List.length_cons, List.length_cons, ih]
theorem Sm.refl_ : ∀ (n : Nat) (a : List I_Term), SizeOf.sizeOf a ≤ n → Sm a a := by
  intro n
  induction n with
  | zero => intro a h; cases a with
    | nil => exact .nil
    | cons x xs => simp at h
  | succ n ih =>
    intro a h
    cases a with
    | nil => exact .nil
    | cons x xs =>
      obtain ⟨a0, a1, a2⟩ := x
      simp at h
      exact .cons (ih _ (by show SizeOf.sizeOf a2 ≤ n; omega)) (ih _ (by omega))
theorem Sm.refl (a : List I_Term) : Sm a a := Sm.refl_ _ a (Nat.le_refl _)
theorem Sm.trans {a b : List I_Term} (h : Sm a b) : ∀ {c : List I_Term}, Sm b c → Sm a c := by
  induction h with
  | nil => intro c h; exact h
  | cons _ _ i1 i2 =>
    intro c h
    cases h with
    | cons h1 h2 => exact .cons (i1 h1) (i2 h2)
theorem reps_cons {P : I_Term → List Value → Prop} {x : I_Term} {xs : List I_Term} {cs : List Value} (h : Reps P 3 (x :: xs) cs) : P x (cs.take 3) ∧ Reps P 3 xs (cs.drop 3) := by
  refine ⟨by simpa using h.2 0 x rfl, by have := h.1; simp at this ⊢; omega, fun j p hj => ?_⟩
  have := h.2 (j + 1) p (by simpa using hj)
  rw [List.drop_drop]
  have e : 3 + j * 3 = (j + 1) * 3 := by omega
  rw [e]
  exact this
theorem reps_mk {P : I_Term → List Value → Prop} {x : I_Term} {xs : List I_Term} {cs : List Value} (hl : 3 ≤ cs.length) (h1 : P x (cs.take 3)) (h2 : Reps P 3 xs (cs.drop 3)) : Reps P 3 (x :: xs) cs := by
  refine ⟨by have := h2.1; simp at this ⊢; omega, fun j p hj => ?_⟩
  cases j with
  | zero =>
    simp at hj
    subst hj
    simpa using h1
  | succ j =>
    have := h2.2 j p (by simpa using hj)
    rw [List.drop_drop] at this
    have e : 3 + j * 3 = (j + 1) * 3 := by omega
    rw [e] at this
    exact this
/-- two rows of cells that differ in whole numbers alone -/
def Cel (a b : List Value) : Prop := a.length = b.length ∧ ∀ q, a[q]? = b[q]? ∨ (q % 3 ≠ 2 ∧ q < a.length ∧ ∃ u, b[q]? = some (.int .i64 u))
theorem Cel.drop {a b : List Value} (h : Cel a b) : Cel (a.drop 3) (b.drop 3) := by
  refine ⟨by rw [List.length_drop, List.length_drop, h.1], fun q => ?_⟩
  rw [List.getElem?_drop, List.getElem?_drop]
  rcases h.2 (3 + q) with e | ⟨e1, e2, e3⟩
  · exact .inl e
  · exact .inr ⟨by omega, by rw [List.length_drop]; omega, e3⟩
theorem reps_cel {P Q : I_Term → List Value → Prop} : ∀ (l : List I_Term) (a b : List Value), Cel a b → Reps P 3 l a → (∀ x c, x ∈ l → P x c → ∃ v2, c = [.int .i64 x.f0, .int .i64 x.f1, v2] ∧ ∃ f2', Sm x.f2 f2' ∧ ∀ f0 f1, Q ⟨f0, f1, f2'⟩ [.int .i64 f0, .int .i64 f1, v2]) → ∃ l', Sm l l' ∧ Reps Q 3 l' b := by
  intro l
  induction l with
  | nil =>
    intro a b hc hr _
    refine ⟨[], .nil, ?_⟩
    have : b.length = 0 := by rw [← hc.1, hr.1]; rfl
    rw [List.length_eq_zero_iff.1 this]
    exact Reps.none _ _
  | cons x xs ih =>
    intro a b hc hr hP
    obtain ⟨h1, h2⟩ := reps_cons hr
    obtain ⟨v2, e, f2', s, hQ⟩ := hP x _ (List.mem_cons_self ..) h1
    obtain ⟨l', s', r'⟩ := ih _ _ hc.drop h2 (fun y c hy => hP y c (List.mem_cons_of_mem _ hy))
    have hal : 3 ≤ a.length := by have := hr.1; rw [List.length_cons] at this; omega
    have a0 : a[0]? = some (.int .i64 x.f0) := by have := congrArg (fun z => z[0]?) e; simpa [List.getElem?_take] using this
    have a1 : a[1]? = some (.int .i64 x.f1) := by have := congrArg (fun z => z[1]?) e; simpa [List.getElem?_take] using this
    have a2 : a[2]? = some v2 := by have := congrArg (fun z => z[2]?) e; simpa [List.getElem?_take] using this
    have b0 : ∃ u, b[0]? = some (.int .i64 u) := by
      rcases hc.2 0 with h | ⟨_, _, h⟩
      · exact ⟨_, h ▸ a0⟩
      · exact h
    have b1 : ∃ u, b[1]? = some (.int .i64 u) := by
      rcases hc.2 1 with h | ⟨_, _, h⟩
      · exact ⟨_, h ▸ a1⟩
      · exact h
    have b2 : b[2]? = some v2 := by
      rcases hc.2 2 with h | ⟨h, _, _⟩
      · exact h ▸ a2
      · omega
    obtain ⟨u0, b0⟩ := b0
    obtain ⟨u1, b1⟩ := b1
    refine ⟨⟨u0, u1, f2'⟩ :: l', .cons s s', reps_mk (by rw [← hc.1]; exact hal) ?_ r'⟩
    have e2 : b.take 3 = [.int .i64 u0, .int .i64 u1, v2] := by
      refine List.ext_getElem? fun q => ?_
      rw [List.getElem?_take]
      match q with
      | 0 => simpa using b0
      | 1 => simpa using b1
      | 2 => simpa using b2
      | q + 3 => rw [if_neg (by omega)]; simp
    rw [e2]
    exact hQ u0 u1
theorem poke_ {w : World} {g j : Nat} (u : Int) {cells : Array Value} (hb : w.heap[g]? = some (.cells cells 90 (0, 0))) (hj : j % 3 ≠ 2) : ∀ (n : Nat) (l : List I_Term), SizeOf.sizeOf l ≤ n → ∀ (base : Nat) (ok : Nat → Prop) (v : Value), k90.R 90 w base ok v l → ∃ l', Sm l l' ∧ k90.R 90 (w.setCell ⟨g, j, none⟩ (.int .i64 u)) base ok v l' := by
  intro n
  induction n with
  | zero =>
    intro l hl
    cases l with
    | nil =>
      intro base ok v h
      obtain ⟨hok, inner, ⟨ho1, ho2⟩, hr⟩ := h
      rcases ho2 with ⟨rfl, _⟩ | ⟨g', cap, cur, rfl, hbase, hheap, hnc, hcm, hcs, ht⟩
      · exact ⟨[], .nil, Kd.R_nil _ _ _ _ _⟩
      · simp at hl
    | cons x xs => simp at hl
  | succ n ih =>
    intro l hl base ok v h
    obtain ⟨hok, inner, ⟨ho1, ho2⟩, hr⟩ := h
    rcases ho2 with ⟨rfl, h0⟩ | ⟨g', cap, cur, rfl, hbase, hheap, hnc, hcm, hcs, ht⟩
    · have : l = [] := List.length_eq_zero_iff.1 h0
      subst this
      exact ⟨[], .nil, Kd.R_nil _ _ _ _ _⟩
    · replace ht : cur.toList.take (l.length * 3) = inner := ht
      replace ho1 : inner.length = l.length * 3 := ho1
      replace hcs : cur.size = cap * 3 := hcs
      obtain ⟨cur', hh', hs', hcel⟩ : ∃ cur' : Array Value, (w.setCell ⟨g, j, none⟩ (.int .i64 u)).heap[g']? = some (.cells cur' 90 (0, 0)) ∧ cur'.size = cur.size ∧ Cel inner (cur'.toList.take (l.length * 3)) := by
        by_cases hg : g' = g
        · subst hg
          rw [hheap] at hb
          injection hb with hb
          injection hb with hb
          subst hb
          refine ⟨_, blk_put hheap j _ rfl, by simp, ?_, fun q => ?_⟩
          · rw [← ht]; simp
          · rw [← ht, List.getElem?_take, List.getElem?_take]
            by_cases hq : q < l.length * 3
            · rw [if_pos hq, if_pos hq]
              by_cases hqj : q = j
              · subst hqj
                have hqs : q < cur.size := by have : l.length * 3 ≤ cap * 3 := Nat.mul_le_mul_right _ hnc; omega
                refine .inr ⟨hj, by simp; omega, u, ?_⟩
                simp [hqs]
              · refine .inl ?_
                simp [Array.getElem?_setIfInBounds, Ne.symm hqj]
            · rw [if_neg hq, if_neg hq]; exact .inl rfl
        · exact ⟨cur, (Below.heap_setCell w ⟨g, j, none⟩ _ g' hg).trans hheap, rfl, by rw [show cur.toList.take (l.length * 3) = inner from ht], fun q => .inl (by rw [show cur.toList.take (l.length * 3) = inner from ht])⟩
      obtain ⟨l', hs, hr'⟩ := reps_cel (Q := k90.M (w.setCell ⟨g, j, none⟩ (.int .i64 u)) base (fun k => ok k ∧ some k ≠ (Value.slice (some ⟨g', 0, none⟩) l.length cap).ownBlock)) l inner _ hcel hr (fun x c hx hc => by
        obtain ⟨v2, e, hR⟩ := k90_openM hc
        have hsz : SizeOf.sizeOf x.f2 ≤ n := by
          have h1 := List.sizeOf_lt_of_mem hx
          have h2 : SizeOf.sizeOf x.f2 < SizeOf.sizeOf x := by obtain ⟨a0, a1, a2⟩ := x; simp; omega
          omega
        obtain ⟨f2', s, hR'⟩ := ih x.f2 hsz _ _ _ hR
        exact ⟨v2, e, f2', s, fun f0 f1 => k90_mkM _ _ _ ⟨f0, f1, f2'⟩ hR'⟩)
      have hl' := hs.len
      refine ⟨l', hs, hok, cur'.toList.take (l.length * 3), ⟨?_, .inr ⟨g', cap, cur', by rw [hl'], hbase, hh', by rw [← hl']; exact hnc, hcm, by rw [hs', hcs]; rfl, by rw [← hl']; rfl⟩⟩, hr'⟩
      rw [← hcel.1, ho1, hl']; rfl
def Pk (w w' : World) : Prop := ∀ (base : Nat) (ok : Nat → Prop) (v : Value) (l : List I_Term), Kd.R k90 90 w base ok v l → ∃ l', Sm l l' ∧ Kd.R k90 90 w' base ok v l'
theorem Pk.refl (w : World) : Pk w w := fun _ _ _ l h => ⟨l, Sm.refl l, h⟩
theorem Pk.trans {w w1 w2 : World} (h : Pk w w1) (k : Pk w1 w2) : Pk w w2 := fun b o v l hR => by
  obtain ⟨l1, s1, r1⟩ := h b o v l hR
  obtain ⟨l2, s2, r2⟩ := k b o v l1 r1
  exact ⟨l2, s1.trans s2, r2⟩
theorem Pk.poke {w : World} {g j : Nat} (u : Int) {cells : Array Value} (hb : w.heap[g]? = some (.cells cells 90 (0, 0))) (hj : j % 3 ≠ 2) : Pk w (w.setCell ⟨g, j, none⟩ (.int .i64 u)) := fun b o v l h => poke_ u hb hj _ l (Nat.le_refl _) b o v h
theorem Sm.rd {a b : List I_Term} (h : Sm a b) (i : Int) : Sm (rd_I_Term a i).f2 (rd_I_Term b i).f2 := by
  show Sm (a.getD i.toNat zI_Term).f2 (b.getD i.toNat zI_Term).f2
  generalize i.toNat = n
  induction h generalizing n with
  | nil => exact .nil
  | cons h1 h2 i1 i2 =>
    cases n with
    | zero => exact h1
    | succ n => rw [List.getD_cons_succ, List.getD_cons_succ]; exact i2 n
mutual
def laws_markTermS.l0 : Nat → List I_Term → Int → Int → Option (Int)
  | 0, _, _, _ => none
  | k + 1, x0, x1, x5 => if x5 < (x0.length : Int) then (if 0 ≤ x5 then ((laws_markTermS.f k ((rd_I_Term x0 x5).f2) (wrap64 ((wrap64 (x1 + 1)) + 1))).bind fun t => (laws_markTermS.l0 k x0 t (wrap64 (x5 + 1)))) else (none)) else (some x1)
def laws_markTermS.f : Nat → List I_Term → Int → Option (Int)
  | 0, _, _ => none
  | k + 1, l0, a1 => laws_markTermS.l0 k l0 a1 0
end
theorem laws_markTermS.mono_l : ∀ k, (∀ y0 y1, LeO (laws_markTermS.f k y0 y1) (laws_markTermS.f (k + 1) y0 y1)) ∧ (∀ y0 y1 y2, LeO (laws_markTermS.l0 k y0 y1 y2) (laws_markTermS.l0 (k + 1) y0 y1 y2))
  | 0 => ⟨fun _ _ r h => by simp [laws_markTermS.f] at h, fun _ _ _ r h => by simp [laws_markTermS.l0] at h⟩
  | k + 1 => by
    obtain ⟨ih0, ih1⟩ := laws_markTermS.mono_l k
    refine ⟨?_, ?_⟩
    · intro y0 y1
      unfold laws_markTermS.f
      repeat' first
      | (with_reducible exact ih0 _ _)
      | (with_reducible exact ih1 _ _ _)
      | (with_reducible exact LeO.refl _)
      | (with_reducible exact LeO.none _)
      | (with_reducible refine LeO.ite ?_ ?_)
      | (with_reducible refine LeO.bind ?_ (fun _ => ?_))
      | exact ih0 _ _
      | exact ih1 _ _ _
      | exact LeO.none _
      | refine LeO.ite ?_ ?_
      | refine LeO.bind ?_ (fun _ => ?_)
    · intro y0 y1 y2
      unfold laws_markTermS.l0
      repeat' first
      | (with_reducible exact ih0 _ _)
      | (with_reducible exact ih1 _ _ _)
      | (with_reducible exact LeO.refl _)
      | (with_reducible exact LeO.none _)
      | (with_reducible refine LeO.ite ?_ ?_)
      | (with_reducible refine LeO.bind ?_ (fun _ => ?_))
      | exact ih0 _ _
      | exact ih1 _ _ _
      | exact LeO.none _
      | refine LeO.ite ?_ ?_
      | refine LeO.bind ?_ (fun _ => ?_)
theorem laws_markTermS.mono : ∀ a0 a1 k, LeO (laws_markTermS.f k a0 a1) (laws_markTermS.f (k + 1) a0 a1) := by
  intro a0 a1 k
  obtain ⟨ih0, ih1⟩ := laws_markTermS.mono_l k
  exact ih0 a0 a1
theorem sm_mark : ∀ k, (∀ (l l' : List I_Term) (a : Int), Sm l l' → laws_markTermS.f k l a = laws_markTermS.f k l' a) ∧ (∀ (l l' : List I_Term) (a i : Int), Sm l l' → laws_markTermS.l0 k l a i = laws_markTermS.l0 k l' a i) := by
  intro k
  induction k with
  | zero => exact ⟨fun _ _ _ _ => rfl, fun _ _ _ _ _ => rfl⟩
  | succ k ih =>
    refine ⟨fun l l' a h => ?_, fun l l' a i h => ?_⟩
    · simp only [laws_markTermS.f]
      exact ih.2 l l' a 0 h
    · simp only [laws_markTermS.l0]
      have e : (fun t => laws_markTermS.l0 k l t (wrap64 (i + 1))) = fun t => laws_markTermS.l0 k l' t (wrap64 (i + 1)) := funext fun t => ih.2 l l' t _ h
      rw [h.len, ih.1 _ _ _ (h.rd i), e]
set_option maxHeartbeats 8000000 in
set_option maxRecDepth 100000 in
theorem laws_markTermS.calls : ∀ (k : Nat) (P0_ : Nat → Prop) (u9000_ : Value) (l0 : List (I_Term)) (a1 : Int) (r1 : Int) (w0 w : World), Below w0.heap.size w0 w → Kd.R k90 90 w w0.heap.size P0_ u9000_ l0 → laws_markTermS.f k l0 a1 = some r1 →
    Calls Try.prog 95 #[u9000_, .int .i64 a1] w fun e w' => e = .returned (.int .i64 r1) ∧ Pk w w' ∧ Below w0.heap.size w0 w' ∧ Kept w w' (fun k_ => P0_ k_) := by
  intro k
  induction k using Nat.strongRecOn with
  | _ k ih => ?_
  intro P0_ u9000_ l0 a1 r1 w0 w hB ho0 h
  cases k with
  | zero => exact absurd h (by simp [laws_markTermS.f])
  | succ k => ?_
  simp only [laws_markTermS.f] at h
  have IH := ak ih; have HO0 := ak ho0; have HK := ak (Kept.refl w (fun k_ => P0_ k_)); have HB := ak hB; have HP := ak (Pk.refl w); clear hB ho0 ih; have H' := ak h; clear h
  go_enter Try.func95, Try.ntmps95
  go_wp2
  go_loopg [1, 5] k (fun kq v1 v5 w' => ∃ (x0_1 : List (I_Term)) (x1_1 : Int) (x5_1 : Int), v1 = .int .i64 x1_1 ∧ v5 = .int .i64 x5_1 ∧ Aside0 (laws_markTermS.l0 kq l0 x1_1 x5_1 = some r1) ∧ Aside0 (kq ≤ k) ∧ Aside0 (Sm l0 x0_1) ∧ Aside0 (Kd.R k90 90 w' w0.heap.size P0_ u9000_ x0_1) ∧ Aside0 (Pk w w') ∧ Aside0 (Kept w w' (fun k_ => P0_ k_)) ∧ Aside0 (Below w0.heap.size w0 w'))
  case atStart => exact ⟨(l0), (a1), (0), (by first | rfl | (simp; done) | (simp [*]; done)), (by first | rfl | (simp; done) | (simp [*]; done)), H', ⟨Nat.le_refl _⟩, ⟨Sm.refl _⟩, ⟨ra_ HO0.out⟩, ⟨fun b o v l hR => ⟨l, Sm.refl l, ra_ hR⟩⟩, ⟨by repeat (first | (with_reducible first | exact HK.out | apply Kept.alloc | apply Kept.drewN | apply Kept.drew) | exact HK.out)⟩, ⟨by repeat (first | (with_reducible first | exact HB.out | apply below_alloc | apply pw_below_drewN | apply below_drew1) | exact HB.out)⟩⟩
  case round =>
    clear H'; (try clear p2); obtain ⟨x0_1, x1_1, x5_1, rfl, rfl, HA, HK1, HS, HO_0, HP, HK, HB⟩ := hrel
    have hlen := HS.out.len
    cases gk with
    | zero => exact absurd HA.out (by simp [laws_markTermS.l0])
    | succ k1 => ?_
    have H := HA.out; clear HA
    simp only [laws_markTermS.l0] at H
    by_cases c3 : x5_1 < (l0.length : Int)
    · rw [if_pos c3] at H; have c3' : x5_1 < (x0_1.length : Int) := (by omega); have c3b0 := decide_eq_true c3'; clear c3
      by_cases c5 : 0 ≤ x5_1
      · rw [if_pos c5] at H; have c5b0 := decide_eq_true c5; replace H := Option.bind_eq_some_iff.mp H; obtain ⟨t1, A40, H⟩ := H; have A4 := ak A40; clear A40; have H' := ak H; clear H
        obtain ⟨Ao9, co9, eo9⟩ := Kd.R_slice HO_0.out; subst eo9
        obtain ⟨go6, co6, eo6, gb6, gl6, cl6, HG6⟩ := Kd.R_form HO_0.out (by omega); (first | cases eo6 | (injection eo6 with ea_ en_ ec_; (first | subst ea_ | (injection ea_ with ea_; subst ea_)); subst ec_; clear en_))
        have GB6 := ak gb6; have GG6 := ak HG6; have GP6 := ak (show P0_ go6 from HO_0.out.1 _ rfl); clear gb6 gl6 HG6
        obtain ⟨ce6, hcl6, hM6, hcc6, hfr6⟩ := Kd.R_elem HO_0.out zI_Term (x5_1 : Int) c5 c3'
        obtain ⟨v6, rfl, hR6⟩ := k90_openM hM6
        have hx6_0 : wr.cell? ⟨go6, (x5_1 : Int).toNat * 3, none⟩ = some (.int .i64 ((rd_I_Term x0_1 x5_1).f0)) := hcc6 0 _ rfl
        have hx6_1 : wr.cell? ⟨go6, (x5_1 : Int).toNat * 3 + 1, none⟩ = some (.int .i64 ((rd_I_Term x0_1 x5_1).f1)) := hcc6 1 _ rfl
        have hf6_0 : wr.frozen? ⟨go6, (x5_1 : Int).toNat * 3, none⟩ = false := hfr6 0
        have hf6_1 : wr.frozen? ⟨go6, (x5_1 : Int).toNat * 3 + 1, none⟩ = false := hfr6 1
        clear hcl6 hcc6 hfr6 hR6; (try clear hM6)
        have p6 := eq_true c5; have q6 := eq_true c3'; clear c5 c3'
        go_wp2_with (first | ((with_reducible refine gate_store (t := 3) (p := 16) rfl ?_); refine store_event (t := 3) (p := 16) (v := ?vo_w12) (w1 := (wr.setCell ⟨go6, (x5_1 : Int).toNat * 3, none⟩ (.int .i64 (x1_1)))) ?hg ?ho ?hn ?hr ?_; (case ho => rfl); (case hg => rfl); (case hn => rfl); (case hr => first | (go_simp; done) | (go_simp; rfl)); intro w12 hw; have hp_ : Pk wr w12 := (by rw [hw]; exact Pk.poke _ GG6.out (by omega)); obtain ⟨x2_1, hs_, hR_⟩ := hp_ _ _ _ _ HO_0.out; have n1_ : Sm l0 x2_1 := HS.out.trans hs_; replace HS := ak n1_; replace HO_0 := ak hR_; obtain ⟨cl7, hg7⟩ : ∃ c_, w12.heap[go6]? = some (.cells c_ 90 (0, 0)) := (by rw [hw]; exact ⟨_, blk_put GG6.out _ _ rfl⟩); have GG7 := ak hg7; clear hg7; replace HB := ak (by rw [hw]; exact below_set (HB.out) GB6.out : Below w0.heap.size w0 w12); replace HK := ak (by rw [hw]; exact Kept.setCell HK.out (.inl GP6.out) _ : Kept w w12 (fun k_ => P0_ k_)); have n2_ := Pk.trans HP.out hp_; replace HP := ak n2_; clear hw hp_ n1_ n2_ hs_ hR_; obtain ⟨ce7, hcl7, hM7, hcc7, hfr7⟩ := Kd.R_elem HO_0.out zI_Term (x5_1 : Int) (of_eq_true p6) (of_eq_true q6); obtain ⟨v7, rfl, hR7⟩ := k90_openM hM7; have hx7_1 : w12.cell? ⟨go6, (x5_1 : Int).toNat * 3 + 1, none⟩ = some (.int .i64 ((rd_I_Term x2_1 x5_1).f1)) := hcc7 1 _ rfl; have hf7_1 : w12.frozen? ⟨go6, (x5_1 : Int).toNat * 3 + 1, none⟩ = false := hfr7 1; clear hcl7 hcc7 hfr7 hR7; (try clear hM7)) | ((with_reducible refine gate_store (t := 3) (p := 23) rfl ?_); refine store_event (t := 3) (p := 23) (v := ?vo_w14) (w1 := (w12.setCell ⟨go6, (x5_1 : Int).toNat * 3 + 1, none⟩ (.int .i64 (wrap64 (x1_1 + 1))))) ?hg ?ho ?hn ?hr ?_; (case ho => rfl); (case hg => rfl); (case hn => rfl); (case hr => first | (go_simp; done) | (go_simp; rfl)); intro w14 hw; have hp_ : Pk w12 w14 := (by rw [hw]; exact Pk.poke _ GG7.out (by omega)); obtain ⟨x3_1, hs_, hR_⟩ := hp_ _ _ _ _ HO_0.out; have n1_ : Sm l0 x3_1 := HS.out.trans hs_; replace HS := ak n1_; replace HO_0 := ak hR_; obtain ⟨cl8, hg8⟩ : ∃ c_, w14.heap[go6]? = some (.cells c_ 90 (0, 0)) := (by rw [hw]; exact ⟨_, blk_put GG7.out _ _ rfl⟩); have GG8 := ak hg8; clear hg8; replace HB := ak (by rw [hw]; exact below_set (HB.out) GB6.out : Below w0.heap.size w0 w14); replace HK := ak (by rw [hw]; exact Kept.setCell HK.out (.inl GP6.out) _ : Kept w w14 (fun k_ => P0_ k_)); have n2_ := Pk.trans HP.out hp_; replace HP := ak n2_; clear hw hp_ n1_ n2_ hs_ hR_; obtain ⟨ce8, hcl8, hM8, hcc8, hfr8⟩ := Kd.R_elem HO_0.out zI_Term (x5_1 : Int) (of_eq_true p6) (of_eq_true q6); obtain ⟨v8, rfl, hR8⟩ := k90_openM hM8; obtain ⟨A8, c8, e8⟩ := Kd.R_slice hR8; subst e8; have hx8_2 : w14.cell? ⟨go6, (x5_1 : Int).toNat * 3 + 2, none⟩ = some (.slice A8 ((rd_I_Term x3_1 x5_1).f2).length c8) := hcc8 2 _ rfl; have HR8 := ak hR8; clear hcl8 hcc8 hfr8 hR8; (try clear hM8)) | ((with_reducible refine gate_callee (f := 95) rfl ?_); refine goesM_ (some 32) rfl rfl Try.func95 (by kernel_rfl) rfl #[.slice A8 ((rd_I_Term x3_1 x5_1).f2).length c8, .int .i64 (wrap64 ((wrap64 (x1_1 + 1)) + 1))] rfl ?_; (with_reducible refine (IH.out k1 ?sidel (fun k_ => P0_ k_ ∧ k_ ≠ go6) _ ((rd_I_Term x3_1 x5_1).f2) _ t1 w0 _ ?sideB ?side1 ?side2).mono ?_); (case sidel => have := HK1.out; omega); (case sideB => exact bl_ HB.out); (case side1 => exact ra_ HR8.out); (case side2 => exact ((sm_mark k1).1 _ _ _ (HS.out.rd x5_1)).symm.trans A4.out); rintro e w16 ⟨rfl, hp_, hb, hkp⟩; refine ⟨_, rfl, ?_⟩; obtain ⟨x4_1, hs_, hR_⟩ := hp_ _ _ _ _ (ra_ HO_0.out); have n1_ : Sm l0 x4_1 := HS.out.trans hs_; replace HS := ak n1_; replace HO_0 := ak hR_; replace HB := ak hb; replace HK := ak (Kept.then_ (S := (fun k_ => P0_ k_)) HK.out hkp (fun k_ hs_ => .inl hs_.1)); have n2_ := Pk.trans HP.out hp_; replace HP := ak n2_; clear hp_ n1_ n2_ hs_ hR_ hb hkp))
        go_roundg k1
        case measure => have := HK1.out; omega
        case rel => exact ⟨(x4_1), (t1), (wrap64 (x5_1 + 1)), (by first | rfl | (simp; done) | (simp [*]; done)), (by first | rfl | (simp; done) | (simp [*]; done)), H', ⟨by have := HK1.out; omega⟩, HS, ⟨ra_ HO_0.out⟩, ⟨fun b o v l hR => by obtain ⟨l', s, r⟩ := HP.out b o v l hR; exact ⟨l', s, ra_ r⟩⟩, ⟨by repeat (first | (with_reducible first | exact HK.out | apply Kept.alloc | apply Kept.drewN | apply Kept.drew) | exact HK.out)⟩, ⟨by repeat (first | (with_reducible first | exact HB.out | apply below_alloc | apply pw_below_drewN | apply below_drew1) | exact HB.out)⟩⟩
      · rw [if_neg c5] at H; exact absurd H (by simp)
    · rw [if_neg c3] at H; have c3' : ¬ x5_1 < (x0_1.length : Int) := (by omega); have c3b0 := decide_eq_false c3'; clear c3
      obtain rfl := Option.some.inj H
      obtain ⟨Ao17, co17, eo17⟩ := Kd.R_slice HO_0.out; subst eo17
      go_wp2
      go_ret
      exact fin_ ⟨fun b o v l hR => by obtain ⟨l', s, r⟩ := HP.out b o v l hR; exact ⟨l', s, ra_ r⟩, by repeat (first | (with_reducible first | exact HB.out | apply below_alloc | apply pw_below_drewN | apply below_drew1) | exact HB.out), by repeat (first | (with_reducible first | exact HK.out | apply Kept.alloc | apply Kept.drewN | apply Kept.drew) | exact HK.out)⟩

theorem laws_markTermS.callsE (k : Nat) (ok_ : Nat → Prop) (u9000_ : Value) (l0 : List (I_Term)) (a1 : Int) (r1 : Int) (w0 w : World) (hB : Below w0.heap.size w0 w) (ho0 : Kd.R k90 90 w w0.heap.size ok_ u9000_ l0) (h : laws_markTermS.f k l0 a1 = some r1) :
    Calls Try.prog 95 #[u9000_, .int .i64 a1] w fun e w' => ∃ P0_ : Nat → Prop, (∀ k, P0_ k → ok_ k) ∧ (∀ k, P0_ k → k < w.heap.size ∧ ∃ q, q ∈ [90, 90] ∧ ∃ cells, w.heap[k]? = some (.cells cells q (0, 0))) ∧ e = .returned (.int .i64 r1) ∧ Below w0.heap.size w0 w' ∧ Kept w w' P0_ := by
  obtain ⟨P, h1, h2, h3⟩ := gR_pred ho0
  exact (laws_markTermS.calls k P u9000_ l0 a1 r1 w0 w hB h3 h).mono (fun e w' ⟨ha, _, hc, hd⟩ => ⟨P, h1, h2, ha, hc, hd⟩)

/-! ### laws_markTerm: function 65 -/
def laws_markTerm.f (k : Nat) (a0_0 : Int) (a0_1 : Int) (l0_2 : List (I_Term)) (a1 : Int) : Option (Int) := laws_markTermS.f k l0_2 a1
theorem laws_markTerm.mono : ∀ a0 a1 a2 a3 k, LeO (laws_markTerm.f k a0 a1 a2 a3) (laws_markTerm.f (k + 1) a0 a1 a2 a3) := by
  intro a0 a1 a2 a3 k
  unfold laws_markTerm.f
  repeat' first
      | (with_reducible exact laws_markTermS.mono _ _ _)
      | (with_reducible exact LeO.refl _)
      | (with_reducible exact LeO.none _)
      | (with_reducible refine LeO.ite ?_ ?_)
      | (with_reducible refine LeO.bind ?_ (fun _ => ?_))
      | exact laws_markTermS.mono _ _ _
      | exact LeO.none _
      | refine LeO.ite ?_ ?_
      | refine LeO.bind ?_ (fun _ => ?_)
theorem laws_markTerm.calls (k : Nat) (P0_ : Nat → Prop) (a0_0 : Int) (a0_1 : Int) (A0_2 : Option Addr) (n0_2 c0_2 : Nat) (l0_2 : List (I_Term)) (a1 : Int) (r1 : Int) (w0 w : World) (hB : Below w0.heap.size w0 w) (ho0 : Kd.R k90 90 w w0.heap.size P0_ (.slice A0_2 n0_2 c0_2) l0_2) (h : laws_markTerm.f k a0_0 a0_1 l0_2 a1 = some r1) :
    Calls Try.prog 65 #[.agg #[.int .i64 a0_0, .int .i64 a0_1, .slice A0_2 n0_2 c0_2], .int .i64 a1] w fun e w' => e = .returned (.int .i64 r1) ∧ Pk w w' ∧ Below w0.heap.size w0 w' ∧ Kept w w' (fun k_ => P0_ k_) := by
  have hu51 := Try.underlying90; have HO0 := ak ho0; have HK := ak (Kept.refl w (fun k_ => P0_ k_)); have HB := ak hB; have HP := ak (Pk.refl w); clear hB ho0; have A3 := ak (show laws_markTermS.f k l0_2 a1 = some r1 from h); clear h
  go_enter Try.func65, Try.ntmps65
  go_wp2_with (first | ((with_reducible refine gate_dst (N := 2) rfl ?_); refine bxe_ (N := 2) (cs := #[.int .i64 a0_0, .int .i64 a0_1, .slice A0_2 n0_2 c0_2]) (t := 90) ?_; intro gb296 hg w5 hbox hb; have BK296 := ak (hbox); have GE296 := ak (lg_ hg (bl_ HB.out)); replace HO0 := ak (Kd.R_below HO0.out hb); replace HK := ak (Kept.below HK.out hb); have hp_ : Pk w w5 := (fun b o v l hR => ⟨l, Sm.refl l, Kd.R_below hR hb⟩); replace HP := ak hp_; replace HB := ak (below_step (bl_ HB.out) hb); clear hb hbox hg hp_; have hcz6_0 := bc_ BK296.out 0; have hcz6_1 := bc_ BK296.out 1; have hcz6_2 := bc_ BK296.out 2; have hfz6_0 := blk_frozen BK296.out 0; have hfz6_1 := blk_frozen BK296.out 1; have hfz6_2 := blk_frozen BK296.out 2) | ((with_reducible refine gate_callee (f := 95) rfl ?_); refine goesM_ (some 8) rfl rfl Try.func95 (by kernel_rfl) rfl #[.slice A0_2 n0_2 c0_2, .int .i64 a1] rfl ?_; (with_reducible refine (laws_markTermS.calls k P0_ _ l0_2 a1 r1 w0 _ ?sideB ?side1 A3.out).mono ?_); (case sideB => exact bs1_ HB.out GE296.out); (case side1 => exact ra_ HO0.out); rintro e w2 ⟨rfl, hp_, hb, hkp⟩; refine ⟨_, rfl, ?_⟩; have n_ : Pk w w2 := (Pk.trans HP.out (fun b o v l hR => hp_ b o v l (ra_ hR))); replace HP := ak n_; replace HK := ak (Kept.then_ (S := (fun k_ => P0_ k_)) HK.out hkp (fun k_ hs_ => .inl hs_)); replace HB := ak hb; clear hp_ hb hkp n_))
  go_ret
  exact fin_ ⟨fun b o v l hR => by obtain ⟨l', s, r⟩ := HP.out b o v l hR; exact ⟨l', s, ra_ r⟩, by repeat (first | (with_reducible first | exact HB.out | apply below_alloc | apply pw_below_drewN | apply below_drew1) | exact HB.out), by repeat (first | (with_reducible first | exact HK.out | apply Kept.alloc | apply Kept.drewN | apply Kept.drew) | exact HK.out)⟩

theorem laws_markTerm.callsE (k : Nat) (ok_ : Nat → Prop) (a0_0 : Int) (a0_1 : Int) (A0_2 : Option Addr) (n0_2 c0_2 : Nat) (l0_2 : List (I_Term)) (a1 : Int) (r1 : Int) (w0 w : World) (hB : Below w0.heap.size w0 w) (ho0 : Kd.R k90 90 w w0.heap.size ok_ (.slice A0_2 n0_2 c0_2) l0_2) (h : laws_markTerm.f k a0_0 a0_1 l0_2 a1 = some r1) :
    Calls Try.prog 65 #[.agg #[.int .i64 a0_0, .int .i64 a0_1, .slice A0_2 n0_2 c0_2], .int .i64 a1] w fun e w' => ∃ P0_ : Nat → Prop, (∀ k, P0_ k → ok_ k) ∧ (∀ k, P0_ k → k < w.heap.size ∧ ∃ q, q ∈ [90, 90] ∧ ∃ cells, w.heap[k]? = some (.cells cells q (0, 0))) ∧ e = .returned (.int .i64 r1) ∧ Below w0.heap.size w0 w' ∧ Kept w w' P0_ := by
  obtain ⟨P, h1, h2, h3⟩ := gR_pred ho0
  exact (laws_markTerm.calls k P a0_0 a0_1 A0_2 n0_2 c0_2 l0_2 a1 r1 w0 w hB h3 h).mono (fun e w' ⟨ha, _, hc, hd⟩ => ⟨P, h1, h2, ha, hc, hd⟩)

end Go.Proofs.Ytlgoindmpejgcaa.XFinger
