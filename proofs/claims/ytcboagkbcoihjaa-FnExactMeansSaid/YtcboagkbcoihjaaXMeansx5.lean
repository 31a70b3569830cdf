-- printed by a program of this session (xprint, turned from the kit's print) for this claim
import Derived.Test.YtcboagkbcoihjaaXMeansx0
import Derived.Test.YtcboagkbcoihjaaXMeansx4
namespace Go.Proofs.Ytcboagkbcoihjaa.XMeans
open Go.RowKit Go.Proofs.Ytcboagkbcoihjaa.XOpens Go.Proofs.YtcboagkbcoihjaaW.PrintWords Go.Proofs.YtcboagkbcoihjaaW.PrintLast Go.Proofs.YtcboagkbcoihjaaW.PrintMore
attribute [local go_sem] max2_int min2_int max_two min_two max_three min_three max_four min_four   -- for this text's walks alone
set_option linter.unusedVariables false
set_option linter.unusedSimpArgs false

/-! ### spec_l24Blind: function 85 -/
mutual
def spec_l24Blind.l0 : Nat → Int → Int → Int → List (List Int) → Option (Bool)
  | 0, _, _, _, _ => none
  | k + 1, x1, x5, x193000, x193001 => if x5 < x193000 then (spec_l24Blind.l1 k x1 x5 0 x193000 x193001) else (some true)
def spec_l24Blind.l1 : Nat → Int → Int → Int → Int → List (List Int) → Option (Bool)
  | 0, _, _, _, _, _ => none
  | k + 1, x1, x5, x6, x193000, x193001 => if x6 < x193000 then ((spec_l24Two.f x193000 x193001 x1 x5 x6).bind fun t193 => ((spec_l24Two.f x193000 x193001 x1 x6 x5).bind fun t194 => (if t193 = t194 then (spec_l24Blind.l2 k x1 x5 x6 0 x193000 x193001) else (some false)))) else (spec_l24Blind.l0 k x1 (wrap64 (x5 + 1)) x193000 x193001)
def spec_l24Blind.l2 : Nat → Int → Int → Int → Int → Int → List (List Int) → Option (Bool)
  | 0, _, _, _, _, _, _ => none
  | k + 1, x1, x5, x6, x7, x193000, x193001 => if x7 < x193000 then ((spec_l24Two.f x193000 x193001 x1 x5 x6).bind fun t195 => ((spec_l24Two.f x193000 x193001 x1 t195 x7).bind fun t196 => ((spec_l24Two.f x193000 x193001 x1 x6 x7).bind fun t197 => ((spec_l24Two.f x193000 x193001 x1 x5 t197).bind fun t198 => (if t196 = t198 then (spec_l24Blind.l2 k x1 x5 x6 (wrap64 (x7 + 1)) x193000 x193001) else (some false)))))) else (spec_l24Blind.l1 k x1 x5 (wrap64 (x6 + 1)) x193000 x193001)
end
def spec_l24Blind.f (k : Nat) (a0_0 : Int) (l0_1 : List (List Int)) (a1 : Int) : Option (Bool) := spec_l24Blind.l0 k a1 0 a0_0 l0_1
theorem spec_l24Blind.mono_l : ∀ k, (∀ y0 y1 y2 y3, LeO (spec_l24Blind.l0 k y0 y1 y2 y3) (spec_l24Blind.l0 (k + 1) y0 y1 y2 y3)) ∧ (∀ y0 y1 y2 y3 y4, LeO (spec_l24Blind.l1 k y0 y1 y2 y3 y4) (spec_l24Blind.l1 (k + 1) y0 y1 y2 y3 y4)) ∧ (∀ y0 y1 y2 y3 y4 y5, LeO (spec_l24Blind.l2 k y0 y1 y2 y3 y4 y5) (spec_l24Blind.l2 (k + 1) y0 y1 y2 y3 y4 y5))
  | 0 => ⟨fun _ _ _ _ r h => by simp [spec_l24Blind.l0] at h, fun _ _ _ _ _ r h => by simp [spec_l24Blind.l1] at h, fun _ _ _ _ _ _ r h => by simp [spec_l24Blind.l2] at h⟩
  | k + 1 => by
    obtain ⟨ih0, ih1, ih2⟩ := spec_l24Blind.mono_l k; refine ⟨?_, ?_, ?_⟩
    · intro y0 y1 y2 y3
      unfold spec_l24Blind.l0
      repeat' first | (with_reducible first | exact ih0 _ _ _ _ | exact ih1 _ _ _ _ _ | exact ih2 _ _ _ _ _ _ | exact LeO.refl _ | exact LeO.none _ | refine LeO.ite ?_ ?_ | refine LeO.bind ?_ (fun _ => ?_)) | exact ih0 _ _ _ _ | exact ih1 _ _ _ _ _ | exact ih2 _ _ _ _ _ _ | exact LeO.none _ | refine LeO.ite ?_ ?_ | refine LeO.bind ?_ (fun _ => ?_)
    · intro y0 y1 y2 y3 y4
      unfold spec_l24Blind.l1
      repeat' first | (with_reducible first | exact ih0 _ _ _ _ | exact ih1 _ _ _ _ _ | exact ih2 _ _ _ _ _ _ | exact LeO.refl _ | exact LeO.none _ | refine LeO.ite ?_ ?_ | refine LeO.bind ?_ (fun _ => ?_)) | exact ih0 _ _ _ _ | exact ih1 _ _ _ _ _ | exact ih2 _ _ _ _ _ _ | exact LeO.none _ | refine LeO.ite ?_ ?_ | refine LeO.bind ?_ (fun _ => ?_)
    · intro y0 y1 y2 y3 y4 y5
      unfold spec_l24Blind.l2
      repeat' first | (with_reducible first | exact ih0 _ _ _ _ | exact ih1 _ _ _ _ _ | exact ih2 _ _ _ _ _ _ | exact LeO.refl _ | exact LeO.none _ | refine LeO.ite ?_ ?_ | refine LeO.bind ?_ (fun _ => ?_)) | exact ih0 _ _ _ _ | exact ih1 _ _ _ _ _ | exact ih2 _ _ _ _ _ _ | exact LeO.none _ | refine LeO.ite ?_ ?_ | refine LeO.bind ?_ (fun _ => ?_)
theorem spec_l24Blind.mono : ∀ a0 a1 a2 k, LeO (spec_l24Blind.f k a0 a1 a2) (spec_l24Blind.f (k + 1) a0 a1 a2) := by
  intro a0 a1 a2 k; obtain ⟨ih0, ih1, ih2⟩ := spec_l24Blind.mono_l k
  unfold spec_l24Blind.f
  repeat' first
      | (with_reducible exact ih0 _ _ _ _)
      | (with_reducible exact ih1 _ _ _ _ _)
      | (with_reducible exact ih2 _ _ _ _ _ _)
      | (with_reducible exact LeO.refl _)
      | (with_reducible exact LeO.none _)
      | (with_reducible refine LeO.ite ?_ ?_)
      | (with_reducible refine LeO.bind ?_ (fun _ => ?_))
      | exact ih0 _ _ _ _
      | exact ih1 _ _ _ _ _
      | exact ih2 _ _ _ _ _ _
      | exact LeO.none _
      | refine LeO.ite ?_ ?_
      | refine LeO.bind ?_ (fun _ => ?_)
def spec_l24Blind.T7 : Bool × List (List Nat × List Nat) := (true, [([], []), ([], []), ([], []), ([], []), ([0, 1, 2, 3], [0, 1, 2, 3]), ([], []), ([], []), ([], []), ([], []), ([5, 6, 7, 8, 4], [5, 6, 7, 8]), ([4, 9], [4, 9])])
def spec_l24Blind.B7 : List Nat := [0, 0, 0, 0, 15, 0, 0, 0, 0, 511, 1023]
theorem spec_l24Blind.tab7 : rtab .any (opsOf Try.f85 7) = spec_l24Blind.T7 := by kernel_rfl
theorem spec_l24Blind.bits7 : waitsOk spec_l24Blind.T7.2 spec_l24Blind.B7 = true := by kernel_rfl
def spec_l24Blind.T12 : Bool × List (List Nat × List Nat) := (true, [([], []), ([], []), ([], []), ([], []), ([], []), ([], []), ([2, 3, 4, 5], [2, 3, 4, 5]), ([], []), ([0, 1, 6, 7, 6], [0, 1, 6, 7]), ([], []), ([], []), ([], []), ([], []), ([], []), ([], []), ([], []), ([12, 13, 14, 15, 8], [12, 13, 14, 15]), ([9, 10, 11, 16, 16], [9, 10, 11, 16]), ([8, 17], [8, 17])])
def spec_l24Blind.B12 : List Nat := [0, 0, 0, 0, 0, 0, 60, 0, 255, 0, 0, 0, 0, 0, 0, 0, 61951, 131071, 262143]
theorem spec_l24Blind.tab12 : rtab .any (opsOf Try.f85 12) = spec_l24Blind.T12 := by kernel_rfl
theorem spec_l24Blind.bits12 : waitsOk spec_l24Blind.T12.2 spec_l24Blind.B12 = true := by kernel_rfl
set_option maxHeartbeats 8000000 in
set_option maxRecDepth 100000 in
theorem spec_l24Blind.calls (k : Nat) (a0_0 : Int) (A0_1 : Option Addr) (c0_1 : Nat) (l0_1 : List (List Int)) (a1 : Int) (r : Bool) (w : World) (hr0_1 : Kd.C (Kd.slice 3 (Kd.int .i64)) w A0_1 l0_1.length l0_1) (hc0_1 : l0_1.length ≤ c0_1) (h : spec_l24Blind.f k a0_0 l0_1 a1 = some r) :
    Calls Try.prog 85 #[.agg #[.int .i64 a0_0, .slice A0_1 l0_1.length c0_1], .int .i64 a1] w fun e w' => e = .returned (.bool r) ∧ Below w.heap.size w w' := by
  have hu51 := Try.underlying51; have HR0_1 := ak hr0_1; have HC0_1 := ak hc0_1; clear hr0_1 hc0_1; have HB := ak (Below.refl w.heap.size w); have H : (spec_l24Blind.l0 k a1 0 a0_0 l0_1) = some r := h; clear h; have H' := ak H; clear H
  go_enter Try.func85, Try.ntmps85
  go_wp2_with (first | ((with_reducible refine gate_dst (N := 2) rfl ?_); refine bxe_ (N := 2) (cs := #[.int .i64 a0_0, .slice A0_1 l0_1.length c0_1]) (t := 51) ?_; intro gb192 hg w3 hbox hb; have BK192 := ak (hbox); have GW192 := ak (lg_ hg (bl_ HB.out)); have GE192 := ak (lg_ hg (bl_ HB.out)); replace HB := ak (below_step (bl_ HB.out) hb); clear hb hbox hg))
  go_loopg [5] k (fun kq v5 w' => ∃ (x5_1 : Int), v5 = .int .i64 x5_1 ∧ Aside0 (spec_l24Blind.l0 kq a1 x5_1 a0_0 l0_1 = some r) ∧ Aside0 (kq ≤ k) ∧ Aside0 (w'.heap[gb192]? = some (.cells #[.int .i64 a0_0, (.slice A0_1 l0_1.length c0_1)] 51 (0, 0))) ∧ Aside0 (Below w.heap.size w w'))
  case atStart => exact ⟨(0), (by first | rfl | (simp; done) | (simp [*]; done)), H', ⟨Nat.le_refl _⟩, ⟨bk_ BK192.out⟩, ⟨bs1_ HB.out GE192.out⟩⟩
  case round =>
    clear H'; (try clear p2); obtain ⟨x5_1, rfl, HA, HK1, BK192, HB⟩ := hrel
    cases gk with
    | zero => exact absurd HA.out (by simp [spec_l24Blind.l0])
    | succ k1 =>
      have H := HA.out; clear HA
      simp only [spec_l24Blind.l0] at H
      by_cases c4 : x5_1 < a0_0
      · rw [if_pos c4] at H; have c4b0 := decide_eq_true c4; clear c4; have H' := ak H; clear H; have hcz5_0 := bc_ BK192.out 0; have hcz5_1 := bc_ BK192.out 1; have hfz5_0 := blk_frozen BK192.out 0; have hfz5_1 := blk_frozen BK192.out 1
        go_wp2
        go_loopg [6] k1 (fun kq v6 w' => ∃ (x6_2 : Int), v6 = .int .i64 x6_2 ∧ Aside0 (spec_l24Blind.l1 kq a1 x5_1 x6_2 a0_0 l0_1 = some r) ∧ Aside0 (kq ≤ k1) ∧ Aside0 (w'.heap[gb192]? = some (.cells #[.int .i64 a0_0, (.slice A0_1 l0_1.length c0_1)] 51 (0, 0))) ∧ Aside0 (Below w.heap.size w w'))
        case atStart => exact ⟨(0), (by first | rfl | (simp; done) | (simp [*]; done)), H', ⟨Nat.le_refl _⟩, ⟨bk_ BK192.out⟩, ⟨bs1_ HB.out GE192.out⟩⟩
        case round =>
          clear H'; (try clear p2); (try clear c4); (try clear c4b0); (try clear hcz5_0); (try clear hcz5_1); (try clear hfz5_0); (try clear hfz5_1); (try clear p2); obtain ⟨x6_2, rfl, HA, HK2, BK192, HB⟩ := hrel
          cases gk with
          | zero => exact absurd HA.out (by simp [spec_l24Blind.l1])
          | succ k2 =>
            have H := HA.out; clear HA
            simp only [spec_l24Blind.l1] at H
            by_cases c6 : x6_2 < a0_0
            · rw [if_pos c6] at H; have c6b0 := decide_eq_true c6; clear c6; replace H := Option.bind_eq_some_iff.mp H; obtain ⟨t193, A70, H⟩ := H; have A7 := ak A70; clear A70; replace H := Option.bind_eq_some_iff.mp H; obtain ⟨t194, A80, H⟩ := H; have A8 := ak A80; clear A80
              by_cases c9 : t193 = t194
              · rw [if_pos c9] at H; have c9b0 : (t193 == t194) = true := beq_iff_eq.mpr c9; have c9b1 : (t193 != t194) = false := bne_eq_false_iff_eq.mpr c9; clear c9; have H' := ak H; clear H; have hcz10_0 := bc_ BK192.out 0; have hcz10_1 := bc_ BK192.out 1; have hfz10_0 := blk_frozen BK192.out 0; have hfz10_1 := blk_frozen BK192.out 1
                try go_wp2
                replace BK192 := ak (blk_drew BK192.out); replace HB := ak (below_drew1 HB.out); refine start_ (n := 11) (S := fun w' => w'.cell? ⟨gb192, 0, none⟩ = some (.int .i64 a0_0) ∧ w'.cell? ⟨gb192, 1, none⟩ = some (.slice A0_1 l0_1.length c0_1)) (ds := []) (bm 11 0) (by kernel_rfl) rfl (by kernel_rfl) ⟨(blk_cell BK192.out 0).trans rfl, (blk_cell BK192.out 1).trans rfl⟩ (fun hHeld => ?_); refine with_tabW spec_l24Blind.tab7 spec_l24Blind.bits7 (fun HT_ HW_ => ?_)
                generalize wr.drew = w11 at BK192 HB hHeld ⊢
                refine pv_ 1 ?_; refine pv_ 2 ?_; refine pv_ 3 ?_; refine pv_ 6 ?_; refine pv_ 7 ?_; refine pv_ 8 ?_; refine tv_ 0 hHeld ?_; refine tv_ 5 hHeld ?_; refine one_ (i := 4) (N := some 24) (bm 11 511) rfl rfl (one_of HT_.out (by kernel_rfl)) (by decide) (fun K hK => ?_); refine goesB_ Try.func143 (by kernel_rfl) rfl #[.agg #[.int .i64 a0_0, .slice A0_1 l0_1.length c0_1], .int .i64 a1, .int .i64 x5_1, .int .i64 x6_2] (by rfl) rfl rfl ?_
                with_reducible refine (spec_l24Two.calls a0_0 _ _ l0_1 a1 x5_1 x6_2 t193 _ ?side1 ?side2 A7.out).mono ?_
                (case side1 => exact cb_ HR0_1.out HB.out); (case side2 => exact HC0_1.out); rintro e w12 ⟨rfl, hb⟩; refine ⟨_, rfl, ?_⟩; replace BK192 := ak (blk_below (bk_ BK192.out) hb); replace HB := ak (below_step (bs1_ HB.out GE192.out) hb); (try clear hb); (try clear hb2); (try clear hk); (try clear hi); refine hK.out _ _ ⟨(blk_cell BK192.out 0).trans rfl, (blk_cell BK192.out 1).trans rfl⟩ (fun hHeld => ?_); clear hK K; refine norm_ (a' := ?_) ?_ ?_
                rotate_left
                · show Act.put _ (some 24) _ = _
                  simp only [Act.put, List.setIfInBounds_toArray, List.set_cons_zero, List.set_cons_succ, i64_w, i32_w]
                  rfl
                refine one_ (i := 9) (N := some 29) (bm 11 1023) rfl rfl (one_of HT_.out (by kernel_rfl)) (by decide) (fun K hK => ?_); refine goesB_ Try.func143 (by kernel_rfl) rfl #[.agg #[.int .i64 a0_0, .slice A0_1 l0_1.length c0_1], .int .i64 a1, .int .i64 x6_2, .int .i64 x5_1] (by rfl) rfl rfl ?_
                with_reducible refine (spec_l24Two.calls a0_0 _ _ l0_1 a1 x6_2 x5_1 t194 _ ?side1 ?side2 A8.out).mono ?_
                (case side1 => exact cb_ HR0_1.out HB.out); (case side2 => exact HC0_1.out); rintro e w13 ⟨rfl, hb⟩; refine ⟨_, rfl, ?_⟩; replace BK192 := ak (blk_below (bk_ BK192.out) hb); replace HB := ak (below_step (bs1_ HB.out GE192.out) hb); (try clear hb); (try clear hb2); (try clear hk); (try clear hi); refine hK.out _ _ ⟨(blk_cell BK192.out 0).trans rfl, (blk_cell BK192.out 1).trans rfl⟩ (fun hHeld => ?_); clear hK K; refine norm_ (a' := ?_) ?_ ?_
                rotate_left
                · show Act.put _ (some 29) _ = _
                  simp only [Act.put, List.setIfInBounds_toArray, List.set_cons_zero, List.set_cons_succ, i64_w, i32_w]
                  rfl
                refine pv_ 10 ?_; refine done_ (done_of HT_.out (by kernel_rfl)) ?_
                try go_wp2
                go_loopg [7] k2 (fun kq v7 w' => ∃ (x7_3 : Int), v7 = .int .i64 x7_3 ∧ Aside0 (spec_l24Blind.l2 kq a1 x5_1 x6_2 x7_3 a0_0 l0_1 = some r) ∧ Aside0 (kq ≤ k2) ∧ Aside0 (w'.heap[gb192]? = some (.cells #[.int .i64 a0_0, (.slice A0_1 l0_1.length c0_1)] 51 (0, 0))) ∧ Aside0 (Below w.heap.size w w'))
                case atStart => exact ⟨(0), (by first | rfl | (simp; done) | (simp [*]; done)), H', ⟨Nat.le_refl _⟩, ⟨bk_ BK192.out⟩, ⟨bs1_ HB.out GE192.out⟩⟩
                case round =>
                  clear H'; (try clear c1); (try clear p2); (try clear c4); (try clear c4b0); (try clear c6); (try clear c6b0); (try clear c8); (try clear c9); (try clear c9b0); (try clear c9b1); (try clear hcz10_0); (try clear hcz10_1); (try clear hcz5_0); (try clear hcz5_1); (try clear hfz10_0); (try clear hfz10_1); (try clear hfz5_0); (try clear hfz5_1); (try clear p2); obtain ⟨x7_3, rfl, HA, HK3, BK192, HB⟩ := hrel
                  cases gk with
                  | zero => exact absurd HA.out (by simp [spec_l24Blind.l2])
                  | succ k3 =>
                    have H := HA.out; clear HA
                    simp only [spec_l24Blind.l2] at H
                    by_cases c14 : x7_3 < a0_0
                    · rw [if_pos c14] at H; have c14b0 := decide_eq_true c14; clear c14; replace H := Option.bind_eq_some_iff.mp H; obtain ⟨t195, A150, H⟩ := H; have A15 := ak A150; clear A150; replace H := Option.bind_eq_some_iff.mp H; obtain ⟨t196, A160, H⟩ := H; have A16 := ak A160; clear A160; replace H := Option.bind_eq_some_iff.mp H; obtain ⟨t197, A170, H⟩ := H; have A17 := ak A170; clear A170; replace H := Option.bind_eq_some_iff.mp H; obtain ⟨t198, A180, H⟩ := H; have A18 := ak A180; clear A180
                      by_cases c19 : t196 = t198
                      · rw [if_pos c19] at H; have c19b0 : (t196 == t198) = true := beq_iff_eq.mpr c19; have c19b1 : (t196 != t198) = false := bne_eq_false_iff_eq.mpr c19; clear c19; have H' := ak H; clear H; have hcz20_0 := bc_ BK192.out 0; have hcz20_1 := bc_ BK192.out 1; have hfz20_0 := blk_frozen BK192.out 0; have hfz20_1 := blk_frozen BK192.out 1
                        try go_wp2
                        replace BK192 := ak (blk_drew BK192.out); replace HB := ak (below_drew1 HB.out); refine start_ (n := 19) (S := fun w' => w'.cell? ⟨gb192, 0, none⟩ = some (.int .i64 a0_0) ∧ w'.cell? ⟨gb192, 1, none⟩ = some (.slice A0_1 l0_1.length c0_1)) (ds := []) (bm 19 0) (by kernel_rfl) rfl (by kernel_rfl) ⟨(blk_cell BK192.out 0).trans rfl, (blk_cell BK192.out 1).trans rfl⟩ (fun hHeld => ?_); refine with_tabW spec_l24Blind.tab12 spec_l24Blind.bits12 (fun HT_ HW_ => ?_)
                        generalize wr.drew = w21 at BK192 HB hHeld ⊢
                        refine pv_ 1 ?_; refine pv_ 3 ?_; refine pv_ 4 ?_; refine pv_ 5 ?_; refine pv_ 7 ?_; refine pv_ 10 ?_; refine pv_ 11 ?_; refine pv_ 13 ?_; refine pv_ 14 ?_; refine pv_ 15 ?_; refine tv_ 0 hHeld ?_; refine tv_ 2 hHeld ?_; refine tv_ 9 hHeld ?_; refine tv_ 12 hHeld ?_; refine one_ (i := 6) (N := some 43) (bm 19 65279) rfl rfl (one_of HT_.out (by kernel_rfl)) (by decide) (fun K hK => ?_); refine goesB_ Try.func143 (by kernel_rfl) rfl #[.agg #[.int .i64 a0_0, .slice A0_1 l0_1.length c0_1], .int .i64 a1, .int .i64 x5_1, .int .i64 x6_2] (by rfl) rfl rfl ?_
                        with_reducible refine (spec_l24Two.calls a0_0 _ _ l0_1 a1 x5_1 x6_2 t195 _ ?side1 ?side2 A15.out).mono ?_
                        (case side1 => exact cb_ HR0_1.out HB.out); (case side2 => exact HC0_1.out); rintro e w22 ⟨rfl, hb⟩; refine ⟨_, rfl, ?_⟩; replace BK192 := ak (blk_below (bk_ BK192.out) hb); replace HB := ak (below_step (bs1_ HB.out GE192.out) hb); (try clear hb); (try clear hb2); (try clear hk); (try clear hi); refine hK.out _ _ ⟨(blk_cell BK192.out 0).trans rfl, (blk_cell BK192.out 1).trans rfl⟩ (fun hHeld => ?_); clear hK K; refine norm_ (a' := ?_) ?_ ?_
                        rotate_left
                        · show Act.put _ (some 43) _ = _
                          simp only [Act.put, List.setIfInBounds_toArray, List.set_cons_zero, List.set_cons_succ, i64_w, i32_w]
                          rfl
                        refine one_ (i := 8) (N := some 45) (bm 19 65535) rfl rfl (one_of HT_.out (by kernel_rfl)) (by decide) (fun K hK => ?_); refine goesB_ Try.func143 (by kernel_rfl) rfl #[.agg #[.int .i64 a0_0, .slice A0_1 l0_1.length c0_1], .int .i64 a1, .int .i64 t195, .int .i64 x7_3] (by rfl) rfl rfl ?_
                        with_reducible refine (spec_l24Two.calls a0_0 _ _ l0_1 a1 t195 x7_3 t196 _ ?side1 ?side2 A16.out).mono ?_
                        (case side1 => exact cb_ HR0_1.out HB.out); (case side2 => exact HC0_1.out); rintro e w23 ⟨rfl, hb⟩; refine ⟨_, rfl, ?_⟩; replace BK192 := ak (blk_below (bk_ BK192.out) hb); replace HB := ak (below_step (bs1_ HB.out GE192.out) hb); (try clear hb); (try clear hb2); (try clear hk); (try clear hi); refine hK.out _ _ ⟨(blk_cell BK192.out 0).trans rfl, (blk_cell BK192.out 1).trans rfl⟩ (fun hHeld => ?_); clear hK K; refine norm_ (a' := ?_) ?_ ?_
                        rotate_left
                        · show Act.put _ (some 45) _ = _
                          simp only [Act.put, List.setIfInBounds_toArray, List.set_cons_zero, List.set_cons_succ, i64_w, i32_w]
                          rfl
                        refine one_ (i := 16) (N := some 53) (bm 19 131071) rfl rfl (one_of HT_.out (by kernel_rfl)) (by decide) (fun K hK => ?_); refine goesB_ Try.func143 (by kernel_rfl) rfl #[.agg #[.int .i64 a0_0, .slice A0_1 l0_1.length c0_1], .int .i64 a1, .int .i64 x6_2, .int .i64 x7_3] (by rfl) rfl rfl ?_
                        with_reducible refine (spec_l24Two.calls a0_0 _ _ l0_1 a1 x6_2 x7_3 t197 _ ?side1 ?side2 A17.out).mono ?_
                        (case side1 => exact cb_ HR0_1.out HB.out); (case side2 => exact HC0_1.out); rintro e w24 ⟨rfl, hb⟩; refine ⟨_, rfl, ?_⟩; replace BK192 := ak (blk_below (bk_ BK192.out) hb); replace HB := ak (below_step (bs1_ HB.out GE192.out) hb); (try clear hb); (try clear hb2); (try clear hk); (try clear hi); refine hK.out _ _ ⟨(blk_cell BK192.out 0).trans rfl, (blk_cell BK192.out 1).trans rfl⟩ (fun hHeld => ?_); clear hK K; refine norm_ (a' := ?_) ?_ ?_
                        rotate_left
                        · show Act.put _ (some 53) _ = _
                          simp only [Act.put, List.setIfInBounds_toArray, List.set_cons_zero, List.set_cons_succ, i64_w, i32_w]
                          rfl
                        refine one_ (i := 17) (N := some 54) (bm 19 262143) rfl rfl (one_of HT_.out (by kernel_rfl)) (by decide) (fun K hK => ?_); refine goesB_ Try.func143 (by kernel_rfl) rfl #[.agg #[.int .i64 a0_0, .slice A0_1 l0_1.length c0_1], .int .i64 a1, .int .i64 x5_1, .int .i64 t197] (by rfl) rfl rfl ?_
                        with_reducible refine (spec_l24Two.calls a0_0 _ _ l0_1 a1 x5_1 t197 t198 _ ?side1 ?side2 A18.out).mono ?_
                        (case side1 => exact cb_ HR0_1.out HB.out); (case side2 => exact HC0_1.out); rintro e w25 ⟨rfl, hb⟩; refine ⟨_, rfl, ?_⟩; replace BK192 := ak (blk_below (bk_ BK192.out) hb); replace HB := ak (below_step (bs1_ HB.out GE192.out) hb); (try clear hb); (try clear hb2); (try clear hk); (try clear hi); refine hK.out _ _ ⟨(blk_cell BK192.out 0).trans rfl, (blk_cell BK192.out 1).trans rfl⟩ (fun hHeld => ?_); clear hK K; refine norm_ (a' := ?_) ?_ ?_
                        rotate_left
                        · show Act.put _ (some 54) _ = _
                          simp only [Act.put, List.setIfInBounds_toArray, List.set_cons_zero, List.set_cons_succ, i64_w, i32_w]
                          rfl
                        refine pv_ 18 ?_; refine done_ (done_of HT_.out (by kernel_rfl)) ?_
                        try go_wp2
                        go_roundg k3
                        case measure => have := HK1.out; have := HK2.out; have := HK3.out; omega
                        case rel => exact ⟨(wrap64 (x7_3 + 1)), (by first | rfl | (simp; done) | (simp [*]; done)), H', ⟨by have := HK1.out; have := HK2.out; have := HK3.out; omega⟩, ⟨bk_ BK192.out⟩, ⟨bs1_ HB.out GE192.out⟩⟩
                      rw [if_neg c19] at H; have c19b0 : (t196 == t198) = false := beq_eq_false_iff_ne.mpr c19; have c19b1 : (t196 != t198) = true := bne_iff_ne.mpr c19; obtain rfl := Option.some.inj H; have hcz26_0 := bc_ BK192.out 0; have hcz26_1 := bc_ BK192.out 1; have hfz26_0 := blk_frozen BK192.out 0; have hfz26_1 := blk_frozen BK192.out 1
                      try go_wp2
                      replace BK192 := ak (blk_drew BK192.out); replace HB := ak (below_drew1 HB.out); refine start_ (n := 19) (S := fun w' => w'.cell? ⟨gb192, 0, none⟩ = some (.int .i64 a0_0) ∧ w'.cell? ⟨gb192, 1, none⟩ = some (.slice A0_1 l0_1.length c0_1)) (ds := []) (bm 19 0) (by kernel_rfl) rfl (by kernel_rfl) ⟨(blk_cell BK192.out 0).trans rfl, (blk_cell BK192.out 1).trans rfl⟩ (fun hHeld => ?_); refine with_tabW spec_l24Blind.tab12 spec_l24Blind.bits12 (fun HT_ HW_ => ?_)
                      generalize wr.drew = w27 at BK192 HB hHeld ⊢
                      refine pv_ 1 ?_; refine pv_ 3 ?_; refine pv_ 4 ?_; refine pv_ 5 ?_; refine pv_ 7 ?_; refine pv_ 10 ?_; refine pv_ 11 ?_; refine pv_ 13 ?_; refine pv_ 14 ?_; refine pv_ 15 ?_; refine tv_ 0 hHeld ?_; refine tv_ 2 hHeld ?_; refine tv_ 9 hHeld ?_; refine tv_ 12 hHeld ?_; refine one_ (i := 6) (N := some 43) (bm 19 65279) rfl rfl (one_of HT_.out (by kernel_rfl)) (by decide) (fun K hK => ?_); refine goesB_ Try.func143 (by kernel_rfl) rfl #[.agg #[.int .i64 a0_0, .slice A0_1 l0_1.length c0_1], .int .i64 a1, .int .i64 x5_1, .int .i64 x6_2] (by rfl) rfl rfl ?_
                      with_reducible refine (spec_l24Two.calls a0_0 _ _ l0_1 a1 x5_1 x6_2 t195 _ ?side1 ?side2 A15.out).mono ?_
                      (case side1 => exact cb_ HR0_1.out HB.out); (case side2 => exact HC0_1.out); rintro e w28 ⟨rfl, hb⟩; refine ⟨_, rfl, ?_⟩; replace BK192 := ak (blk_below (bk_ BK192.out) hb); replace HB := ak (below_step (bs1_ HB.out GE192.out) hb); (try clear hb); (try clear hb2); (try clear hk); (try clear hi); refine hK.out _ _ ⟨(blk_cell BK192.out 0).trans rfl, (blk_cell BK192.out 1).trans rfl⟩ (fun hHeld => ?_); clear hK K; refine norm_ (a' := ?_) ?_ ?_
                      rotate_left
                      · show Act.put _ (some 43) _ = _
                        simp only [Act.put, List.setIfInBounds_toArray, List.set_cons_zero, List.set_cons_succ, i64_w, i32_w]
                        rfl
                      refine one_ (i := 8) (N := some 45) (bm 19 65535) rfl rfl (one_of HT_.out (by kernel_rfl)) (by decide) (fun K hK => ?_); refine goesB_ Try.func143 (by kernel_rfl) rfl #[.agg #[.int .i64 a0_0, .slice A0_1 l0_1.length c0_1], .int .i64 a1, .int .i64 t195, .int .i64 x7_3] (by rfl) rfl rfl ?_
                      with_reducible refine (spec_l24Two.calls a0_0 _ _ l0_1 a1 t195 x7_3 t196 _ ?side1 ?side2 A16.out).mono ?_
                      (case side1 => exact cb_ HR0_1.out HB.out); (case side2 => exact HC0_1.out); rintro e w29 ⟨rfl, hb⟩; refine ⟨_, rfl, ?_⟩; replace BK192 := ak (blk_below (bk_ BK192.out) hb); replace HB := ak (below_step (bs1_ HB.out GE192.out) hb); (try clear hb); (try clear hb2); (try clear hk); (try clear hi); refine hK.out _ _ ⟨(blk_cell BK192.out 0).trans rfl, (blk_cell BK192.out 1).trans rfl⟩ (fun hHeld => ?_); clear hK K; refine norm_ (a' := ?_) ?_ ?_
                      rotate_left
                      · show Act.put _ (some 45) _ = _
                        simp only [Act.put, List.setIfInBounds_toArray, List.set_cons_zero, List.set_cons_succ, i64_w, i32_w]
                        rfl
                      refine one_ (i := 16) (N := some 53) (bm 19 131071) rfl rfl (one_of HT_.out (by kernel_rfl)) (by decide) (fun K hK => ?_); refine goesB_ Try.func143 (by kernel_rfl) rfl #[.agg #[.int .i64 a0_0, .slice A0_1 l0_1.length c0_1], .int .i64 a1, .int .i64 x6_2, .int .i64 x7_3] (by rfl) rfl rfl ?_
                      with_reducible refine (spec_l24Two.calls a0_0 _ _ l0_1 a1 x6_2 x7_3 t197 _ ?side1 ?side2 A17.out).mono ?_
                      (case side1 => exact cb_ HR0_1.out HB.out); (case side2 => exact HC0_1.out); rintro e w30 ⟨rfl, hb⟩; refine ⟨_, rfl, ?_⟩; replace BK192 := ak (blk_below (bk_ BK192.out) hb); replace HB := ak (below_step (bs1_ HB.out GE192.out) hb); (try clear hb); (try clear hb2); (try clear hk); (try clear hi); refine hK.out _ _ ⟨(blk_cell BK192.out 0).trans rfl, (blk_cell BK192.out 1).trans rfl⟩ (fun hHeld => ?_); clear hK K; refine norm_ (a' := ?_) ?_ ?_
                      rotate_left
                      · show Act.put _ (some 53) _ = _
                        simp only [Act.put, List.setIfInBounds_toArray, List.set_cons_zero, List.set_cons_succ, i64_w, i32_w]
                        rfl
                      refine one_ (i := 17) (N := some 54) (bm 19 262143) rfl rfl (one_of HT_.out (by kernel_rfl)) (by decide) (fun K hK => ?_); refine goesB_ Try.func143 (by kernel_rfl) rfl #[.agg #[.int .i64 a0_0, .slice A0_1 l0_1.length c0_1], .int .i64 a1, .int .i64 x5_1, .int .i64 t197] (by rfl) rfl rfl ?_
                      with_reducible refine (spec_l24Two.calls a0_0 _ _ l0_1 a1 x5_1 t197 t198 _ ?side1 ?side2 A18.out).mono ?_
                      (case side1 => exact cb_ HR0_1.out HB.out); (case side2 => exact HC0_1.out); rintro e w31 ⟨rfl, hb⟩; refine ⟨_, rfl, ?_⟩; replace BK192 := ak (blk_below (bk_ BK192.out) hb); replace HB := ak (below_step (bs1_ HB.out GE192.out) hb); (try clear hb); (try clear hb2); (try clear hk); (try clear hi); refine hK.out _ _ ⟨(blk_cell BK192.out 0).trans rfl, (blk_cell BK192.out 1).trans rfl⟩ (fun hHeld => ?_); clear hK K; refine norm_ (a' := ?_) ?_ ?_
                      rotate_left
                      · show Act.put _ (some 54) _ = _
                        simp only [Act.put, List.setIfInBounds_toArray, List.set_cons_zero, List.set_cons_succ, i64_w, i32_w]
                        rfl
                      refine pv_ 18 ?_; refine done_ (done_of HT_.out (by kernel_rfl)) ?_
                      try go_wp2
                      go_ret
                      exact fin_ (bs1_ HB.out GE192.out)
                    rw [if_neg c14] at H; have c14b0 := decide_eq_false c14; clear c14; have H' := ak H; clear H; have hcz32_0 := bc_ BK192.out 0; have hcz32_1 := bc_ BK192.out 1; have hfz32_0 := blk_frozen BK192.out 0; have hfz32_1 := blk_frozen BK192.out 1
                    go_wp2
                    go_roundg k3
                    case measure => have := HK1.out; have := HK2.out; have := HK3.out; omega
                    case rel => exact ⟨(wrap64 (x6_2 + 1)), (by first | rfl | (simp; done) | (simp [*]; done)), H', ⟨by have := HK1.out; have := HK2.out; have := HK3.out; omega⟩, ⟨bk_ BK192.out⟩, ⟨bs1_ HB.out GE192.out⟩⟩
              rw [if_neg c9] at H; have c9b0 : (t193 == t194) = false := beq_eq_false_iff_ne.mpr c9; have c9b1 : (t193 != t194) = true := bne_iff_ne.mpr c9; obtain rfl := Option.some.inj H; have hcz33_0 := bc_ BK192.out 0; have hcz33_1 := bc_ BK192.out 1; have hfz33_0 := blk_frozen BK192.out 0; have hfz33_1 := blk_frozen BK192.out 1
              try go_wp2
              replace BK192 := ak (blk_drew BK192.out); replace HB := ak (below_drew1 HB.out); refine start_ (n := 11) (S := fun w' => w'.cell? ⟨gb192, 0, none⟩ = some (.int .i64 a0_0) ∧ w'.cell? ⟨gb192, 1, none⟩ = some (.slice A0_1 l0_1.length c0_1)) (ds := []) (bm 11 0) (by kernel_rfl) rfl (by kernel_rfl) ⟨(blk_cell BK192.out 0).trans rfl, (blk_cell BK192.out 1).trans rfl⟩ (fun hHeld => ?_); refine with_tabW spec_l24Blind.tab7 spec_l24Blind.bits7 (fun HT_ HW_ => ?_)
              generalize wr.drew = w34 at BK192 HB hHeld ⊢
              refine pv_ 1 ?_; refine pv_ 2 ?_; refine pv_ 3 ?_; refine pv_ 6 ?_; refine pv_ 7 ?_; refine pv_ 8 ?_; refine tv_ 0 hHeld ?_; refine tv_ 5 hHeld ?_; refine one_ (i := 4) (N := some 24) (bm 11 511) rfl rfl (one_of HT_.out (by kernel_rfl)) (by decide) (fun K hK => ?_); refine goesB_ Try.func143 (by kernel_rfl) rfl #[.agg #[.int .i64 a0_0, .slice A0_1 l0_1.length c0_1], .int .i64 a1, .int .i64 x5_1, .int .i64 x6_2] (by rfl) rfl rfl ?_
              with_reducible refine (spec_l24Two.calls a0_0 _ _ l0_1 a1 x5_1 x6_2 t193 _ ?side1 ?side2 A7.out).mono ?_
              (case side1 => exact cb_ HR0_1.out HB.out); (case side2 => exact HC0_1.out); rintro e w35 ⟨rfl, hb⟩; refine ⟨_, rfl, ?_⟩; replace BK192 := ak (blk_below (bk_ BK192.out) hb); replace HB := ak (below_step (bs1_ HB.out GE192.out) hb); (try clear hb); (try clear hb2); (try clear hk); (try clear hi); refine hK.out _ _ ⟨(blk_cell BK192.out 0).trans rfl, (blk_cell BK192.out 1).trans rfl⟩ (fun hHeld => ?_); clear hK K; refine norm_ (a' := ?_) ?_ ?_
              rotate_left
              · show Act.put _ (some 24) _ = _
                simp only [Act.put, List.setIfInBounds_toArray, List.set_cons_zero, List.set_cons_succ, i64_w, i32_w]
                rfl
              refine one_ (i := 9) (N := some 29) (bm 11 1023) rfl rfl (one_of HT_.out (by kernel_rfl)) (by decide) (fun K hK => ?_); refine goesB_ Try.func143 (by kernel_rfl) rfl #[.agg #[.int .i64 a0_0, .slice A0_1 l0_1.length c0_1], .int .i64 a1, .int .i64 x6_2, .int .i64 x5_1] (by rfl) rfl rfl ?_
              with_reducible refine (spec_l24Two.calls a0_0 _ _ l0_1 a1 x6_2 x5_1 t194 _ ?side1 ?side2 A8.out).mono ?_
              (case side1 => exact cb_ HR0_1.out HB.out); (case side2 => exact HC0_1.out); rintro e w36 ⟨rfl, hb⟩; refine ⟨_, rfl, ?_⟩; replace BK192 := ak (blk_below (bk_ BK192.out) hb); replace HB := ak (below_step (bs1_ HB.out GE192.out) hb); (try clear hb); (try clear hb2); (try clear hk); (try clear hi); refine hK.out _ _ ⟨(blk_cell BK192.out 0).trans rfl, (blk_cell BK192.out 1).trans rfl⟩ (fun hHeld => ?_); clear hK K; refine norm_ (a' := ?_) ?_ ?_
              rotate_left
              · show Act.put _ (some 29) _ = _
                simp only [Act.put, List.setIfInBounds_toArray, List.set_cons_zero, List.set_cons_succ, i64_w, i32_w]
                rfl
              refine pv_ 10 ?_; refine done_ (done_of HT_.out (by kernel_rfl)) ?_
              try go_wp2
              go_ret
              exact fin_ (bs1_ HB.out GE192.out)
            rw [if_neg c6] at H; have c6b0 := decide_eq_false c6; clear c6; have H' := ak H; clear H; have hcz37_0 := bc_ BK192.out 0; have hcz37_1 := bc_ BK192.out 1; have hfz37_0 := blk_frozen BK192.out 0; have hfz37_1 := blk_frozen BK192.out 1
            go_wp2
            go_roundg k2
            case measure => have := HK1.out; have := HK2.out; omega
            case rel => exact ⟨(wrap64 (x5_1 + 1)), (by first | rfl | (simp; done) | (simp [*]; done)), H', ⟨by have := HK1.out; have := HK2.out; omega⟩, ⟨bk_ BK192.out⟩, ⟨bs1_ HB.out GE192.out⟩⟩
      rw [if_neg c4] at H; have c4b0 := decide_eq_false c4; clear c4; obtain rfl := Option.some.inj H; have hcz38_0 := bc_ BK192.out 0; have hcz38_1 := bc_ BK192.out 1; have hfz38_0 := blk_frozen BK192.out 0; have hfz38_1 := blk_frozen BK192.out 1
      go_wp2
      go_ret
      exact fin_ (bs1_ HB.out GE192.out)

/-! ### spec_WorldOk: function 31 -/
mutual
def spec_WorldOk.j0 : Nat → List (I_Sym) → Bool → Int → List (List Int) → Option (Bool)
  | 0, _, _, _, _ => none
  | k + 1, x0, x23, x200000, x200001 => if x23 = true then (some false) else (spec_WorldOk.l0 k x0 0 x200000 x200001)
def spec_WorldOk.l0 : Nat → List (I_Sym) → Int → Int → List (List Int) → Option (Bool)
  | 0, _, _, _, _ => none
  | k + 1, x0, x5, x200000, x200001 => if x5 < (x0.length : Int) then (if 0 ≤ x5 then (if x5 < (x200001.length : Int) then ((spec_l24Power.f k x200000 ((rd_I_Sym x0 x5).f1)).bind fun t204 => (if ((rd_Ls_i64 x200001 x5).length : Int) = t204 then (spec_WorldOk.l1 k x0 x5 0 x200000 x200001) else (some false))) else (none)) else (none)) else (some true)
def spec_WorldOk.l1 : Nat → List (I_Sym) → Int → Int → Int → List (List Int) → Option (Bool)
  | 0, _, _, _, _, _ => none
  | k + 1, x0, x5, x6, x200000, x200001 => if 0 ≤ x5 then (if x5 < (x200001.length : Int) then (if x6 < ((rd_Ls_i64 x200001 x5).length : Int) then (if 0 ≤ x6 then ((spec_l1In.f (rd (rd_Ls_i64 x200001 x5) x6) 0 (wrap64 (x200000 - 1))).bind fun t208 => (if t208 = true then (spec_WorldOk.l1 k x0 x5 (wrap64 (x6 + 1)) x200000 x200001) else (some false))) else (none)) else (if x5 < (x0.length : Int) then (if (rd_I_Sym x0 x5).f2 = true then ((spec_l24Blind.f k x200000 x200001 x5).bind fun t210 => (if t210 = true then (spec_WorldOk.l0 k x0 (wrap64 (x5 + 1)) x200000 x200001) else (some false))) else (spec_WorldOk.l0 k x0 (wrap64 (x5 + 1)) x200000 x200001)) else (none))) else (none)) else (none)
end
def spec_WorldOk.f (k : Nat) (l0 : List (I_Sym)) (a1_0 : Int) (l1_1 : List (List Int)) : Option (Bool) := (spec_SigOk.f k l0).bind fun t200 => (if t200 = true then ((spec_l1In.f a1_0 1 4).bind fun t201 => (if t201 = true then (spec_WorldOk.j0 k l0 ((l1_1.length : Int) != (l0.length : Int)) a1_0 l1_1) else (spec_WorldOk.j0 k l0 true a1_0 l1_1))) else (spec_WorldOk.j0 k l0 true a1_0 l1_1))
theorem spec_WorldOk.mono_l : ∀ k, (∀ y0 y1 y2 y3, LeO (spec_WorldOk.j0 k y0 y1 y2 y3) (spec_WorldOk.j0 (k + 1) y0 y1 y2 y3)) ∧ (∀ y0 y1 y2 y3, LeO (spec_WorldOk.l0 k y0 y1 y2 y3) (spec_WorldOk.l0 (k + 1) y0 y1 y2 y3)) ∧ (∀ y0 y1 y2 y3 y4, LeO (spec_WorldOk.l1 k y0 y1 y2 y3 y4) (spec_WorldOk.l1 (k + 1) y0 y1 y2 y3 y4))
  | 0 => ⟨fun _ _ _ _ r h => by simp [spec_WorldOk.j0] at h, fun _ _ _ _ r h => by simp [spec_WorldOk.l0] at h, fun _ _ _ _ _ r h => by simp [spec_WorldOk.l1] at h⟩
  | k + 1 => by
    obtain ⟨ih0, ih1, ih2⟩ := spec_WorldOk.mono_l k; refine ⟨?_, ?_, ?_⟩
    · intro y0 y1 y2 y3
      unfold spec_WorldOk.j0
      repeat' first | (with_reducible first | exact ih0 _ _ _ _ | exact ih1 _ _ _ _ | exact ih2 _ _ _ _ _ | exact spec_SigOk.mono _ _ | exact spec_l24Blind.mono _ _ _ _ | exact spec_l24Power.mono _ _ _ | exact LeO.refl _ | exact LeO.none _ | refine LeO.ite ?_ ?_ | refine LeO.bind ?_ (fun _ => ?_)) | exact ih0 _ _ _ _ | exact ih1 _ _ _ _ | exact ih2 _ _ _ _ _ | exact spec_SigOk.mono _ _ | exact spec_l24Blind.mono _ _ _ _ | exact spec_l24Power.mono _ _ _ | exact LeO.none _ | refine LeO.ite ?_ ?_ | refine LeO.bind ?_ (fun _ => ?_)
    · intro y0 y1 y2 y3
      unfold spec_WorldOk.l0
      repeat' first | (with_reducible first | exact ih0 _ _ _ _ | exact ih1 _ _ _ _ | exact ih2 _ _ _ _ _ | exact spec_SigOk.mono _ _ | exact spec_l24Blind.mono _ _ _ _ | exact spec_l24Power.mono _ _ _ | exact LeO.refl _ | exact LeO.none _ | refine LeO.ite ?_ ?_ | refine LeO.bind ?_ (fun _ => ?_)) | exact ih0 _ _ _ _ | exact ih1 _ _ _ _ | exact ih2 _ _ _ _ _ | exact spec_SigOk.mono _ _ | exact spec_l24Blind.mono _ _ _ _ | exact spec_l24Power.mono _ _ _ | exact LeO.none _ | refine LeO.ite ?_ ?_ | refine LeO.bind ?_ (fun _ => ?_)
    · intro y0 y1 y2 y3 y4
      unfold spec_WorldOk.l1
      repeat' first | (with_reducible first | exact ih0 _ _ _ _ | exact ih1 _ _ _ _ | exact ih2 _ _ _ _ _ | exact spec_SigOk.mono _ _ | exact spec_l24Blind.mono _ _ _ _ | exact spec_l24Power.mono _ _ _ | exact LeO.refl _ | exact LeO.none _ | refine LeO.ite ?_ ?_ | refine LeO.bind ?_ (fun _ => ?_)) | exact ih0 _ _ _ _ | exact ih1 _ _ _ _ | exact ih2 _ _ _ _ _ | exact spec_SigOk.mono _ _ | exact spec_l24Blind.mono _ _ _ _ | exact spec_l24Power.mono _ _ _ | exact LeO.none _ | refine LeO.ite ?_ ?_ | refine LeO.bind ?_ (fun _ => ?_)
theorem spec_WorldOk.mono : ∀ a0 a1 a2 k, LeO (spec_WorldOk.f k a0 a1 a2) (spec_WorldOk.f (k + 1) a0 a1 a2) := by
  intro a0 a1 a2 k; obtain ⟨ih0, ih1, ih2⟩ := spec_WorldOk.mono_l k
  unfold spec_WorldOk.f
  repeat' first
      | (with_reducible exact ih0 _ _ _ _)
      | (with_reducible exact ih1 _ _ _ _)
      | (with_reducible exact ih2 _ _ _ _ _)
      | (with_reducible exact spec_SigOk.mono _ _)
      | (with_reducible exact spec_l24Blind.mono _ _ _ _)
      | (with_reducible exact spec_l24Power.mono _ _ _)
      | (with_reducible exact LeO.refl _)
      | (with_reducible exact LeO.none _)
      | (with_reducible refine LeO.ite ?_ ?_)
      | (with_reducible refine LeO.bind ?_ (fun _ => ?_))
      | exact ih0 _ _ _ _
      | exact ih1 _ _ _ _
      | exact ih2 _ _ _ _ _
      | exact spec_SigOk.mono _ _
      | exact spec_l24Blind.mono _ _ _ _
      | exact spec_l24Power.mono _ _ _
      | exact LeO.none _
      | refine LeO.ite ?_ ?_
      | refine LeO.bind ?_ (fun _ => ?_)
set_option maxHeartbeats 8000000 in
set_option maxRecDepth 100000 in
theorem spec_WorldOk.calls (k : Nat) (A0 : Option Addr) (c0 : Nat) (l0 : List (I_Sym)) (a1_0 : Int) (A1_1 : Option Addr) (c1_1 : Nat) (l1_1 : List (List Int)) (r : Bool) (w : World) (hr0 : Kd.C k99 w A0 l0.length l0) (hc0 : l0.length ≤ c0) (hr1_1 : Kd.C (Kd.slice 3 (Kd.int .i64)) w A1_1 l1_1.length l1_1) (hc1_1 : l1_1.length ≤ c1_1) (h : spec_WorldOk.f k l0 a1_0 l1_1 = some r) :
    Calls Try.prog 31 #[.slice A0 l0.length c0, .agg #[.int .i64 a1_0, .slice A1_1 l1_1.length c1_1]] w fun e w' => e = .returned (.bool r) ∧ Below w.heap.size w w' := by
  have hu51 := Try.underlying51; have HR0 := ak hr0; have HC0 := ak hc0; clear hr0 hc0; have HR1_1 := ak hr1_1; have HC1_1 := ak hc1_1; clear hr1_1 hc1_1; have HB := ak (Below.refl w.heap.size w); have H : ((spec_SigOk.f k l0).bind fun t200 => (if t200 = true then ((spec_l1In.f a1_0 1 4).bind fun t201 => (if t201 = true then (spec_WorldOk.j0 k l0 ((l1_1.length : Int) != (l0.length : Int)) a1_0 l1_1) else (spec_WorldOk.j0 k l0 true a1_0 l1_1))) else (spec_WorldOk.j0 k l0 true a1_0 l1_1))) = some r := h; clear h; have HC3 := ak H; clear H
  go_enter Try.func31, Try.ntmps31
  go_upto_region 1 with (first | ((with_reducible refine gate_dst (N := 3) rfl ?_); (try (refine gate_guard (by rfl) ?_; dsimp only)); refine bxe_ (N := 3) (cs := #[.int .i64 a1_0, .slice A1_1 l1_1.length c1_1]) (t := 51) ?_; intro gb199 hg w4 hbox hb; have BK199 := ak (hbox); have GW199 := ak (lg_ hg (bl_ HB.out)); have GE199 := ak (lg_ hg (bl_ HB.out)); replace HB := ak (below_step (bl_ HB.out) hb); clear hb hbox hg))
  repeat (go_quiet (first | ((with_reducible refine gate_dst (N := 3) rfl ?_); (try (refine gate_guard (by rfl) ?_; dsimp only)); refine bxe_ (N := 3) (cs := #[.int .i64 a1_0, .slice A1_1 l1_1.length c1_1]) (t := 51) ?_; intro gb199 hg w4 hbox hb; have BK199 := ak (hbox); have GW199 := ak (lg_ hg (bl_ HB.out)); have GE199 := ak (lg_ hg (bl_ HB.out)); replace HB := ak (below_step (bl_ HB.out) hb); clear hb hbox hg)); go_upto_region 1 with (first | ((with_reducible refine gate_dst (N := 3) rfl ?_); (try (refine gate_guard (by rfl) ?_; dsimp only)); refine bxe_ (N := 3) (cs := #[.int .i64 a1_0, .slice A1_1 l1_1.length c1_1]) (t := 51) ?_; intro gb199 hg w4 hbox hb; have BK199 := ak (hbox); have GW199 := ak (lg_ hg (bl_ HB.out)); have GE199 := ak (lg_ hg (bl_ HB.out)); replace HB := ak (below_step (bl_ HB.out) hb); clear hb hbox hg)))
  (try simp only [Act.put, List.setIfInBounds_toArray, List.set_cons_zero, List.set_cons_succ])
  go_cut [23] (fun v23 wc => ∃ (kq : Nat) (x23_2 : Bool), v23 = .bool x23_2 ∧ Aside0 (spec_WorldOk.j0 kq l0 x23_2 a1_0 l1_1 = some r) ∧ Aside0 (kq ≤ k) ∧ Aside0 (wc.heap[gb199]? = some (.cells #[.int .i64 a1_0, (.slice A1_1 l1_1.length c1_1)] 51 (0, 0))) ∧ Aside0 (Below w.heap.size w wc))
  case first =>
    have H := HC3.out; clear HC3; replace H := Option.bind_eq_some_iff.mp H; obtain ⟨t200, A50, H⟩ := H; have A5 := ak A50; clear A50
    by_cases c6 : t200 = true
    · subst c6; rw [if_pos rfl] at H; replace H := Option.bind_eq_some_iff.mp H; obtain ⟨t201, A70, H⟩ := H; have A7 := ak A70; clear A70
      by_cases c8 : t201 = true
      · subst c8; rw [if_pos rfl] at H; have H' := ak H; clear H
        go_wp2_with (first | (go_at_call 78; (with_reducible refine (spec_SigOk.calls k _ _ l0 true _ ?side1 ?side2 A5.out).mono ?_); (case side1 => exact cb_ HR0.out HB.out); (case side2 => exact HC0.out); rintro e w' ⟨rfl, ⟨nd, rfl⟩⟩; (try first | exact ⟨rfl, _, World.drewN_drewN _ _ _⟩ | exact ⟨rfl, _, Eq.trans (World.drewN_drewN _ _ _) (congrArg (World.drewN _) (Nat.add_assoc _ _ _))⟩); have hcz9_0 := bc_ BK199.out 0; have hcz9_1 := bc_ BK199.out 1; have hfz9_0 := blk_frozen BK199.out 0; have hfz9_1 := blk_frozen BK199.out 1) | (go_at_call 79; (with_reducible refine (spec_l1In.calls a1_0 1 4 true _ A7.out).mono ?_); rintro e w' ⟨rfl, ⟨nd, rfl⟩⟩; (try first | exact ⟨rfl, _, World.drewN_drewN _ _ _⟩ | exact ⟨rfl, _, Eq.trans (World.drewN_drewN _ _ _) (congrArg (World.drewN _) (Nat.add_assoc _ _ _))⟩)))
        repeat (go_quiet (first | (go_at_call 78; (with_reducible refine (spec_SigOk.calls k _ _ l0 true _ ?side1 ?side2 A5.out).mono ?_); (case side1 => exact cb_ HR0.out HB.out); (case side2 => exact HC0.out); rintro e w' ⟨rfl, ⟨nd, rfl⟩⟩; (try first | exact ⟨rfl, _, World.drewN_drewN _ _ _⟩ | exact ⟨rfl, _, Eq.trans (World.drewN_drewN _ _ _) (congrArg (World.drewN _) (Nat.add_assoc _ _ _))⟩); have hcz9_0 := bc_ BK199.out 0; have hcz9_1 := bc_ BK199.out 1; have hfz9_0 := blk_frozen BK199.out 0; have hfz9_1 := blk_frozen BK199.out 1) | (go_at_call 79; (with_reducible refine (spec_l1In.calls a1_0 1 4 true _ A7.out).mono ?_); rintro e w' ⟨rfl, ⟨nd, rfl⟩⟩; (try first | exact ⟨rfl, _, World.drewN_drewN _ _ _⟩ | exact ⟨rfl, _, Eq.trans (World.drewN_drewN _ _ _) (congrArg (World.drewN _) (Nat.add_assoc _ _ _))⟩))); try go_wp2_with (first | (go_at_call 78; (with_reducible refine (spec_SigOk.calls k _ _ l0 true _ ?side1 ?side2 A5.out).mono ?_); (case side1 => exact cb_ HR0.out HB.out); (case side2 => exact HC0.out); rintro e w' ⟨rfl, ⟨nd, rfl⟩⟩; (try first | exact ⟨rfl, _, World.drewN_drewN _ _ _⟩ | exact ⟨rfl, _, Eq.trans (World.drewN_drewN _ _ _) (congrArg (World.drewN _) (Nat.add_assoc _ _ _))⟩); have hcz9_0 := bc_ BK199.out 0; have hcz9_1 := bc_ BK199.out 1; have hfz9_0 := blk_frozen BK199.out 0; have hfz9_1 := blk_frozen BK199.out 1) | (go_at_call 79; (with_reducible refine (spec_l1In.calls a1_0 1 4 true _ A7.out).mono ?_); rintro e w' ⟨rfl, ⟨nd, rfl⟩⟩; (try first | exact ⟨rfl, _, World.drewN_drewN _ _ _⟩ | exact ⟨rfl, _, Eq.trans (World.drewN_drewN _ _ _) (congrArg (World.drewN _) (Nat.add_assoc _ _ _))⟩))))
        go_meet
        case rel => exact ⟨_, (((l1_1.length : Int) != (l0.length : Int))), (by first | rfl | (simp; done) | (simp [*]; done)), H', ⟨by first | omega | exact Nat.le_refl _⟩, ⟨bk_ BK199.out⟩, ⟨bs1_ HB.out GE199.out⟩⟩
      replace c8 := Bool.eq_false_iff.mpr c8; subst c8; rw [if_neg (show ¬ (false = true) by decide)] at H; have H' := ak H; clear H
      go_wp2_with (first | (go_at_call 78; (with_reducible refine (spec_SigOk.calls k _ _ l0 true _ ?side1 ?side2 A5.out).mono ?_); (case side1 => exact cb_ HR0.out HB.out); (case side2 => exact HC0.out); rintro e w' ⟨rfl, ⟨nd, rfl⟩⟩; (try first | exact ⟨rfl, _, World.drewN_drewN _ _ _⟩ | exact ⟨rfl, _, Eq.trans (World.drewN_drewN _ _ _) (congrArg (World.drewN _) (Nat.add_assoc _ _ _))⟩); have hcz10_0 := bc_ BK199.out 0; have hcz10_1 := bc_ BK199.out 1; have hfz10_0 := blk_frozen BK199.out 0; have hfz10_1 := blk_frozen BK199.out 1) | (go_at_call 79; (with_reducible refine (spec_l1In.calls a1_0 1 4 false _ A7.out).mono ?_); rintro e w' ⟨rfl, ⟨nd, rfl⟩⟩; (try first | exact ⟨rfl, _, World.drewN_drewN _ _ _⟩ | exact ⟨rfl, _, Eq.trans (World.drewN_drewN _ _ _) (congrArg (World.drewN _) (Nat.add_assoc _ _ _))⟩)))
      repeat (go_quiet (first | (go_at_call 78; (with_reducible refine (spec_SigOk.calls k _ _ l0 true _ ?side1 ?side2 A5.out).mono ?_); (case side1 => exact cb_ HR0.out HB.out); (case side2 => exact HC0.out); rintro e w' ⟨rfl, ⟨nd, rfl⟩⟩; (try first | exact ⟨rfl, _, World.drewN_drewN _ _ _⟩ | exact ⟨rfl, _, Eq.trans (World.drewN_drewN _ _ _) (congrArg (World.drewN _) (Nat.add_assoc _ _ _))⟩); have hcz10_0 := bc_ BK199.out 0; have hcz10_1 := bc_ BK199.out 1; have hfz10_0 := blk_frozen BK199.out 0; have hfz10_1 := blk_frozen BK199.out 1) | (go_at_call 79; (with_reducible refine (spec_l1In.calls a1_0 1 4 false _ A7.out).mono ?_); rintro e w' ⟨rfl, ⟨nd, rfl⟩⟩; (try first | exact ⟨rfl, _, World.drewN_drewN _ _ _⟩ | exact ⟨rfl, _, Eq.trans (World.drewN_drewN _ _ _) (congrArg (World.drewN _) (Nat.add_assoc _ _ _))⟩))); try go_wp2_with (first | (go_at_call 78; (with_reducible refine (spec_SigOk.calls k _ _ l0 true _ ?side1 ?side2 A5.out).mono ?_); (case side1 => exact cb_ HR0.out HB.out); (case side2 => exact HC0.out); rintro e w' ⟨rfl, ⟨nd, rfl⟩⟩; (try first | exact ⟨rfl, _, World.drewN_drewN _ _ _⟩ | exact ⟨rfl, _, Eq.trans (World.drewN_drewN _ _ _) (congrArg (World.drewN _) (Nat.add_assoc _ _ _))⟩); have hcz10_0 := bc_ BK199.out 0; have hcz10_1 := bc_ BK199.out 1; have hfz10_0 := blk_frozen BK199.out 0; have hfz10_1 := blk_frozen BK199.out 1) | (go_at_call 79; (with_reducible refine (spec_l1In.calls a1_0 1 4 false _ A7.out).mono ?_); rintro e w' ⟨rfl, ⟨nd, rfl⟩⟩; (try first | exact ⟨rfl, _, World.drewN_drewN _ _ _⟩ | exact ⟨rfl, _, Eq.trans (World.drewN_drewN _ _ _) (congrArg (World.drewN _) (Nat.add_assoc _ _ _))⟩))))
      go_meet
      case rel => exact ⟨_, (true), (by first | rfl | (simp; done) | (simp [*]; done)), H', ⟨by first | omega | exact Nat.le_refl _⟩, ⟨bk_ BK199.out⟩, ⟨bs1_ HB.out GE199.out⟩⟩
    replace c6 := Bool.eq_false_iff.mpr c6; subst c6; rw [if_neg (show ¬ (false = true) by decide)] at H; have H' := ak H; clear H
    go_wp2_with (first | (go_at_call 78; (with_reducible refine (spec_SigOk.calls k _ _ l0 false _ ?side1 ?side2 A5.out).mono ?_); (case side1 => exact cb_ HR0.out HB.out); (case side2 => exact HC0.out); rintro e w' ⟨rfl, ⟨nd, rfl⟩⟩; (try first | exact ⟨rfl, _, World.drewN_drewN _ _ _⟩ | exact ⟨rfl, _, Eq.trans (World.drewN_drewN _ _ _) (congrArg (World.drewN _) (Nat.add_assoc _ _ _))⟩)))
    repeat (go_quiet (first | (go_at_call 78; (with_reducible refine (spec_SigOk.calls k _ _ l0 false _ ?side1 ?side2 A5.out).mono ?_); (case side1 => exact cb_ HR0.out HB.out); (case side2 => exact HC0.out); rintro e w' ⟨rfl, ⟨nd, rfl⟩⟩; (try first | exact ⟨rfl, _, World.drewN_drewN _ _ _⟩ | exact ⟨rfl, _, Eq.trans (World.drewN_drewN _ _ _) (congrArg (World.drewN _) (Nat.add_assoc _ _ _))⟩))); try go_wp2_with (first | (go_at_call 78; (with_reducible refine (spec_SigOk.calls k _ _ l0 false _ ?side1 ?side2 A5.out).mono ?_); (case side1 => exact cb_ HR0.out HB.out); (case side2 => exact HC0.out); rintro e w' ⟨rfl, ⟨nd, rfl⟩⟩; (try first | exact ⟨rfl, _, World.drewN_drewN _ _ _⟩ | exact ⟨rfl, _, Eq.trans (World.drewN_drewN _ _ _) (congrArg (World.drewN _) (Nat.add_assoc _ _ _))⟩))))
    go_meet
    case rel => exact ⟨_, (true), (by first | rfl | (simp; done) | (simp [*]; done)), H', ⟨by first | omega | exact Nat.le_refl _⟩, ⟨bk_ BK199.out⟩, ⟨bs1_ HB.out GE199.out⟩⟩
  case rest =>
    clear HC3; (try clear c1); (try clear p2); (try clear c3); (try clear c6); (try clear c8); (try clear hcz10_0); (try clear hcz10_1); (try clear hcz9_0); (try clear hcz9_1); (try clear hfz10_0); (try clear hfz10_1); (try clear hfz9_0); (try clear hfz9_1); obtain ⟨kq, x23_2, rfl, HA, HJ2, BK199, HB⟩ := hcut
    cases kq with
    | zero => exact absurd HA.out (by simp [spec_WorldOk.j0])
    | succ kj2 =>
      have H := HA.out; clear HA
      simp only [spec_WorldOk.j0] at H
      by_cases c11 : x23_2 = true
      · subst c11; rw [if_pos rfl] at H; obtain rfl := Option.some.inj H
        go_wp2
        repeat (go_quiet (fail); try go_wp2)
        go_ret
        exact fin_ (bs1_ HB.out GE199.out)
      replace c11 := Bool.eq_false_iff.mpr c11; subst c11; rw [if_neg (show ¬ (false = true) by decide)] at H; have H' := ak H; clear H
      go_wp2
      repeat (go_quiet (fail); try go_wp2)
      go_loopg [5] kj2 (fun kq v5 w' => ∃ (x5_2 : Int), v5 = .int .i64 x5_2 ∧ Aside0 (spec_WorldOk.l0 kq l0 x5_2 a1_0 l1_1 = some r) ∧ Aside0 (kq ≤ kj2) ∧ Aside0 (w'.heap[gb199]? = some (.cells #[.int .i64 a1_0, (.slice A1_1 l1_1.length c1_1)] 51 (0, 0))) ∧ Aside0 (Below w.heap.size w w'))
      case atStart => exact ⟨(0), (by first | rfl | (simp; done) | (simp [*]; done)), H', ⟨Nat.le_refl _⟩, ⟨bk_ BK199.out⟩, ⟨bs1_ HB.out GE199.out⟩⟩
      case round =>
        clear H'; (try clear c1); (try clear p2); (try clear c3); (try clear c6); (try clear c8); (try clear c11); (try clear hcz10_0); (try clear hcz10_1); (try clear hcz9_0); (try clear hcz9_1); (try clear hfz10_0); (try clear hfz10_1); (try clear hfz9_0); (try clear hfz9_1); (try clear p2); obtain ⟨x5_2, rfl, HA, HK2, BK199, HB⟩ := hrel
        cases gk with
        | zero => exact absurd HA.out (by simp [spec_WorldOk.l0])
        | succ k2 =>
          have H := HA.out; clear HA
          simp only [spec_WorldOk.l0] at H
          by_cases c12 : x5_2 < (l0.length : Int)
          · rw [if_pos c12] at H; have c12b0 := decide_eq_true c12; clear c12
            by_cases c13 : 0 ≤ x5_2
            · rw [if_pos c13] at H; have c13b0 := decide_eq_true c13; clear c13
              by_cases c14 : x5_2 < (l1_1.length : Int)
              · rw [if_pos c14] at H; have c14b0 := decide_eq_true c14; clear c14; replace H := Option.bind_eq_some_iff.mp H; obtain ⟨t204, A150, H⟩ := H; have A15 := ak A150; clear A150
                by_cases c16 : ((rd_Ls_i64 l1_1 x5_2).length : Int) = t204
                · rw [if_pos c16] at H; have c16b0 : (((rd_Ls_i64 l1_1 x5_2).length : Int) == t204) = true := beq_iff_eq.mpr c16; have c16b1 : (((rd_Ls_i64 l1_1 x5_2).length : Int) != t204) = false := bne_eq_false_iff_eq.mpr c16; clear c16; have H' := ak H; clear H; have hcz17_0 := bc_ BK199.out 0; have hcz17_1 := bc_ BK199.out 1; have hfz17_0 := blk_frozen BK199.out 0; have hfz17_1 := blk_frozen BK199.out 1; have p202 : 0 ≤ (x5_2 : Int) := as_; have q202 : x5_2 < (l1_1.length : Int) := as_; obtain ⟨ad202, A202_0, c202_0, e202, hx202_0, hl202_0, hi202_0⟩ := at_L7 HR1_1.out x5_2 p202 q202
                  cases e202
                  replace hx202_0 := hbc_ HB.out hx202_0; have HR202_0 := ak hi202_0; have HC202_0 := ak hl202_0; clear hi202_0 hl202_0; replace p202 := eq_true p202; replace q202 := eq_true q202; have p203 : 0 ≤ (x5_2 : Int) := as_; have q203 : x5_2 < (l0.length : Int) := as_; obtain ⟨ad203, e203, hx203_0, hx203_1, hx203_2⟩ := at_T99 HR0.out x5_2 p203 q203
                  cases e203
                  replace hx203_0 := hbc_ HB.out hx203_0; replace hx203_1 := hbc_ HB.out hx203_1; replace hx203_2 := hbc_ HB.out hx203_2; replace p203 := eq_true p203; replace q203 := eq_true q203
                  go_wp2_with (first | (go_at_call 84; (with_reducible refine (spec_l24Power.calls k2 a1_0 ((rd_I_Sym l0 x5_2).f1) t204 _ A15.out).mono ?_); rintro e w' ⟨rfl, ⟨nd, rfl⟩⟩; (try first | exact ⟨rfl, _, World.drewN_drewN _ _ _⟩ | exact ⟨rfl, _, Eq.trans (World.drewN_drewN _ _ _) (congrArg (World.drewN _) (Nat.add_assoc _ _ _))⟩)))
                  repeat (go_quiet (first | (go_at_call 84; (with_reducible refine (spec_l24Power.calls k2 a1_0 ((rd_I_Sym l0 x5_2).f1) t204 _ A15.out).mono ?_); rintro e w' ⟨rfl, ⟨nd, rfl⟩⟩; (try first | exact ⟨rfl, _, World.drewN_drewN _ _ _⟩ | exact ⟨rfl, _, Eq.trans (World.drewN_drewN _ _ _) (congrArg (World.drewN _) (Nat.add_assoc _ _ _))⟩))); try go_wp2_with (first | (go_at_call 84; (with_reducible refine (spec_l24Power.calls k2 a1_0 ((rd_I_Sym l0 x5_2).f1) t204 _ A15.out).mono ?_); rintro e w' ⟨rfl, ⟨nd, rfl⟩⟩; (try first | exact ⟨rfl, _, World.drewN_drewN _ _ _⟩ | exact ⟨rfl, _, Eq.trans (World.drewN_drewN _ _ _) (congrArg (World.drewN _) (Nat.add_assoc _ _ _))⟩))))
                  go_loopg [6] k2 (fun kq v6 w' => ∃ (x6_3 : Int), v6 = .int .i64 x6_3 ∧ Aside0 (spec_WorldOk.l1 kq l0 x5_2 x6_3 a1_0 l1_1 = some r) ∧ Aside0 (kq ≤ k2) ∧ Aside0 (w'.heap[gb199]? = some (.cells #[.int .i64 a1_0, (.slice (some ad202) l1_1.length c1_1)] 51 (0, 0))) ∧ Aside0 (Below w.heap.size w w'))
                  case atStart => exact ⟨(0), (by first | rfl | (simp; done) | (simp [*]; done)), H', ⟨Nat.le_refl _⟩, ⟨bk_ BK199.out⟩, ⟨bs1_ HB.out GE199.out⟩⟩
                  case round =>
                    clear H'; (try clear c1); (try clear c2); (try clear p2); (try clear q2); (try clear hx2); (try clear c3); (try clear c6); (try clear c8); (try clear c11); (try clear c12); (try clear c12b0); (try clear c13); (try clear c13b0); (try clear c14); (try clear c14b0); (try clear c16); (try clear c16b0); (try clear c16b1); (try clear hcz10_0); (try clear hcz10_1); (try clear hcz17_0); (try clear hcz17_1); (try clear hcz9_0); (try clear hcz9_1); (try clear hfz10_0); (try clear hfz10_1); (try clear hfz17_0); (try clear hfz17_1); (try clear hfz9_0); (try clear hfz9_1); (try clear hx202_0); (try clear hx203_0); (try clear hx203_1); (try clear hx203_2); (try clear p2); (try clear p202); (try clear p203); (try clear q202); (try clear q203); obtain ⟨x6_3, rfl, HA, HK3, BK199, HB⟩ := hrel
                    cases gk with
                    | zero => exact absurd HA.out (by simp [spec_WorldOk.l1])
                    | succ k3 =>
                      have H := HA.out; clear HA
                      simp only [spec_WorldOk.l1] at H
                      by_cases c18 : 0 ≤ x5_2
                      · rw [if_pos c18] at H; have c18b0 := decide_eq_true c18; clear c18
                        by_cases c19 : x5_2 < (l1_1.length : Int)
                        · rw [if_pos c19] at H; have c19b0 := decide_eq_true c19; clear c19
                          by_cases c20 : x6_3 < ((rd_Ls_i64 l1_1 x5_2).length : Int)
                          · rw [if_pos c20] at H; have c20b0 := decide_eq_true c20; clear c20
                            by_cases c21 : 0 ≤ x6_3
                            · rw [if_pos c21] at H; have c21b0 := decide_eq_true c21; clear c21; replace H := Option.bind_eq_some_iff.mp H; obtain ⟨t208, A220, H⟩ := H; have A22 := ak A220; clear A220
                              by_cases c23 : t208 = true
                              · subst c23; rw [if_pos rfl] at H; have H' := ak H; clear H; have hcz24_0 := bc_ BK199.out 0; have hcz24_1 := bc_ BK199.out 1; have hfz24_0 := blk_frozen BK199.out 0; have hfz24_1 := blk_frozen BK199.out 1; have p205 : 0 ≤ (x5_2 : Int) := as_; have q205 : x5_2 < (l1_1.length : Int) := as_; obtain ⟨ad205, A205_0, c205_0, e205, hx205_0, hl205_0, hi205_0⟩ := at_L7 HR1_1.out x5_2 p205 q205; obtain rfl : ad202 = ad205 := (by injection e205); replace hx205_0 := hbc_ HB.out hx205_0; have HR205_0 := ak hi205_0; have HC205_0 := ak hl205_0; clear hi205_0 hl205_0; replace p205 := eq_true p205; replace q205 := eq_true q205; have p206 : 0 ≤ (x5_2 : Int) := as_; have q206 : x5_2 < (l1_1.length : Int) := as_; obtain ⟨ad206, A206_0, c206_0, e206, hx206_0, hl206_0, hi206_0⟩ := at_L7 HR1_1.out x5_2 p206 q206; obtain rfl : ad202 = ad206 := (by injection e206); replace hx206_0 := hbc_ HB.out hx206_0; have HR206_0 := ak hi206_0; have HC206_0 := ak hl206_0; clear hi206_0 hl206_0; replace p206 := eq_true p206; replace q206 := eq_true q206; have ea_ := Option.some.inj (hx205_0.symm.trans hx206_0)
                                injection ea_ with ea_ en_ ec_
                                subst ea_; subst ec_; clear en_; have p207 : 0 ≤ (x6_3 : Int) := as_; have q207 : x6_3 < ((rd_Ls_i64 l1_1 x5_2).length : Int) := as_; obtain ⟨ad207, e207, hx207_0⟩ := Kd.at_int HR206_0.out x6_3 p207 q207
                                cases e207
                                replace hx207_0 := hbc_ HB.out hx207_0; replace p207 := eq_true p207; replace q207 := eq_true q207
                                go_wp2_with (first | (go_at_call 79; (with_reducible refine (spec_l1In.calls (rd (rd_Ls_i64 l1_1 x5_2) x6_3) 0 (wrap64 (a1_0 - 1)) true _ A22.out).mono ?_); rintro e w' ⟨rfl, ⟨nd, rfl⟩⟩; (try first | exact ⟨rfl, _, World.drewN_drewN _ _ _⟩ | exact ⟨rfl, _, Eq.trans (World.drewN_drewN _ _ _) (congrArg (World.drewN _) (Nat.add_assoc _ _ _))⟩)))
                                repeat (go_quiet (first | (go_at_call 79; (with_reducible refine (spec_l1In.calls (rd (rd_Ls_i64 l1_1 x5_2) x6_3) 0 (wrap64 (a1_0 - 1)) true _ A22.out).mono ?_); rintro e w' ⟨rfl, ⟨nd, rfl⟩⟩; (try first | exact ⟨rfl, _, World.drewN_drewN _ _ _⟩ | exact ⟨rfl, _, Eq.trans (World.drewN_drewN _ _ _) (congrArg (World.drewN _) (Nat.add_assoc _ _ _))⟩))); try go_wp2_with (first | (go_at_call 79; (with_reducible refine (spec_l1In.calls (rd (rd_Ls_i64 l1_1 x5_2) x6_3) 0 (wrap64 (a1_0 - 1)) true _ A22.out).mono ?_); rintro e w' ⟨rfl, ⟨nd, rfl⟩⟩; (try first | exact ⟨rfl, _, World.drewN_drewN _ _ _⟩ | exact ⟨rfl, _, Eq.trans (World.drewN_drewN _ _ _) (congrArg (World.drewN _) (Nat.add_assoc _ _ _))⟩))))
                                go_roundg k3
                                case measure => have := HJ2.out; have := HK2.out; have := HK3.out; omega
                                case rel => exact ⟨(wrap64 (x6_3 + 1)), (by first | rfl | (simp; done) | (simp [*]; done)), H', ⟨by have := HJ2.out; have := HK2.out; have := HK3.out; omega⟩, ⟨bk_ BK199.out⟩, ⟨bs1_ HB.out GE199.out⟩⟩
                              replace c23 := Bool.eq_false_iff.mpr c23; subst c23; rw [if_neg (show ¬ (false = true) by decide)] at H; obtain rfl := Option.some.inj H; have hcz25_0 := bc_ BK199.out 0; have hcz25_1 := bc_ BK199.out 1; have hfz25_0 := blk_frozen BK199.out 0; have hfz25_1 := blk_frozen BK199.out 1; have p205 : 0 ≤ (x5_2 : Int) := as_; have q205 : x5_2 < (l1_1.length : Int) := as_; obtain ⟨ad205, A205_0, c205_0, e205, hx205_0, hl205_0, hi205_0⟩ := at_L7 HR1_1.out x5_2 p205 q205; obtain rfl : ad202 = ad205 := (by injection e205); replace hx205_0 := hbc_ HB.out hx205_0; have HR205_0 := ak hi205_0; have HC205_0 := ak hl205_0; clear hi205_0 hl205_0; replace p205 := eq_true p205; replace q205 := eq_true q205; have p206 : 0 ≤ (x5_2 : Int) := as_; have q206 : x5_2 < (l1_1.length : Int) := as_; obtain ⟨ad206, A206_0, c206_0, e206, hx206_0, hl206_0, hi206_0⟩ := at_L7 HR1_1.out x5_2 p206 q206; obtain rfl : ad202 = ad206 := (by injection e206); replace hx206_0 := hbc_ HB.out hx206_0; have HR206_0 := ak hi206_0; have HC206_0 := ak hl206_0; clear hi206_0 hl206_0; replace p206 := eq_true p206; replace q206 := eq_true q206; have ea_ := Option.some.inj (hx205_0.symm.trans hx206_0)
                              injection ea_ with ea_ en_ ec_
                              subst ea_; subst ec_; clear en_; have p207 : 0 ≤ (x6_3 : Int) := as_; have q207 : x6_3 < ((rd_Ls_i64 l1_1 x5_2).length : Int) := as_; obtain ⟨ad207, e207, hx207_0⟩ := Kd.at_int HR206_0.out x6_3 p207 q207
                              cases e207
                              replace hx207_0 := hbc_ HB.out hx207_0; replace p207 := eq_true p207; replace q207 := eq_true q207
                              go_wp2_with (first | (go_at_call 79; (with_reducible refine (spec_l1In.calls (rd (rd_Ls_i64 l1_1 x5_2) x6_3) 0 (wrap64 (a1_0 - 1)) false _ A22.out).mono ?_); rintro e w' ⟨rfl, ⟨nd, rfl⟩⟩; (try first | exact ⟨rfl, _, World.drewN_drewN _ _ _⟩ | exact ⟨rfl, _, Eq.trans (World.drewN_drewN _ _ _) (congrArg (World.drewN _) (Nat.add_assoc _ _ _))⟩)))
                              repeat (go_quiet (first | (go_at_call 79; (with_reducible refine (spec_l1In.calls (rd (rd_Ls_i64 l1_1 x5_2) x6_3) 0 (wrap64 (a1_0 - 1)) false _ A22.out).mono ?_); rintro e w' ⟨rfl, ⟨nd, rfl⟩⟩; (try first | exact ⟨rfl, _, World.drewN_drewN _ _ _⟩ | exact ⟨rfl, _, Eq.trans (World.drewN_drewN _ _ _) (congrArg (World.drewN _) (Nat.add_assoc _ _ _))⟩))); try go_wp2_with (first | (go_at_call 79; (with_reducible refine (spec_l1In.calls (rd (rd_Ls_i64 l1_1 x5_2) x6_3) 0 (wrap64 (a1_0 - 1)) false _ A22.out).mono ?_); rintro e w' ⟨rfl, ⟨nd, rfl⟩⟩; (try first | exact ⟨rfl, _, World.drewN_drewN _ _ _⟩ | exact ⟨rfl, _, Eq.trans (World.drewN_drewN _ _ _) (congrArg (World.drewN _) (Nat.add_assoc _ _ _))⟩))))
                              go_ret
                              exact fin_ (bs1_ HB.out GE199.out)
                            rw [if_neg c21] at H; exact absurd H (by simp)
                          rw [if_neg c20] at H; have c20b0 := decide_eq_false c20; clear c20
                          by_cases c26 : x5_2 < (l0.length : Int)
                          · rw [if_pos c26] at H; have c26b0 := decide_eq_true c26; clear c26; obtain ⟨bq27, hbq27⟩ : ∃ b_ : Bool, b_ = ((rd_I_Sym l0 x5_2).f2) := ⟨_, rfl⟩; replace H : (if bq27 = true then ((spec_l24Blind.f k3 a1_0 l1_1 x5_2).bind fun t210 => (if t210 = true then (spec_WorldOk.l0 k3 l0 (wrap64 (x5_2 + 1)) a1_0 l1_1) else (some false))) else (spec_WorldOk.l0 k3 l0 (wrap64 (x5_2 + 1)) a1_0 l1_1)) = some r := by rw [← hbq27] at H; exact H
                            have Nbq27 := ak hbq27; clear hbq27
                            by_cases c28 : bq27 = true
                            · subst c28; rw [if_pos rfl] at H; replace H := Option.bind_eq_some_iff.mp H; obtain ⟨t210, A290, H⟩ := H; have A29 := ak A290; clear A290
                              by_cases c30 : t210 = true
                              · subst c30; rw [if_pos rfl] at H; have H' := ak H; clear H; have hcz31_0 := bc_ BK199.out 0; have hcz31_1 := bc_ BK199.out 1; have hfz31_0 := blk_frozen BK199.out 0; have hfz31_1 := blk_frozen BK199.out 1; have p205 : 0 ≤ (x5_2 : Int) := as_; have q205 : x5_2 < (l1_1.length : Int) := as_; obtain ⟨ad205, A205_0, c205_0, e205, hx205_0, hl205_0, hi205_0⟩ := at_L7 HR1_1.out x5_2 p205 q205; obtain rfl : ad202 = ad205 := (by injection e205); replace hx205_0 := hbc_ HB.out hx205_0; have HR205_0 := ak hi205_0; have HC205_0 := ak hl205_0; clear hi205_0 hl205_0; replace p205 := eq_true p205; replace q205 := eq_true q205; have p209 : 0 ≤ (x5_2 : Int) := as_; have q209 : x5_2 < (l0.length : Int) := as_; obtain ⟨ad209, e209, hx209_0, hx209_1, hx209_2⟩ := at_T99 HR0.out x5_2 p209 q209; (try rw [← Nbq27.out] at hx209_2); (try rw [← Nbq27.out] at hw209_2); obtain rfl : ad203 = ad209 := (by injection e209); replace hx209_0 := hbc_ HB.out hx209_0; replace hx209_1 := hbc_ HB.out hx209_1; replace hx209_2 := hbc_ HB.out hx209_2; replace p209 := eq_true p209; replace q209 := eq_true q209
                                go_wp2_with (first | (go_at_call 85; (with_reducible refine (spec_l24Blind.calls k3 a1_0 _ _ l1_1 x5_2 true _ ?side1 ?side2 A29.out).mono ?_); (case side1 => exact cb_ HR1_1.out HB.out); (case side2 => exact HC1_1.out); rintro e w32 ⟨rfl, hb⟩; replace BK199 := ak (blk_below (bk_ BK199.out) hb); replace HB := ak (below_step (bs1_ HB.out GE199.out) hb); (try clear hb); (try clear hb2); (try clear hk); (try clear hi)))
                                repeat (go_quiet (first | (go_at_call 85; (with_reducible refine (spec_l24Blind.calls k3 a1_0 _ _ l1_1 x5_2 true _ ?side1 ?side2 A29.out).mono ?_); (case side1 => exact cb_ HR1_1.out HB.out); (case side2 => exact HC1_1.out); rintro e w32 ⟨rfl, hb⟩; replace BK199 := ak (blk_below (bk_ BK199.out) hb); replace HB := ak (below_step (bs1_ HB.out GE199.out) hb); (try clear hb); (try clear hb2); (try clear hk); (try clear hi))); try go_wp2_with (first | (go_at_call 85; (with_reducible refine (spec_l24Blind.calls k3 a1_0 _ _ l1_1 x5_2 true _ ?side1 ?side2 A29.out).mono ?_); (case side1 => exact cb_ HR1_1.out HB.out); (case side2 => exact HC1_1.out); rintro e w32 ⟨rfl, hb⟩; replace BK199 := ak (blk_below (bk_ BK199.out) hb); replace HB := ak (below_step (bs1_ HB.out GE199.out) hb); (try clear hb); (try clear hb2); (try clear hk); (try clear hi))))
                                go_roundg k3
                                case measure => have := HJ2.out; have := HK2.out; have := HK3.out; omega
                                case rel => exact ⟨(wrap64 (x5_2 + 1)), (by first | rfl | (simp; done) | (simp [*]; done)), H', ⟨by have := HJ2.out; have := HK2.out; have := HK3.out; omega⟩, ⟨bk_ BK199.out⟩, ⟨bs1_ HB.out GE199.out⟩⟩
                              replace c30 := Bool.eq_false_iff.mpr c30; subst c30; rw [if_neg (show ¬ (false = true) by decide)] at H; obtain rfl := Option.some.inj H; have hcz33_0 := bc_ BK199.out 0; have hcz33_1 := bc_ BK199.out 1; have hfz33_0 := blk_frozen BK199.out 0; have hfz33_1 := blk_frozen BK199.out 1; have p205 : 0 ≤ (x5_2 : Int) := as_; have q205 : x5_2 < (l1_1.length : Int) := as_; obtain ⟨ad205, A205_0, c205_0, e205, hx205_0, hl205_0, hi205_0⟩ := at_L7 HR1_1.out x5_2 p205 q205; obtain rfl : ad202 = ad205 := (by injection e205); replace hx205_0 := hbc_ HB.out hx205_0; have HR205_0 := ak hi205_0; have HC205_0 := ak hl205_0; clear hi205_0 hl205_0; replace p205 := eq_true p205; replace q205 := eq_true q205; have p209 : 0 ≤ (x5_2 : Int) := as_; have q209 : x5_2 < (l0.length : Int) := as_; obtain ⟨ad209, e209, hx209_0, hx209_1, hx209_2⟩ := at_T99 HR0.out x5_2 p209 q209; (try rw [← Nbq27.out] at hx209_2); (try rw [← Nbq27.out] at hw209_2); obtain rfl : ad203 = ad209 := (by injection e209); replace hx209_0 := hbc_ HB.out hx209_0; replace hx209_1 := hbc_ HB.out hx209_1; replace hx209_2 := hbc_ HB.out hx209_2; replace p209 := eq_true p209; replace q209 := eq_true q209
                              go_wp2_with (first | (go_at_call 85; (with_reducible refine (spec_l24Blind.calls k3 a1_0 _ _ l1_1 x5_2 false _ ?side1 ?side2 A29.out).mono ?_); (case side1 => exact cb_ HR1_1.out HB.out); (case side2 => exact HC1_1.out); rintro e w34 ⟨rfl, hb⟩; replace BK199 := ak (blk_below (bk_ BK199.out) hb); replace HB := ak (below_step (bs1_ HB.out GE199.out) hb); (try clear hb); (try clear hb2); (try clear hk); (try clear hi)))
                              repeat (go_quiet (first | (go_at_call 85; (with_reducible refine (spec_l24Blind.calls k3 a1_0 _ _ l1_1 x5_2 false _ ?side1 ?side2 A29.out).mono ?_); (case side1 => exact cb_ HR1_1.out HB.out); (case side2 => exact HC1_1.out); rintro e w34 ⟨rfl, hb⟩; replace BK199 := ak (blk_below (bk_ BK199.out) hb); replace HB := ak (below_step (bs1_ HB.out GE199.out) hb); (try clear hb); (try clear hb2); (try clear hk); (try clear hi))); try go_wp2_with (first | (go_at_call 85; (with_reducible refine (spec_l24Blind.calls k3 a1_0 _ _ l1_1 x5_2 false _ ?side1 ?side2 A29.out).mono ?_); (case side1 => exact cb_ HR1_1.out HB.out); (case side2 => exact HC1_1.out); rintro e w34 ⟨rfl, hb⟩; replace BK199 := ak (blk_below (bk_ BK199.out) hb); replace HB := ak (below_step (bs1_ HB.out GE199.out) hb); (try clear hb); (try clear hb2); (try clear hk); (try clear hi))))
                              go_ret
                              exact fin_ (bs1_ HB.out GE199.out)
                            replace c28 := Bool.eq_false_iff.mpr c28; subst c28; rw [if_neg (show ¬ (false = true) by decide)] at H; have H' := ak H; clear H; have hcz35_0 := bc_ BK199.out 0; have hcz35_1 := bc_ BK199.out 1; have hfz35_0 := blk_frozen BK199.out 0; have hfz35_1 := blk_frozen BK199.out 1; have p205 : 0 ≤ (x5_2 : Int) := as_; have q205 : x5_2 < (l1_1.length : Int) := as_; obtain ⟨ad205, A205_0, c205_0, e205, hx205_0, hl205_0, hi205_0⟩ := at_L7 HR1_1.out x5_2 p205 q205; obtain rfl : ad202 = ad205 := (by injection e205); replace hx205_0 := hbc_ HB.out hx205_0; have HR205_0 := ak hi205_0; have HC205_0 := ak hl205_0; clear hi205_0 hl205_0; replace p205 := eq_true p205; replace q205 := eq_true q205; have p209 : 0 ≤ (x5_2 : Int) := as_; have q209 : x5_2 < (l0.length : Int) := as_; obtain ⟨ad209, e209, hx209_0, hx209_1, hx209_2⟩ := at_T99 HR0.out x5_2 p209 q209; (try rw [← Nbq27.out] at hx209_2); (try rw [← Nbq27.out] at hw209_2); obtain rfl : ad203 = ad209 := (by injection e209); replace hx209_0 := hbc_ HB.out hx209_0; replace hx209_1 := hbc_ HB.out hx209_1; replace hx209_2 := hbc_ HB.out hx209_2; replace p209 := eq_true p209; replace q209 := eq_true q209
                            go_wp2
                            repeat (go_quiet (fail); try go_wp2)
                            go_roundg k3
                            case measure => have := HJ2.out; have := HK2.out; have := HK3.out; omega
                            case rel => exact ⟨(wrap64 (x5_2 + 1)), (by first | rfl | (simp; done) | (simp [*]; done)), H', ⟨by have := HJ2.out; have := HK2.out; have := HK3.out; omega⟩, ⟨bk_ BK199.out⟩, ⟨bs1_ HB.out GE199.out⟩⟩
                          rw [if_neg c26] at H; exact absurd H (by simp)
                        rw [if_neg c19] at H; exact absurd H (by simp)
                      rw [if_neg c18] at H; exact absurd H (by simp)
                rw [if_neg c16] at H; have c16b0 : (((rd_Ls_i64 l1_1 x5_2).length : Int) == t204) = false := beq_eq_false_iff_ne.mpr c16; have c16b1 : (((rd_Ls_i64 l1_1 x5_2).length : Int) != t204) = true := bne_iff_ne.mpr c16; obtain rfl := Option.some.inj H; have hcz36_0 := bc_ BK199.out 0; have hcz36_1 := bc_ BK199.out 1; have hfz36_0 := blk_frozen BK199.out 0; have hfz36_1 := blk_frozen BK199.out 1; have p202 : 0 ≤ (x5_2 : Int) := as_; have q202 : x5_2 < (l1_1.length : Int) := as_; obtain ⟨ad202, A202_0, c202_0, e202, hx202_0, hl202_0, hi202_0⟩ := at_L7 HR1_1.out x5_2 p202 q202
                cases e202
                replace hx202_0 := hbc_ HB.out hx202_0; have HR202_0 := ak hi202_0; have HC202_0 := ak hl202_0; clear hi202_0 hl202_0; replace p202 := eq_true p202; replace q202 := eq_true q202; have p203 : 0 ≤ (x5_2 : Int) := as_; have q203 : x5_2 < (l0.length : Int) := as_; obtain ⟨ad203, e203, hx203_0, hx203_1, hx203_2⟩ := at_T99 HR0.out x5_2 p203 q203
                cases e203
                replace hx203_0 := hbc_ HB.out hx203_0; replace hx203_1 := hbc_ HB.out hx203_1; replace hx203_2 := hbc_ HB.out hx203_2; replace p203 := eq_true p203; replace q203 := eq_true q203
                go_wp2_with (first | (go_at_call 84; (with_reducible refine (spec_l24Power.calls k2 a1_0 ((rd_I_Sym l0 x5_2).f1) t204 _ A15.out).mono ?_); rintro e w' ⟨rfl, ⟨nd, rfl⟩⟩; (try first | exact ⟨rfl, _, World.drewN_drewN _ _ _⟩ | exact ⟨rfl, _, Eq.trans (World.drewN_drewN _ _ _) (congrArg (World.drewN _) (Nat.add_assoc _ _ _))⟩)))
                repeat (go_quiet (first | (go_at_call 84; (with_reducible refine (spec_l24Power.calls k2 a1_0 ((rd_I_Sym l0 x5_2).f1) t204 _ A15.out).mono ?_); rintro e w' ⟨rfl, ⟨nd, rfl⟩⟩; (try first | exact ⟨rfl, _, World.drewN_drewN _ _ _⟩ | exact ⟨rfl, _, Eq.trans (World.drewN_drewN _ _ _) (congrArg (World.drewN _) (Nat.add_assoc _ _ _))⟩))); try go_wp2_with (first | (go_at_call 84; (with_reducible refine (spec_l24Power.calls k2 a1_0 ((rd_I_Sym l0 x5_2).f1) t204 _ A15.out).mono ?_); rintro e w' ⟨rfl, ⟨nd, rfl⟩⟩; (try first | exact ⟨rfl, _, World.drewN_drewN _ _ _⟩ | exact ⟨rfl, _, Eq.trans (World.drewN_drewN _ _ _) (congrArg (World.drewN _) (Nat.add_assoc _ _ _))⟩))))
                go_ret
                exact fin_ (bs1_ HB.out GE199.out)
              rw [if_neg c14] at H; exact absurd H (by simp)
            rw [if_neg c13] at H; exact absurd H (by simp)
          rw [if_neg c12] at H; have c12b0 := decide_eq_false c12; clear c12; obtain rfl := Option.some.inj H
          go_wp2
          repeat (go_quiet (fail); try go_wp2)
          go_ret
          exact fin_ (bs1_ HB.out GE199.out)

/-! ### spec_Parts: function 163 -/
mutual
def spec_Parts.l0 : Nat → Int → Int → Int → Int → List (I_Term) → Option (Int)
  | 0, _, _, _, _, _ => none
  | k + 1, x3, x4, x212000, x212001, x212002 => if x4 < (x212002.length : Int) then (if 0 ≤ x4 then ((spec_Parts.f k ((rd_I_Term x212002 x4).f0) ((rd_I_Term x212002 x4).f1) ((rd_I_Term x212002 x4).f2)).bind fun t213 => (spec_Parts.l0 k (wrap64 (x3 + t213)) (wrap64 (x4 + 1)) x212000 x212001 x212002)) else (none)) else (some x3)
def spec_Parts.f : Nat → Int → Int → List (I_Term) → Option (Int)
  | 0, _, _, _ => none
  | k + 1, a0_0, a0_1, l0_2 => spec_Parts.l0 k 1 0 a0_0 a0_1 l0_2
end
theorem spec_Parts.mono_l : ∀ k, (∀ y0 y1 y2, LeO (spec_Parts.f k y0 y1 y2) (spec_Parts.f (k + 1) y0 y1 y2)) ∧ (∀ y0 y1 y2 y3 y4, LeO (spec_Parts.l0 k y0 y1 y2 y3 y4) (spec_Parts.l0 (k + 1) y0 y1 y2 y3 y4))
  | 0 => ⟨fun _ _ _ r h => by simp [spec_Parts.f] at h, fun _ _ _ _ _ r h => by simp [spec_Parts.l0] at h⟩
  | k + 1 => by
    obtain ⟨ih0, ih1⟩ := spec_Parts.mono_l k; refine ⟨?_, ?_⟩
    · intro y0 y1 y2
      unfold spec_Parts.f
      repeat' first | (with_reducible first | exact ih0 _ _ _ | exact ih1 _ _ _ _ _ | exact LeO.refl _ | exact LeO.none _ | refine LeO.ite ?_ ?_ | refine LeO.bind ?_ (fun _ => ?_)) | exact ih0 _ _ _ | exact ih1 _ _ _ _ _ | exact LeO.none _ | refine LeO.ite ?_ ?_ | refine LeO.bind ?_ (fun _ => ?_)
    · intro y0 y1 y2 y3 y4
      unfold spec_Parts.l0
      repeat' first | (with_reducible first | exact ih0 _ _ _ | exact ih1 _ _ _ _ _ | exact LeO.refl _ | exact LeO.none _ | refine LeO.ite ?_ ?_ | refine LeO.bind ?_ (fun _ => ?_)) | exact ih0 _ _ _ | exact ih1 _ _ _ _ _ | exact LeO.none _ | refine LeO.ite ?_ ?_ | refine LeO.bind ?_ (fun _ => ?_)
theorem spec_Parts.mono : ∀ a0 a1 a2 k, LeO (spec_Parts.f k a0 a1 a2) (spec_Parts.f (k + 1) a0 a1 a2) := by
  intro a0 a1 a2 k; obtain ⟨ih0, ih1⟩ := spec_Parts.mono_l k; exact ih0 a0 a1 a2
set_option maxHeartbeats 8000000 in
set_option maxRecDepth 100000 in
theorem spec_Parts.calls (k : Nat) : ∀ (a0_0 : Int) (a0_1 : Int) (A0_2 : Option Addr) (c0_2 : Nat) (l0_2 : List (I_Term)) (r : Int) (w : World) (hr0_2 : Kd.C k33 w A0_2 l0_2.length l0_2) (hc0_2 : l0_2.length ≤ c0_2) (h : spec_Parts.f k a0_0 a0_1 l0_2 = some r),
    Calls Try.prog 163 #[.agg #[.int .i64 a0_0, .int .i64 a0_1, .slice A0_2 l0_2.length c0_2]] w fun e w' => e = .returned (.int .i64 r) ∧ Below w.heap.size w w' := by
  induction k using Nat.strongRecOn with
  | _ k ih =>
  intro a0_0 a0_1 A0_2 c0_2 l0_2 r w hr0_2 hc0_2 h
  cases k with
  | zero => exact absurd h (by simp [spec_Parts.f])
  | succ k =>
  simp only [spec_Parts.f] at h
  have hu33 := Try.underlying33; have HR0_2 := ak hr0_2; have HC0_2 := ak hc0_2; clear hr0_2 hc0_2; have HB := ak (Below.refl w.heap.size w); have H : (spec_Parts.l0 k 1 0 a0_0 a0_1 l0_2) = some r := h; clear h; have H' := ak H; clear H
  go_enter Try.func163, Try.ntmps163
  go_wp2_with (first | ((with_reducible refine gate_dst (N := 1) rfl ?_); refine bxe_ (N := 1) (cs := #[.int .i64 a0_0, .int .i64 a0_1, .slice A0_2 l0_2.length c0_2]) (t := 33) ?_; intro gb211 hg w2 hbox hb; have BK211 := ak (hbox); have GW211 := ak (lg_ hg (bl_ HB.out)); have GE211 := ak (lg_ hg (bl_ HB.out)); replace HB := ak (below_step (bl_ HB.out) hb); clear hb hbox hg))
  go_loopg [3, 4] k (fun kq v3 v4 w' => ∃ (x3_1 : Int) (x4_1 : Int), v3 = .int .i64 x3_1 ∧ v4 = .int .i64 x4_1 ∧ Aside0 (spec_Parts.l0 kq x3_1 x4_1 a0_0 a0_1 l0_2 = some r) ∧ Aside0 (kq ≤ k) ∧ Aside0 (w'.heap[gb211]? = some (.cells #[.int .i64 a0_0, .int .i64 a0_1, (.slice A0_2 l0_2.length c0_2)] 33 (0, 0))) ∧ Aside0 (Below w.heap.size w w'))
  case atStart => exact ⟨(1), (0), (by first | rfl | (simp; done) | (simp [*]; done)), (by first | rfl | (simp; done) | (simp [*]; done)), H', ⟨Nat.le_refl _⟩, ⟨bk_ BK211.out⟩, ⟨bs1_ HB.out GE211.out⟩⟩
  case round =>
    clear H'; (try clear c1); (try clear p2); obtain ⟨x3_1, x4_1, rfl, rfl, HA, HK1, BK211, HB⟩ := hrel
    cases gk with
    | zero => exact absurd HA.out (by simp [spec_Parts.l0])
    | succ k1 =>
      have H := HA.out; clear HA
      simp only [spec_Parts.l0] at H
      by_cases c3 : x4_1 < (l0_2.length : Int)
      · rw [if_pos c3] at H; have c3b0 := decide_eq_true c3; clear c3
        by_cases c4 : 0 ≤ x4_1
        · rw [if_pos c4] at H; have c4b0 := decide_eq_true c4; clear c4; replace H := Option.bind_eq_some_iff.mp H; obtain ⟨t213, A50, H⟩ := H; have A5 := ak A50; clear A50; have H' := ak H; clear H; have hcz6_0 := bc_ BK211.out 0; have hcz6_1 := bc_ BK211.out 1; have hcz6_2 := bc_ BK211.out 2; have hfz6_0 := blk_frozen BK211.out 0; have hfz6_1 := blk_frozen BK211.out 1; have hfz6_2 := blk_frozen BK211.out 2; have p212 : 0 ≤ (x4_1 : Int) := as_; have q212 : x4_1 < (l0_2.length : Int) := as_; obtain ⟨ad212, A212_2, c212_2, e212, hx212_0, hx212_1, hx212_2, hl212_2, hi212_2⟩ := at_T33 HR0_2.out x4_1 p212 q212
          cases e212
          replace hx212_0 := hbc_ HB.out hx212_0; replace hx212_1 := hbc_ HB.out hx212_1; replace hx212_2 := hbc_ HB.out hx212_2; have HR212_2 := ak hi212_2; have HC212_2 := ak hl212_2; clear hi212_2 hl212_2; replace p212 := eq_true p212; replace q212 := eq_true q212
          go_wp2_with (first | ((with_reducible refine gate_callee (f := 163) rfl ?_); refine goesM_ (some 18) rfl rfl Try.func163 (by kernel_rfl) rfl #[.agg #[.int .i64 ((rd_I_Term l0_2 x4_1).f0), .int .i64 ((rd_I_Term l0_2 x4_1).f1), .slice A212_2 ((rd_I_Term l0_2 x4_1).f2).length c212_2]] rfl ?_; (with_reducible refine (ih k1 (by have := HK1.out; omega) ((rd_I_Term l0_2 x4_1).f0) ((rd_I_Term l0_2 x4_1).f1) _ _ ((rd_I_Term l0_2 x4_1).f2) t213 _ ?side1 ?side2 A5.out).mono ?_); (case side1 => exact cb_ HR212_2.out HB.out); (case side2 => exact HC212_2.out); rintro e w7 ⟨rfl, hb⟩; refine ⟨_, rfl, ?_⟩; replace BK211 := ak (blk_below (bk_ BK211.out) hb); replace HB := ak (below_step (bs1_ HB.out GE211.out) hb); (try clear hb); (try clear hb2); (try clear hk); (try clear hi)))
          go_roundg k1
          case measure => have := HK1.out; omega
          case rel => exact ⟨(wrap64 (x3_1 + t213)), (wrap64 (x4_1 + 1)), (by first | rfl | (simp; done) | (simp [*]; done)), (by first | rfl | (simp; done) | (simp [*]; done)), H', ⟨by have := HK1.out; omega⟩, ⟨bk_ BK211.out⟩, ⟨bs1_ HB.out GE211.out⟩⟩
        rw [if_neg c4] at H; exact absurd H (by simp)
      rw [if_neg c3] at H; have c3b0 := decide_eq_false c3; clear c3; obtain rfl := Option.some.inj H; have hcz8_0 := bc_ BK211.out 0; have hcz8_1 := bc_ BK211.out 1; have hcz8_2 := bc_ BK211.out 2; have hfz8_0 := blk_frozen BK211.out 0; have hfz8_1 := blk_frozen BK211.out 1; have hfz8_2 := blk_frozen BK211.out 2
      go_wp2
      go_ret
      exact fin_ (bs1_ HB.out GE211.out)

end Go.Proofs.Ytcboagkbcoihjaa.XMeans
