-- printed by a program of this session (xprint, turned from the kit's print) for this claim
import Derived.Test.YtcboagkbcoihjaaXSubworldx0
import Derived.Test.YtcboagkbcoihjaaXSubworldx3
namespace Go.Proofs.Ytcboagkbcoihjaa.XSubworld
open Go.RowKit Go.Proofs.Ytcboagkbcoihjaa.XOpens Go.Proofs.YtcboagkbcoihjaaW.PrintWords Go.Proofs.YtcboagkbcoihjaaW.PrintLast Go.Proofs.YtcboagkbcoihjaaW.PrintMore
attribute [local go_sem] max2_int min2_int max_two min_two max_three min_three max_four min_four   -- for this text's walks alone
set_option linter.unusedVariables false
set_option linter.unusedSimpArgs false

/-! ### spec_l24Blind: function 85 -/
mutual
def spec_l24Blind.l0 : Nat → Int → Int → Int → List (List Int) → Option (Bool)
  | 0, _, _, _, _ => none
  | k + 1, x1, x5, x167000, x167001 => if x5 < x167000 then (spec_l24Blind.l1 k x1 x5 0 x167000 x167001) else (some true)
def spec_l24Blind.l1 : Nat → Int → Int → Int → Int → List (List Int) → Option (Bool)
  | 0, _, _, _, _, _ => none
  | k + 1, x1, x5, x6, x167000, x167001 => if x6 < x167000 then ((spec_l24Two.f x167000 x167001 x1 x5 x6).bind fun t167 => ((spec_l24Two.f x167000 x167001 x1 x6 x5).bind fun t168 => (if t167 = t168 then (spec_l24Blind.l2 k x1 x5 x6 0 x167000 x167001) else (some false)))) else (spec_l24Blind.l0 k x1 (wrap64 (x5 + 1)) x167000 x167001)
def spec_l24Blind.l2 : Nat → Int → Int → Int → Int → Int → List (List Int) → Option (Bool)
  | 0, _, _, _, _, _, _ => none
  | k + 1, x1, x5, x6, x7, x167000, x167001 => if x7 < x167000 then ((spec_l24Two.f x167000 x167001 x1 x5 x6).bind fun t169 => ((spec_l24Two.f x167000 x167001 x1 t169 x7).bind fun t170 => ((spec_l24Two.f x167000 x167001 x1 x6 x7).bind fun t171 => ((spec_l24Two.f x167000 x167001 x1 x5 t171).bind fun t172 => (if t170 = t172 then (spec_l24Blind.l2 k x1 x5 x6 (wrap64 (x7 + 1)) x167000 x167001) else (some false)))))) else (spec_l24Blind.l1 k x1 x5 (wrap64 (x6 + 1)) x167000 x167001)
end
def spec_l24Blind.f (k : Nat) (a0_0 : Int) (l0_1 : List (List Int)) (a1 : Int) : Option (Bool) := spec_l24Blind.l0 k a1 0 a0_0 l0_1
theorem spec_l24Blind.mono_l : ∀ k, (∀ y0 y1 y2 y3, LeO (spec_l24Blind.l0 k y0 y1 y2 y3) (spec_l24Blind.l0 (k + 1) y0 y1 y2 y3)) ∧ (∀ y0 y1 y2 y3 y4, LeO (spec_l24Blind.l1 k y0 y1 y2 y3 y4) (spec_l24Blind.l1 (k + 1) y0 y1 y2 y3 y4)) ∧ (∀ y0 y1 y2 y3 y4 y5, LeO (spec_l24Blind.l2 k y0 y1 y2 y3 y4 y5) (spec_l24Blind.l2 (k + 1) y0 y1 y2 y3 y4 y5))
  | 0 => ⟨fun _ _ _ _ r h => by simp [spec_l24Blind.l0] at h, fun _ _ _ _ _ r h => by simp [spec_l24Blind.l1] at h, fun _ _ _ _ _ _ r h => by simp [spec_l24Blind.l2] at h⟩
  | k + 1 => by
    obtain ⟨ih0, ih1, ih2⟩ := spec_l24Blind.mono_l k; refine ⟨?_, ?_, ?_⟩
    · intro y0 y1 y2 y3
      unfold spec_l24Blind.l0
      repeat' first | (with_reducible first | exact ih0 _ _ _ _ | exact ih1 _ _ _ _ _ | exact ih2 _ _ _ _ _ _ | exact LeO.refl _ | exact LeO.none _ | refine LeO.ite ?_ ?_ | refine LeO.bind ?_ (fun _ => ?_)) | exact ih0 _ _ _ _ | exact ih1 _ _ _ _ _ | exact ih2 _ _ _ _ _ _ | exact LeO.none _ | refine LeO.ite ?_ ?_ | refine LeO.bind ?_ (fun _ => ?_)
    · intro y0 y1 y2 y3 y4
      unfold spec_l24Blind.l1
      repeat' first | (with_reducible first | exact ih0 _ _ _ _ | exact ih1 _ _ _ _ _ | exact ih2 _ _ _ _ _ _ | exact LeO.refl _ | exact LeO.none _ | refine LeO.ite ?_ ?_ | refine LeO.bind ?_ (fun _ => ?_)) | exact ih0 _ _ _ _ | exact ih1 _ _ _ _ _ | exact ih2 _ _ _ _ _ _ | exact LeO.none _ | refine LeO.ite ?_ ?_ | refine LeO.bind ?_ (fun _ => ?_)
    · intro y0 y1 y2 y3 y4 y5
      unfold spec_l24Blind.l2
      repeat' first | (with_reducible first | exact ih0 _ _ _ _ | exact ih1 _ _ _ _ _ | exact ih2 _ _ _ _ _ _ | exact LeO.refl _ | exact LeO.none _ | refine LeO.ite ?_ ?_ | refine LeO.bind ?_ (fun _ => ?_)) | exact ih0 _ _ _ _ | exact ih1 _ _ _ _ _ | exact ih2 _ _ _ _ _ _ | exact LeO.none _ | refine LeO.ite ?_ ?_ | refine LeO.bind ?_ (fun _ => ?_)
theorem spec_l24Blind.mono : ∀ a0 a1 a2 k, LeO (spec_l24Blind.f k a0 a1 a2) (spec_l24Blind.f (k + 1) a0 a1 a2) := by
  intro a0 a1 a2 k; obtain ⟨ih0, ih1, ih2⟩ := spec_l24Blind.mono_l k
  unfold spec_l24Blind.f
  repeat' first
      | (with_reducible exact ih0 _ _ _ _)
      | (with_reducible exact ih1 _ _ _ _ _)
      | (with_reducible exact ih2 _ _ _ _ _ _)
      | (with_reducible exact LeO.refl _)
      | (with_reducible exact LeO.none _)
      | (with_reducible refine LeO.ite ?_ ?_)
      | (with_reducible refine LeO.bind ?_ (fun _ => ?_))
      | exact ih0 _ _ _ _
      | exact ih1 _ _ _ _ _
      | exact ih2 _ _ _ _ _ _
      | exact LeO.none _
      | refine LeO.ite ?_ ?_
      | refine LeO.bind ?_ (fun _ => ?_)
def spec_l24Blind.T7 : Bool × List (List Nat × List Nat) := (true, [([], []), ([], []), ([], []), ([], []), ([0, 1, 2, 3], [0, 1, 2, 3]), ([], []), ([], []), ([], []), ([], []), ([5, 6, 7, 8, 4], [5, 6, 7, 8]), ([4, 9], [4, 9])])
def spec_l24Blind.B7 : List Nat := [0, 0, 0, 0, 15, 0, 0, 0, 0, 511, 1023]
theorem spec_l24Blind.tab7 : rtab .any (opsOf Try.f85 7) = spec_l24Blind.T7 := by kernel_rfl
theorem spec_l24Blind.bits7 : waitsOk spec_l24Blind.T7.2 spec_l24Blind.B7 = true := by kernel_rfl
def spec_l24Blind.T12 : Bool × List (List Nat × List Nat) := (true, [([], []), ([], []), ([], []), ([], []), ([], []), ([], []), ([2, 3, 4, 5], [2, 3, 4, 5]), ([], []), ([0, 1, 6, 7, 6], [0, 1, 6, 7]), ([], []), ([], []), ([], []), ([], []), ([], []), ([], []), ([], []), ([12, 13, 14, 15, 8], [12, 13, 14, 15]), ([9, 10, 11, 16, 16], [9, 10, 11, 16]), ([8, 17], [8, 17])])
def spec_l24Blind.B12 : List Nat := [0, 0, 0, 0, 0, 0, 60, 0, 255, 0, 0, 0, 0, 0, 0, 0, 61951, 131071, 262143]
theorem spec_l24Blind.tab12 : rtab .any (opsOf Try.f85 12) = spec_l24Blind.T12 := by kernel_rfl
theorem spec_l24Blind.bits12 : waitsOk spec_l24Blind.T12.2 spec_l24Blind.B12 = true := by kernel_rfl
set_option maxHeartbeats 8000000 in
set_option maxRecDepth 100000 in
theorem spec_l24Blind.calls (k : Nat) (a0_0 : Int) (A0_1 : Option Addr) (c0_1 : Nat) (l0_1 : List (List Int)) (a1 : Int) (r : Bool) (w : World) (hr0_1 : Kd.C (Kd.slice 3 (Kd.int .i64)) w A0_1 l0_1.length l0_1) (hc0_1 : l0_1.length ≤ c0_1) (h : spec_l24Blind.f k a0_0 l0_1 a1 = some r) :
    Calls Try.prog 85 #[.agg #[.int .i64 a0_0, .slice A0_1 l0_1.length c0_1], .int .i64 a1] w fun e w' => e = .returned (.bool r) ∧ Below w.heap.size w w' := by
  have hu51 := Try.underlying51; have HR0_1 := ak hr0_1; have HC0_1 := ak hc0_1; clear hr0_1 hc0_1; have HB := ak (Below.refl w.heap.size w); have H : (spec_l24Blind.l0 k a1 0 a0_0 l0_1) = some r := h; clear h; have H' := ak H; clear H
  go_enter Try.func85, Try.ntmps85
  go_wp2_with (first | ((with_reducible refine gate_dst (N := 2) rfl ?_); refine bxe_ (N := 2) (cs := #[.int .i64 a0_0, .slice A0_1 l0_1.length c0_1]) (t := 51) ?_; intro gb166 hg w3 hbox hb; have BK166 := ak (hbox); have GW166 := ak (lg_ hg (bl_ HB.out)); have GE166 := ak (lg_ hg (bl_ HB.out)); replace HB := ak (below_step (bl_ HB.out) hb); clear hb hbox hg))
  go_loopg [5] k (fun kq v5 w' => ∃ (x5_1 : Int), v5 = .int .i64 x5_1 ∧ Aside0 (spec_l24Blind.l0 kq a1 x5_1 a0_0 l0_1 = some r) ∧ Aside0 (kq ≤ k) ∧ Aside0 (w'.heap[gb166]? = some (.cells #[.int .i64 a0_0, (.slice A0_1 l0_1.length c0_1)] 51 (0, 0))) ∧ Aside0 (Below w.heap.size w w'))
  case atStart => exact ⟨(0), (by first | rfl | (simp; done) | (simp [*]; done)), H', ⟨Nat.le_refl _⟩, ⟨bk_ BK166.out⟩, ⟨bs1_ HB.out GE166.out⟩⟩
  case round =>
    clear H'; (try clear p2); obtain ⟨x5_1, rfl, HA, HK1, BK166, HB⟩ := hrel
    cases gk with
    | zero => exact absurd HA.out (by simp [spec_l24Blind.l0])
    | succ k1 =>
      have H := HA.out; clear HA
      simp only [spec_l24Blind.l0] at H
      by_cases c4 : x5_1 < a0_0
      · rw [if_pos c4] at H; have c4b0 := decide_eq_true c4; clear c4; have H' := ak H; clear H; have hcz5_0 := bc_ BK166.out 0; have hcz5_1 := bc_ BK166.out 1; have hfz5_0 := blk_frozen BK166.out 0; have hfz5_1 := blk_frozen BK166.out 1
        go_wp2
        go_loopg [6] k1 (fun kq v6 w' => ∃ (x6_2 : Int), v6 = .int .i64 x6_2 ∧ Aside0 (spec_l24Blind.l1 kq a1 x5_1 x6_2 a0_0 l0_1 = some r) ∧ Aside0 (kq ≤ k1) ∧ Aside0 (w'.heap[gb166]? = some (.cells #[.int .i64 a0_0, (.slice A0_1 l0_1.length c0_1)] 51 (0, 0))) ∧ Aside0 (Below w.heap.size w w'))
        case atStart => exact ⟨(0), (by first | rfl | (simp; done) | (simp [*]; done)), H', ⟨Nat.le_refl _⟩, ⟨bk_ BK166.out⟩, ⟨bs1_ HB.out GE166.out⟩⟩
        case round =>
          clear H'; (try clear p2); (try clear c4); (try clear c4b0); (try clear hcz5_0); (try clear hcz5_1); (try clear hfz5_0); (try clear hfz5_1); (try clear p2); obtain ⟨x6_2, rfl, HA, HK2, BK166, HB⟩ := hrel
          cases gk with
          | zero => exact absurd HA.out (by simp [spec_l24Blind.l1])
          | succ k2 =>
            have H := HA.out; clear HA
            simp only [spec_l24Blind.l1] at H
            by_cases c6 : x6_2 < a0_0
            · rw [if_pos c6] at H; have c6b0 := decide_eq_true c6; clear c6; replace H := Option.bind_eq_some_iff.mp H; obtain ⟨t167, A70, H⟩ := H; have A7 := ak A70; clear A70; replace H := Option.bind_eq_some_iff.mp H; obtain ⟨t168, A80, H⟩ := H; have A8 := ak A80; clear A80
              by_cases c9 : t167 = t168
              · rw [if_pos c9] at H; have c9b0 : (t167 == t168) = true := beq_iff_eq.mpr c9; have c9b1 : (t167 != t168) = false := bne_eq_false_iff_eq.mpr c9; clear c9; have H' := ak H; clear H; have hcz10_0 := bc_ BK166.out 0; have hcz10_1 := bc_ BK166.out 1; have hfz10_0 := blk_frozen BK166.out 0; have hfz10_1 := blk_frozen BK166.out 1
                try go_wp2
                replace BK166 := ak (blk_drew BK166.out); replace HB := ak (below_drew1 HB.out); refine start_ (n := 11) (S := fun w' => w'.cell? ⟨gb166, 0, none⟩ = some (.int .i64 a0_0) ∧ w'.cell? ⟨gb166, 1, none⟩ = some (.slice A0_1 l0_1.length c0_1)) (ds := []) (bm 11 0) (by kernel_rfl) rfl (by kernel_rfl) ⟨(blk_cell BK166.out 0).trans rfl, (blk_cell BK166.out 1).trans rfl⟩ (fun hHeld => ?_); refine with_tabW spec_l24Blind.tab7 spec_l24Blind.bits7 (fun HT_ HW_ => ?_)
                generalize wr.drew = w11 at BK166 HB hHeld ⊢
                refine pv_ 1 ?_; refine pv_ 2 ?_; refine pv_ 3 ?_; refine pv_ 6 ?_; refine pv_ 7 ?_; refine pv_ 8 ?_; refine tv_ 0 hHeld ?_; refine tv_ 5 hHeld ?_; refine one_ (i := 4) (N := some 24) (bm 11 511) rfl rfl (one_of HT_.out (by kernel_rfl)) (by decide) (fun K hK => ?_); refine goesB_ Try.func143 (by kernel_rfl) rfl #[.agg #[.int .i64 a0_0, .slice A0_1 l0_1.length c0_1], .int .i64 a1, .int .i64 x5_1, .int .i64 x6_2] (by rfl) rfl rfl ?_
                with_reducible refine (spec_l24Two.calls a0_0 _ _ l0_1 a1 x5_1 x6_2 t167 _ ?side1 ?side2 A7.out).mono ?_
                (case side1 => exact cb_ HR0_1.out HB.out); (case side2 => exact HC0_1.out); rintro e w12 ⟨rfl, hb⟩; refine ⟨_, rfl, ?_⟩; replace BK166 := ak (blk_below (bk_ BK166.out) hb); replace HB := ak (below_step (bs1_ HB.out GE166.out) hb); (try clear hb); (try clear hb2); (try clear hk); (try clear hi); refine hK.out _ _ ⟨(blk_cell BK166.out 0).trans rfl, (blk_cell BK166.out 1).trans rfl⟩ (fun hHeld => ?_); clear hK K; refine norm_ (a' := ?_) ?_ ?_
                rotate_left
                · show Act.put _ (some 24) _ = _
                  simp only [Act.put, List.setIfInBounds_toArray, List.set_cons_zero, List.set_cons_succ, i64_w, i32_w]
                  rfl
                refine one_ (i := 9) (N := some 29) (bm 11 1023) rfl rfl (one_of HT_.out (by kernel_rfl)) (by decide) (fun K hK => ?_); refine goesB_ Try.func143 (by kernel_rfl) rfl #[.agg #[.int .i64 a0_0, .slice A0_1 l0_1.length c0_1], .int .i64 a1, .int .i64 x6_2, .int .i64 x5_1] (by rfl) rfl rfl ?_
                with_reducible refine (spec_l24Two.calls a0_0 _ _ l0_1 a1 x6_2 x5_1 t168 _ ?side1 ?side2 A8.out).mono ?_
                (case side1 => exact cb_ HR0_1.out HB.out); (case side2 => exact HC0_1.out); rintro e w13 ⟨rfl, hb⟩; refine ⟨_, rfl, ?_⟩; replace BK166 := ak (blk_below (bk_ BK166.out) hb); replace HB := ak (below_step (bs1_ HB.out GE166.out) hb); (try clear hb); (try clear hb2); (try clear hk); (try clear hi); refine hK.out _ _ ⟨(blk_cell BK166.out 0).trans rfl, (blk_cell BK166.out 1).trans rfl⟩ (fun hHeld => ?_); clear hK K; refine norm_ (a' := ?_) ?_ ?_
                rotate_left
                · show Act.put _ (some 29) _ = _
                  simp only [Act.put, List.setIfInBounds_toArray, List.set_cons_zero, List.set_cons_succ, i64_w, i32_w]
                  rfl
                refine pv_ 10 ?_; refine done_ (done_of HT_.out (by kernel_rfl)) ?_
                try go_wp2
                go_loopg [7] k2 (fun kq v7 w' => ∃ (x7_3 : Int), v7 = .int .i64 x7_3 ∧ Aside0 (spec_l24Blind.l2 kq a1 x5_1 x6_2 x7_3 a0_0 l0_1 = some r) ∧ Aside0 (kq ≤ k2) ∧ Aside0 (w'.heap[gb166]? = some (.cells #[.int .i64 a0_0, (.slice A0_1 l0_1.length c0_1)] 51 (0, 0))) ∧ Aside0 (Below w.heap.size w w'))
                case atStart => exact ⟨(0), (by first | rfl | (simp; done) | (simp [*]; done)), H', ⟨Nat.le_refl _⟩, ⟨bk_ BK166.out⟩, ⟨bs1_ HB.out GE166.out⟩⟩
                case round =>
                  clear H'; (try clear c1); (try clear p2); (try clear c4); (try clear c4b0); (try clear c6); (try clear c6b0); (try clear c8); (try clear c9); (try clear c9b0); (try clear c9b1); (try clear hcz10_0); (try clear hcz10_1); (try clear hcz5_0); (try clear hcz5_1); (try clear hfz10_0); (try clear hfz10_1); (try clear hfz5_0); (try clear hfz5_1); (try clear p2); obtain ⟨x7_3, rfl, HA, HK3, BK166, HB⟩ := hrel
                  cases gk with
                  | zero => exact absurd HA.out (by simp [spec_l24Blind.l2])
                  | succ k3 =>
                    have H := HA.out; clear HA
                    simp only [spec_l24Blind.l2] at H
                    by_cases c14 : x7_3 < a0_0
                    · rw [if_pos c14] at H; have c14b0 := decide_eq_true c14; clear c14; replace H := Option.bind_eq_some_iff.mp H; obtain ⟨t169, A150, H⟩ := H; have A15 := ak A150; clear A150; replace H := Option.bind_eq_some_iff.mp H; obtain ⟨t170, A160, H⟩ := H; have A16 := ak A160; clear A160; replace H := Option.bind_eq_some_iff.mp H; obtain ⟨t171, A170, H⟩ := H; have A17 := ak A170; clear A170; replace H := Option.bind_eq_some_iff.mp H; obtain ⟨t172, A180, H⟩ := H; have A18 := ak A180; clear A180
                      by_cases c19 : t170 = t172
                      · rw [if_pos c19] at H; have c19b0 : (t170 == t172) = true := beq_iff_eq.mpr c19; have c19b1 : (t170 != t172) = false := bne_eq_false_iff_eq.mpr c19; clear c19; have H' := ak H; clear H; have hcz20_0 := bc_ BK166.out 0; have hcz20_1 := bc_ BK166.out 1; have hfz20_0 := blk_frozen BK166.out 0; have hfz20_1 := blk_frozen BK166.out 1
                        try go_wp2
                        replace BK166 := ak (blk_drew BK166.out); replace HB := ak (below_drew1 HB.out); refine start_ (n := 19) (S := fun w' => w'.cell? ⟨gb166, 0, none⟩ = some (.int .i64 a0_0) ∧ w'.cell? ⟨gb166, 1, none⟩ = some (.slice A0_1 l0_1.length c0_1)) (ds := []) (bm 19 0) (by kernel_rfl) rfl (by kernel_rfl) ⟨(blk_cell BK166.out 0).trans rfl, (blk_cell BK166.out 1).trans rfl⟩ (fun hHeld => ?_); refine with_tabW spec_l24Blind.tab12 spec_l24Blind.bits12 (fun HT_ HW_ => ?_)
                        generalize wr.drew = w21 at BK166 HB hHeld ⊢
                        refine pv_ 1 ?_; refine pv_ 3 ?_; refine pv_ 4 ?_; refine pv_ 5 ?_; refine pv_ 7 ?_; refine pv_ 10 ?_; refine pv_ 11 ?_; refine pv_ 13 ?_; refine pv_ 14 ?_; refine pv_ 15 ?_; refine tv_ 0 hHeld ?_; refine tv_ 2 hHeld ?_; refine tv_ 9 hHeld ?_; refine tv_ 12 hHeld ?_; refine one_ (i := 6) (N := some 43) (bm 19 65279) rfl rfl (one_of HT_.out (by kernel_rfl)) (by decide) (fun K hK => ?_); refine goesB_ Try.func143 (by kernel_rfl) rfl #[.agg #[.int .i64 a0_0, .slice A0_1 l0_1.length c0_1], .int .i64 a1, .int .i64 x5_1, .int .i64 x6_2] (by rfl) rfl rfl ?_
                        with_reducible refine (spec_l24Two.calls a0_0 _ _ l0_1 a1 x5_1 x6_2 t169 _ ?side1 ?side2 A15.out).mono ?_
                        (case side1 => exact cb_ HR0_1.out HB.out); (case side2 => exact HC0_1.out); rintro e w22 ⟨rfl, hb⟩; refine ⟨_, rfl, ?_⟩; replace BK166 := ak (blk_below (bk_ BK166.out) hb); replace HB := ak (below_step (bs1_ HB.out GE166.out) hb); (try clear hb); (try clear hb2); (try clear hk); (try clear hi); refine hK.out _ _ ⟨(blk_cell BK166.out 0).trans rfl, (blk_cell BK166.out 1).trans rfl⟩ (fun hHeld => ?_); clear hK K; refine norm_ (a' := ?_) ?_ ?_
                        rotate_left
                        · show Act.put _ (some 43) _ = _
                          simp only [Act.put, List.setIfInBounds_toArray, List.set_cons_zero, List.set_cons_succ, i64_w, i32_w]
                          rfl
                        refine one_ (i := 8) (N := some 45) (bm 19 65535) rfl rfl (one_of HT_.out (by kernel_rfl)) (by decide) (fun K hK => ?_); refine goesB_ Try.func143 (by kernel_rfl) rfl #[.agg #[.int .i64 a0_0, .slice A0_1 l0_1.length c0_1], .int .i64 a1, .int .i64 t169, .int .i64 x7_3] (by rfl) rfl rfl ?_
                        with_reducible refine (spec_l24Two.calls a0_0 _ _ l0_1 a1 t169 x7_3 t170 _ ?side1 ?side2 A16.out).mono ?_
                        (case side1 => exact cb_ HR0_1.out HB.out); (case side2 => exact HC0_1.out); rintro e w23 ⟨rfl, hb⟩; refine ⟨_, rfl, ?_⟩; replace BK166 := ak (blk_below (bk_ BK166.out) hb); replace HB := ak (below_step (bs1_ HB.out GE166.out) hb); (try clear hb); (try clear hb2); (try clear hk); (try clear hi); refine hK.out _ _ ⟨(blk_cell BK166.out 0).trans rfl, (blk_cell BK166.out 1).trans rfl⟩ (fun hHeld => ?_); clear hK K; refine norm_ (a' := ?_) ?_ ?_
                        rotate_left
                        · show Act.put _ (some 45) _ = _
                          simp only [Act.put, List.setIfInBounds_toArray, List.set_cons_zero, List.set_cons_succ, i64_w, i32_w]
                          rfl
                        refine one_ (i := 16) (N := some 53) (bm 19 131071) rfl rfl (one_of HT_.out (by kernel_rfl)) (by decide) (fun K hK => ?_); refine goesB_ Try.func143 (by kernel_rfl) rfl #[.agg #[.int .i64 a0_0, .slice A0_1 l0_1.length c0_1], .int .i64 a1, .int .i64 x6_2, .int .i64 x7_3] (by rfl) rfl rfl ?_
                        with_reducible refine (spec_l24Two.calls a0_0 _ _ l0_1 a1 x6_2 x7_3 t171 _ ?side1 ?side2 A17.out).mono ?_
                        (case side1 => exact cb_ HR0_1.out HB.out); (case side2 => exact HC0_1.out); rintro e w24 ⟨rfl, hb⟩; refine ⟨_, rfl, ?_⟩; replace BK166 := ak (blk_below (bk_ BK166.out) hb); replace HB := ak (below_step (bs1_ HB.out GE166.out) hb); (try clear hb); (try clear hb2); (try clear hk); (try clear hi); refine hK.out _ _ ⟨(blk_cell BK166.out 0).trans rfl, (blk_cell BK166.out 1).trans rfl⟩ (fun hHeld => ?_); clear hK K; refine norm_ (a' := ?_) ?_ ?_
                        rotate_left
                        · show Act.put _ (some 53) _ = _
                          simp only [Act.put, List.setIfInBounds_toArray, List.set_cons_zero, List.set_cons_succ, i64_w, i32_w]
                          rfl
                        refine one_ (i := 17) (N := some 54) (bm 19 262143) rfl rfl (one_of HT_.out (by kernel_rfl)) (by decide) (fun K hK => ?_); refine goesB_ Try.func143 (by kernel_rfl) rfl #[.agg #[.int .i64 a0_0, .slice A0_1 l0_1.length c0_1], .int .i64 a1, .int .i64 x5_1, .int .i64 t171] (by rfl) rfl rfl ?_
                        with_reducible refine (spec_l24Two.calls a0_0 _ _ l0_1 a1 x5_1 t171 t172 _ ?side1 ?side2 A18.out).mono ?_
                        (case side1 => exact cb_ HR0_1.out HB.out); (case side2 => exact HC0_1.out); rintro e w25 ⟨rfl, hb⟩; refine ⟨_, rfl, ?_⟩; replace BK166 := ak (blk_below (bk_ BK166.out) hb); replace HB := ak (below_step (bs1_ HB.out GE166.out) hb); (try clear hb); (try clear hb2); (try clear hk); (try clear hi); refine hK.out _ _ ⟨(blk_cell BK166.out 0).trans rfl, (blk_cell BK166.out 1).trans rfl⟩ (fun hHeld => ?_); clear hK K; refine norm_ (a' := ?_) ?_ ?_
                        rotate_left
                        · show Act.put _ (some 54) _ = _
                          simp only [Act.put, List.setIfInBounds_toArray, List.set_cons_zero, List.set_cons_succ, i64_w, i32_w]
                          rfl
                        refine pv_ 18 ?_; refine done_ (done_of HT_.out (by kernel_rfl)) ?_
                        try go_wp2
                        go_roundg k3
                        case measure => have := HK1.out; have := HK2.out; have := HK3.out; omega
                        case rel => exact ⟨(wrap64 (x7_3 + 1)), (by first | rfl | (simp; done) | (simp [*]; done)), H', ⟨by have := HK1.out; have := HK2.out; have := HK3.out; omega⟩, ⟨bk_ BK166.out⟩, ⟨bs1_ HB.out GE166.out⟩⟩
                      rw [if_neg c19] at H; have c19b0 : (t170 == t172) = false := beq_eq_false_iff_ne.mpr c19; have c19b1 : (t170 != t172) = true := bne_iff_ne.mpr c19; obtain rfl := Option.some.inj H; have hcz26_0 := bc_ BK166.out 0; have hcz26_1 := bc_ BK166.out 1; have hfz26_0 := blk_frozen BK166.out 0; have hfz26_1 := blk_frozen BK166.out 1
                      try go_wp2
                      replace BK166 := ak (blk_drew BK166.out); replace HB := ak (below_drew1 HB.out); refine start_ (n := 19) (S := fun w' => w'.cell? ⟨gb166, 0, none⟩ = some (.int .i64 a0_0) ∧ w'.cell? ⟨gb166, 1, none⟩ = some (.slice A0_1 l0_1.length c0_1)) (ds := []) (bm 19 0) (by kernel_rfl) rfl (by kernel_rfl) ⟨(blk_cell BK166.out 0).trans rfl, (blk_cell BK166.out 1).trans rfl⟩ (fun hHeld => ?_); refine with_tabW spec_l24Blind.tab12 spec_l24Blind.bits12 (fun HT_ HW_ => ?_)
                      generalize wr.drew = w27 at BK166 HB hHeld ⊢
                      refine pv_ 1 ?_; refine pv_ 3 ?_; refine pv_ 4 ?_; refine pv_ 5 ?_; refine pv_ 7 ?_; refine pv_ 10 ?_; refine pv_ 11 ?_; refine pv_ 13 ?_; refine pv_ 14 ?_; refine pv_ 15 ?_; refine tv_ 0 hHeld ?_; refine tv_ 2 hHeld ?_; refine tv_ 9 hHeld ?_; refine tv_ 12 hHeld ?_; refine one_ (i := 6) (N := some 43) (bm 19 65279) rfl rfl (one_of HT_.out (by kernel_rfl)) (by decide) (fun K hK => ?_); refine goesB_ Try.func143 (by kernel_rfl) rfl #[.agg #[.int .i64 a0_0, .slice A0_1 l0_1.length c0_1], .int .i64 a1, .int .i64 x5_1, .int .i64 x6_2] (by rfl) rfl rfl ?_
                      with_reducible refine (spec_l24Two.calls a0_0 _ _ l0_1 a1 x5_1 x6_2 t169 _ ?side1 ?side2 A15.out).mono ?_
                      (case side1 => exact cb_ HR0_1.out HB.out); (case side2 => exact HC0_1.out); rintro e w28 ⟨rfl, hb⟩; refine ⟨_, rfl, ?_⟩; replace BK166 := ak (blk_below (bk_ BK166.out) hb); replace HB := ak (below_step (bs1_ HB.out GE166.out) hb); (try clear hb); (try clear hb2); (try clear hk); (try clear hi); refine hK.out _ _ ⟨(blk_cell BK166.out 0).trans rfl, (blk_cell BK166.out 1).trans rfl⟩ (fun hHeld => ?_); clear hK K; refine norm_ (a' := ?_) ?_ ?_
                      rotate_left
                      · show Act.put _ (some 43) _ = _
                        simp only [Act.put, List.setIfInBounds_toArray, List.set_cons_zero, List.set_cons_succ, i64_w, i32_w]
                        rfl
                      refine one_ (i := 8) (N := some 45) (bm 19 65535) rfl rfl (one_of HT_.out (by kernel_rfl)) (by decide) (fun K hK => ?_); refine goesB_ Try.func143 (by kernel_rfl) rfl #[.agg #[.int .i64 a0_0, .slice A0_1 l0_1.length c0_1], .int .i64 a1, .int .i64 t169, .int .i64 x7_3] (by rfl) rfl rfl ?_
                      with_reducible refine (spec_l24Two.calls a0_0 _ _ l0_1 a1 t169 x7_3 t170 _ ?side1 ?side2 A16.out).mono ?_
                      (case side1 => exact cb_ HR0_1.out HB.out); (case side2 => exact HC0_1.out); rintro e w29 ⟨rfl, hb⟩; refine ⟨_, rfl, ?_⟩; replace BK166 := ak (blk_below (bk_ BK166.out) hb); replace HB := ak (below_step (bs1_ HB.out GE166.out) hb); (try clear hb); (try clear hb2); (try clear hk); (try clear hi); refine hK.out _ _ ⟨(blk_cell BK166.out 0).trans rfl, (blk_cell BK166.out 1).trans rfl⟩ (fun hHeld => ?_); clear hK K; refine norm_ (a' := ?_) ?_ ?_
                      rotate_left
                      · show Act.put _ (some 45) _ = _
                        simp only [Act.put, List.setIfInBounds_toArray, List.set_cons_zero, List.set_cons_succ, i64_w, i32_w]
                        rfl
                      refine one_ (i := 16) (N := some 53) (bm 19 131071) rfl rfl (one_of HT_.out (by kernel_rfl)) (by decide) (fun K hK => ?_); refine goesB_ Try.func143 (by kernel_rfl) rfl #[.agg #[.int .i64 a0_0, .slice A0_1 l0_1.length c0_1], .int .i64 a1, .int .i64 x6_2, .int .i64 x7_3] (by rfl) rfl rfl ?_
                      with_reducible refine (spec_l24Two.calls a0_0 _ _ l0_1 a1 x6_2 x7_3 t171 _ ?side1 ?side2 A17.out).mono ?_
                      (case side1 => exact cb_ HR0_1.out HB.out); (case side2 => exact HC0_1.out); rintro e w30 ⟨rfl, hb⟩; refine ⟨_, rfl, ?_⟩; replace BK166 := ak (blk_below (bk_ BK166.out) hb); replace HB := ak (below_step (bs1_ HB.out GE166.out) hb); (try clear hb); (try clear hb2); (try clear hk); (try clear hi); refine hK.out _ _ ⟨(blk_cell BK166.out 0).trans rfl, (blk_cell BK166.out 1).trans rfl⟩ (fun hHeld => ?_); clear hK K; refine norm_ (a' := ?_) ?_ ?_
                      rotate_left
                      · show Act.put _ (some 53) _ = _
                        simp only [Act.put, List.setIfInBounds_toArray, List.set_cons_zero, List.set_cons_succ, i64_w, i32_w]
                        rfl
                      refine one_ (i := 17) (N := some 54) (bm 19 262143) rfl rfl (one_of HT_.out (by kernel_rfl)) (by decide) (fun K hK => ?_); refine goesB_ Try.func143 (by kernel_rfl) rfl #[.agg #[.int .i64 a0_0, .slice A0_1 l0_1.length c0_1], .int .i64 a1, .int .i64 x5_1, .int .i64 t171] (by rfl) rfl rfl ?_
                      with_reducible refine (spec_l24Two.calls a0_0 _ _ l0_1 a1 x5_1 t171 t172 _ ?side1 ?side2 A18.out).mono ?_
                      (case side1 => exact cb_ HR0_1.out HB.out); (case side2 => exact HC0_1.out); rintro e w31 ⟨rfl, hb⟩; refine ⟨_, rfl, ?_⟩; replace BK166 := ak (blk_below (bk_ BK166.out) hb); replace HB := ak (below_step (bs1_ HB.out GE166.out) hb); (try clear hb); (try clear hb2); (try clear hk); (try clear hi); refine hK.out _ _ ⟨(blk_cell BK166.out 0).trans rfl, (blk_cell BK166.out 1).trans rfl⟩ (fun hHeld => ?_); clear hK K; refine norm_ (a' := ?_) ?_ ?_
                      rotate_left
                      · show Act.put _ (some 54) _ = _
                        simp only [Act.put, List.setIfInBounds_toArray, List.set_cons_zero, List.set_cons_succ, i64_w, i32_w]
                        rfl
                      refine pv_ 18 ?_; refine done_ (done_of HT_.out (by kernel_rfl)) ?_
                      try go_wp2
                      go_ret
                      exact fin_ (bs1_ HB.out GE166.out)
                    rw [if_neg c14] at H; have c14b0 := decide_eq_false c14; clear c14; have H' := ak H; clear H; have hcz32_0 := bc_ BK166.out 0; have hcz32_1 := bc_ BK166.out 1; have hfz32_0 := blk_frozen BK166.out 0; have hfz32_1 := blk_frozen BK166.out 1
                    go_wp2
                    go_roundg k3
                    case measure => have := HK1.out; have := HK2.out; have := HK3.out; omega
                    case rel => exact ⟨(wrap64 (x6_2 + 1)), (by first | rfl | (simp; done) | (simp [*]; done)), H', ⟨by have := HK1.out; have := HK2.out; have := HK3.out; omega⟩, ⟨bk_ BK166.out⟩, ⟨bs1_ HB.out GE166.out⟩⟩
              rw [if_neg c9] at H; have c9b0 : (t167 == t168) = false := beq_eq_false_iff_ne.mpr c9; have c9b1 : (t167 != t168) = true := bne_iff_ne.mpr c9; obtain rfl := Option.some.inj H; have hcz33_0 := bc_ BK166.out 0; have hcz33_1 := bc_ BK166.out 1; have hfz33_0 := blk_frozen BK166.out 0; have hfz33_1 := blk_frozen BK166.out 1
              try go_wp2
              replace BK166 := ak (blk_drew BK166.out); replace HB := ak (below_drew1 HB.out); refine start_ (n := 11) (S := fun w' => w'.cell? ⟨gb166, 0, none⟩ = some (.int .i64 a0_0) ∧ w'.cell? ⟨gb166, 1, none⟩ = some (.slice A0_1 l0_1.length c0_1)) (ds := []) (bm 11 0) (by kernel_rfl) rfl (by kernel_rfl) ⟨(blk_cell BK166.out 0).trans rfl, (blk_cell BK166.out 1).trans rfl⟩ (fun hHeld => ?_); refine with_tabW spec_l24Blind.tab7 spec_l24Blind.bits7 (fun HT_ HW_ => ?_)
              generalize wr.drew = w34 at BK166 HB hHeld ⊢
              refine pv_ 1 ?_; refine pv_ 2 ?_; refine pv_ 3 ?_; refine pv_ 6 ?_; refine pv_ 7 ?_; refine pv_ 8 ?_; refine tv_ 0 hHeld ?_; refine tv_ 5 hHeld ?_; refine one_ (i := 4) (N := some 24) (bm 11 511) rfl rfl (one_of HT_.out (by kernel_rfl)) (by decide) (fun K hK => ?_); refine goesB_ Try.func143 (by kernel_rfl) rfl #[.agg #[.int .i64 a0_0, .slice A0_1 l0_1.length c0_1], .int .i64 a1, .int .i64 x5_1, .int .i64 x6_2] (by rfl) rfl rfl ?_
              with_reducible refine (spec_l24Two.calls a0_0 _ _ l0_1 a1 x5_1 x6_2 t167 _ ?side1 ?side2 A7.out).mono ?_
              (case side1 => exact cb_ HR0_1.out HB.out); (case side2 => exact HC0_1.out); rintro e w35 ⟨rfl, hb⟩; refine ⟨_, rfl, ?_⟩; replace BK166 := ak (blk_below (bk_ BK166.out) hb); replace HB := ak (below_step (bs1_ HB.out GE166.out) hb); (try clear hb); (try clear hb2); (try clear hk); (try clear hi); refine hK.out _ _ ⟨(blk_cell BK166.out 0).trans rfl, (blk_cell BK166.out 1).trans rfl⟩ (fun hHeld => ?_); clear hK K; refine norm_ (a' := ?_) ?_ ?_
              rotate_left
              · show Act.put _ (some 24) _ = _
                simp only [Act.put, List.setIfInBounds_toArray, List.set_cons_zero, List.set_cons_succ, i64_w, i32_w]
                rfl
              refine one_ (i := 9) (N := some 29) (bm 11 1023) rfl rfl (one_of HT_.out (by kernel_rfl)) (by decide) (fun K hK => ?_); refine goesB_ Try.func143 (by kernel_rfl) rfl #[.agg #[.int .i64 a0_0, .slice A0_1 l0_1.length c0_1], .int .i64 a1, .int .i64 x6_2, .int .i64 x5_1] (by rfl) rfl rfl ?_
              with_reducible refine (spec_l24Two.calls a0_0 _ _ l0_1 a1 x6_2 x5_1 t168 _ ?side1 ?side2 A8.out).mono ?_
              (case side1 => exact cb_ HR0_1.out HB.out); (case side2 => exact HC0_1.out); rintro e w36 ⟨rfl, hb⟩; refine ⟨_, rfl, ?_⟩; replace BK166 := ak (blk_below (bk_ BK166.out) hb); replace HB := ak (below_step (bs1_ HB.out GE166.out) hb); (try clear hb); (try clear hb2); (try clear hk); (try clear hi); refine hK.out _ _ ⟨(blk_cell BK166.out 0).trans rfl, (blk_cell BK166.out 1).trans rfl⟩ (fun hHeld => ?_); clear hK K; refine norm_ (a' := ?_) ?_ ?_
              rotate_left
              · show Act.put _ (some 29) _ = _
                simp only [Act.put, List.setIfInBounds_toArray, List.set_cons_zero, List.set_cons_succ, i64_w, i32_w]
                rfl
              refine pv_ 10 ?_; refine done_ (done_of HT_.out (by kernel_rfl)) ?_
              try go_wp2
              go_ret
              exact fin_ (bs1_ HB.out GE166.out)
            rw [if_neg c6] at H; have c6b0 := decide_eq_false c6; clear c6; have H' := ak H; clear H; have hcz37_0 := bc_ BK166.out 0; have hcz37_1 := bc_ BK166.out 1; have hfz37_0 := blk_frozen BK166.out 0; have hfz37_1 := blk_frozen BK166.out 1
            go_wp2
            go_roundg k2
            case measure => have := HK1.out; have := HK2.out; omega
            case rel => exact ⟨(wrap64 (x5_1 + 1)), (by first | rfl | (simp; done) | (simp [*]; done)), H', ⟨by have := HK1.out; have := HK2.out; omega⟩, ⟨bk_ BK166.out⟩, ⟨bs1_ HB.out GE166.out⟩⟩
      rw [if_neg c4] at H; have c4b0 := decide_eq_false c4; clear c4; obtain rfl := Option.some.inj H; have hcz38_0 := bc_ BK166.out 0; have hcz38_1 := bc_ BK166.out 1; have hfz38_0 := blk_frozen BK166.out 0; have hfz38_1 := blk_frozen BK166.out 1
      go_wp2
      go_ret
      exact fin_ (bs1_ HB.out GE166.out)

/-! ### spec_WorldOk: function 31 -/
mutual
def spec_WorldOk.j0 : Nat → List (I_Sym) → Bool → Int → List (List Int) → Option (Bool)
  | 0, _, _, _, _ => none
  | k + 1, x0, x23, x174000, x174001 => if x23 = true then (some false) else (spec_WorldOk.l0 k x0 0 x174000 x174001)
def spec_WorldOk.l0 : Nat → List (I_Sym) → Int → Int → List (List Int) → Option (Bool)
  | 0, _, _, _, _ => none
  | k + 1, x0, x5, x174000, x174001 => if x5 < (x0.length : Int) then (if 0 ≤ x5 then (if x5 < (x174001.length : Int) then ((spec_l24Power.f k x174000 ((rd_I_Sym x0 x5).f1)).bind fun t178 => (if ((rd_Ls_i64 x174001 x5).length : Int) = t178 then (spec_WorldOk.l1 k x0 x5 0 x174000 x174001) else (some false))) else (none)) else (none)) else (some true)
def spec_WorldOk.l1 : Nat → List (I_Sym) → Int → Int → Int → List (List Int) → Option (Bool)
  | 0, _, _, _, _, _ => none
  | k + 1, x0, x5, x6, x174000, x174001 => if 0 ≤ x5 then (if x5 < (x174001.length : Int) then (if x6 < ((rd_Ls_i64 x174001 x5).length : Int) then (if 0 ≤ x6 then ((spec_l1In.f (rd (rd_Ls_i64 x174001 x5) x6) 0 (wrap64 (x174000 - 1))).bind fun t182 => (if t182 = true then (spec_WorldOk.l1 k x0 x5 (wrap64 (x6 + 1)) x174000 x174001) else (some false))) else (none)) else (if x5 < (x0.length : Int) then (if (rd_I_Sym x0 x5).f2 = true then ((spec_l24Blind.f k x174000 x174001 x5).bind fun t184 => (if t184 = true then (spec_WorldOk.l0 k x0 (wrap64 (x5 + 1)) x174000 x174001) else (some false))) else (spec_WorldOk.l0 k x0 (wrap64 (x5 + 1)) x174000 x174001)) else (none))) else (none)) else (none)
end
def spec_WorldOk.f (k : Nat) (l0 : List (I_Sym)) (a1_0 : Int) (l1_1 : List (List Int)) : Option (Bool) := (spec_SigOk.f k l0).bind fun t174 => (if t174 = true then ((spec_l1In.f a1_0 1 4).bind fun t175 => (if t175 = true then (spec_WorldOk.j0 k l0 ((l1_1.length : Int) != (l0.length : Int)) a1_0 l1_1) else (spec_WorldOk.j0 k l0 true a1_0 l1_1))) else (spec_WorldOk.j0 k l0 true a1_0 l1_1))
theorem spec_WorldOk.mono_l : ∀ k, (∀ y0 y1 y2 y3, LeO (spec_WorldOk.j0 k y0 y1 y2 y3) (spec_WorldOk.j0 (k + 1) y0 y1 y2 y3)) ∧ (∀ y0 y1 y2 y3, LeO (spec_WorldOk.l0 k y0 y1 y2 y3) (spec_WorldOk.l0 (k + 1) y0 y1 y2 y3)) ∧ (∀ y0 y1 y2 y3 y4, LeO (spec_WorldOk.l1 k y0 y1 y2 y3 y4) (spec_WorldOk.l1 (k + 1) y0 y1 y2 y3 y4))
  | 0 => ⟨fun _ _ _ _ r h => by simp [spec_WorldOk.j0] at h, fun _ _ _ _ r h => by simp [spec_WorldOk.l0] at h, fun _ _ _ _ _ r h => by simp [spec_WorldOk.l1] at h⟩
  | k + 1 => by
    obtain ⟨ih0, ih1, ih2⟩ := spec_WorldOk.mono_l k; refine ⟨?_, ?_, ?_⟩
    · intro y0 y1 y2 y3
      unfold spec_WorldOk.j0
      repeat' first | (with_reducible first | exact ih0 _ _ _ _ | exact ih1 _ _ _ _ | exact ih2 _ _ _ _ _ | exact spec_SigOk.mono _ _ | exact spec_l24Blind.mono _ _ _ _ | exact spec_l24Power.mono _ _ _ | exact LeO.refl _ | exact LeO.none _ | refine LeO.ite ?_ ?_ | refine LeO.bind ?_ (fun _ => ?_)) | exact ih0 _ _ _ _ | exact ih1 _ _ _ _ | exact ih2 _ _ _ _ _ | exact spec_SigOk.mono _ _ | exact spec_l24Blind.mono _ _ _ _ | exact spec_l24Power.mono _ _ _ | exact LeO.none _ | refine LeO.ite ?_ ?_ | refine LeO.bind ?_ (fun _ => ?_)
    · intro y0 y1 y2 y3
      unfold spec_WorldOk.l0
      repeat' first | (with_reducible first | exact ih0 _ _ _ _ | exact ih1 _ _ _ _ | exact ih2 _ _ _ _ _ | exact spec_SigOk.mono _ _ | exact spec_l24Blind.mono _ _ _ _ | exact spec_l24Power.mono _ _ _ | exact LeO.refl _ | exact LeO.none _ | refine LeO.ite ?_ ?_ | refine LeO.bind ?_ (fun _ => ?_)) | exact ih0 _ _ _ _ | exact ih1 _ _ _ _ | exact ih2 _ _ _ _ _ | exact spec_SigOk.mono _ _ | exact spec_l24Blind.mono _ _ _ _ | exact spec_l24Power.mono _ _ _ | exact LeO.none _ | refine LeO.ite ?_ ?_ | refine LeO.bind ?_ (fun _ => ?_)
    · intro y0 y1 y2 y3 y4
      unfold spec_WorldOk.l1
      repeat' first | (with_reducible first | exact ih0 _ _ _ _ | exact ih1 _ _ _ _ | exact ih2 _ _ _ _ _ | exact spec_SigOk.mono _ _ | exact spec_l24Blind.mono _ _ _ _ | exact spec_l24Power.mono _ _ _ | exact LeO.refl _ | exact LeO.none _ | refine LeO.ite ?_ ?_ | refine LeO.bind ?_ (fun _ => ?_)) | exact ih0 _ _ _ _ | exact ih1 _ _ _ _ | exact ih2 _ _ _ _ _ | exact spec_SigOk.mono _ _ | exact spec_l24Blind.mono _ _ _ _ | exact spec_l24Power.mono _ _ _ | exact LeO.none _ | refine LeO.ite ?_ ?_ | refine LeO.bind ?_ (fun _ => ?_)
theorem spec_WorldOk.mono : ∀ a0 a1 a2 k, LeO (spec_WorldOk.f k a0 a1 a2) (spec_WorldOk.f (k + 1) a0 a1 a2) := by
  intro a0 a1 a2 k; obtain ⟨ih0, ih1, ih2⟩ := spec_WorldOk.mono_l k
  unfold spec_WorldOk.f
  repeat' first
      | (with_reducible exact ih0 _ _ _ _)
      | (with_reducible exact ih1 _ _ _ _)
      | (with_reducible exact ih2 _ _ _ _ _)
      | (with_reducible exact spec_SigOk.mono _ _)
      | (with_reducible exact spec_l24Blind.mono _ _ _ _)
      | (with_reducible exact spec_l24Power.mono _ _ _)
      | (with_reducible exact LeO.refl _)
      | (with_reducible exact LeO.none _)
      | (with_reducible refine LeO.ite ?_ ?_)
      | (with_reducible refine LeO.bind ?_ (fun _ => ?_))
      | exact ih0 _ _ _ _
      | exact ih1 _ _ _ _
      | exact ih2 _ _ _ _ _
      | exact spec_SigOk.mono _ _
      | exact spec_l24Blind.mono _ _ _ _
      | exact spec_l24Power.mono _ _ _
      | exact LeO.none _
      | refine LeO.ite ?_ ?_
      | refine LeO.bind ?_ (fun _ => ?_)
set_option maxHeartbeats 8000000 in
set_option maxRecDepth 100000 in
theorem spec_WorldOk.calls (k : Nat) (A0 : Option Addr) (c0 : Nat) (l0 : List (I_Sym)) (a1_0 : Int) (A1_1 : Option Addr) (c1_1 : Nat) (l1_1 : List (List Int)) (r : Bool) (w : World) (hr0 : Kd.C k99 w A0 l0.length l0) (hc0 : l0.length ≤ c0) (hr1_1 : Kd.C (Kd.slice 3 (Kd.int .i64)) w A1_1 l1_1.length l1_1) (hc1_1 : l1_1.length ≤ c1_1) (h : spec_WorldOk.f k l0 a1_0 l1_1 = some r) :
    Calls Try.prog 31 #[.slice A0 l0.length c0, .agg #[.int .i64 a1_0, .slice A1_1 l1_1.length c1_1]] w fun e w' => e = .returned (.bool r) ∧ Below w.heap.size w w' := by
  have hu51 := Try.underlying51; have HR0 := ak hr0; have HC0 := ak hc0; clear hr0 hc0; have HR1_1 := ak hr1_1; have HC1_1 := ak hc1_1; clear hr1_1 hc1_1; have HB := ak (Below.refl w.heap.size w); have H : ((spec_SigOk.f k l0).bind fun t174 => (if t174 = true then ((spec_l1In.f a1_0 1 4).bind fun t175 => (if t175 = true then (spec_WorldOk.j0 k l0 ((l1_1.length : Int) != (l0.length : Int)) a1_0 l1_1) else (spec_WorldOk.j0 k l0 true a1_0 l1_1))) else (spec_WorldOk.j0 k l0 true a1_0 l1_1))) = some r := h; clear h; have HC3 := ak H; clear H
  go_enter Try.func31, Try.ntmps31
  go_upto_region 1 with (first | ((with_reducible refine gate_dst (N := 3) rfl ?_); (try (refine gate_guard (by rfl) ?_; dsimp only)); refine bxe_ (N := 3) (cs := #[.int .i64 a1_0, .slice A1_1 l1_1.length c1_1]) (t := 51) ?_; intro gb173 hg w4 hbox hb; have BK173 := ak (hbox); have GW173 := ak (lg_ hg (bl_ HB.out)); have GE173 := ak (lg_ hg (bl_ HB.out)); replace HB := ak (below_step (bl_ HB.out) hb); clear hb hbox hg))
  repeat (go_quiet (first | ((with_reducible refine gate_dst (N := 3) rfl ?_); (try (refine gate_guard (by rfl) ?_; dsimp only)); refine bxe_ (N := 3) (cs := #[.int .i64 a1_0, .slice A1_1 l1_1.length c1_1]) (t := 51) ?_; intro gb173 hg w4 hbox hb; have BK173 := ak (hbox); have GW173 := ak (lg_ hg (bl_ HB.out)); have GE173 := ak (lg_ hg (bl_ HB.out)); replace HB := ak (below_step (bl_ HB.out) hb); clear hb hbox hg)); go_upto_region 1 with (first | ((with_reducible refine gate_dst (N := 3) rfl ?_); (try (refine gate_guard (by rfl) ?_; dsimp only)); refine bxe_ (N := 3) (cs := #[.int .i64 a1_0, .slice A1_1 l1_1.length c1_1]) (t := 51) ?_; intro gb173 hg w4 hbox hb; have BK173 := ak (hbox); have GW173 := ak (lg_ hg (bl_ HB.out)); have GE173 := ak (lg_ hg (bl_ HB.out)); replace HB := ak (below_step (bl_ HB.out) hb); clear hb hbox hg)))
  (try simp only [Act.put, List.setIfInBounds_toArray, List.set_cons_zero, List.set_cons_succ])
  go_cut [23] (fun v23 wc => ∃ (kq : Nat) (x23_2 : Bool), v23 = .bool x23_2 ∧ Aside0 (spec_WorldOk.j0 kq l0 x23_2 a1_0 l1_1 = some r) ∧ Aside0 (kq ≤ k) ∧ Aside0 (wc.heap[gb173]? = some (.cells #[.int .i64 a1_0, (.slice A1_1 l1_1.length c1_1)] 51 (0, 0))) ∧ Aside0 (Below w.heap.size w wc))
  case first =>
    have H := HC3.out; clear HC3; replace H := Option.bind_eq_some_iff.mp H; obtain ⟨t174, A50, H⟩ := H; have A5 := ak A50; clear A50
    by_cases c6 : t174 = true
    · subst c6; rw [if_pos rfl] at H; replace H := Option.bind_eq_some_iff.mp H; obtain ⟨t175, A70, H⟩ := H; have A7 := ak A70; clear A70
      by_cases c8 : t175 = true
      · subst c8; rw [if_pos rfl] at H; have H' := ak H; clear H
        go_wp2_with (first | (go_at_call 78; (with_reducible refine (spec_SigOk.calls k _ _ l0 true _ ?side1 ?side2 A5.out).mono ?_); (case side1 => exact cb_ HR0.out HB.out); (case side2 => exact HC0.out); rintro e w' ⟨rfl, ⟨nd, rfl⟩⟩; (try first | exact ⟨rfl, _, World.drewN_drewN _ _ _⟩ | exact ⟨rfl, _, Eq.trans (World.drewN_drewN _ _ _) (congrArg (World.drewN _) (Nat.add_assoc _ _ _))⟩); have hcz9_0 := bc_ BK173.out 0; have hcz9_1 := bc_ BK173.out 1; have hfz9_0 := blk_frozen BK173.out 0; have hfz9_1 := blk_frozen BK173.out 1) | (go_at_call 79; (with_reducible refine (spec_l1In.calls a1_0 1 4 true _ A7.out).mono ?_); rintro e w' ⟨rfl, ⟨nd, rfl⟩⟩; (try first | exact ⟨rfl, _, World.drewN_drewN _ _ _⟩ | exact ⟨rfl, _, Eq.trans (World.drewN_drewN _ _ _) (congrArg (World.drewN _) (Nat.add_assoc _ _ _))⟩)))
        repeat (go_quiet (first | (go_at_call 78; (with_reducible refine (spec_SigOk.calls k _ _ l0 true _ ?side1 ?side2 A5.out).mono ?_); (case side1 => exact cb_ HR0.out HB.out); (case side2 => exact HC0.out); rintro e w' ⟨rfl, ⟨nd, rfl⟩⟩; (try first | exact ⟨rfl, _, World.drewN_drewN _ _ _⟩ | exact ⟨rfl, _, Eq.trans (World.drewN_drewN _ _ _) (congrArg (World.drewN _) (Nat.add_assoc _ _ _))⟩); have hcz9_0 := bc_ BK173.out 0; have hcz9_1 := bc_ BK173.out 1; have hfz9_0 := blk_frozen BK173.out 0; have hfz9_1 := blk_frozen BK173.out 1) | (go_at_call 79; (with_reducible refine (spec_l1In.calls a1_0 1 4 true _ A7.out).mono ?_); rintro e w' ⟨rfl, ⟨nd, rfl⟩⟩; (try first | exact ⟨rfl, _, World.drewN_drewN _ _ _⟩ | exact ⟨rfl, _, Eq.trans (World.drewN_drewN _ _ _) (congrArg (World.drewN _) (Nat.add_assoc _ _ _))⟩))); try go_wp2_with (first | (go_at_call 78; (with_reducible refine (spec_SigOk.calls k _ _ l0 true _ ?side1 ?side2 A5.out).mono ?_); (case side1 => exact cb_ HR0.out HB.out); (case side2 => exact HC0.out); rintro e w' ⟨rfl, ⟨nd, rfl⟩⟩; (try first | exact ⟨rfl, _, World.drewN_drewN _ _ _⟩ | exact ⟨rfl, _, Eq.trans (World.drewN_drewN _ _ _) (congrArg (World.drewN _) (Nat.add_assoc _ _ _))⟩); have hcz9_0 := bc_ BK173.out 0; have hcz9_1 := bc_ BK173.out 1; have hfz9_0 := blk_frozen BK173.out 0; have hfz9_1 := blk_frozen BK173.out 1) | (go_at_call 79; (with_reducible refine (spec_l1In.calls a1_0 1 4 true _ A7.out).mono ?_); rintro e w' ⟨rfl, ⟨nd, rfl⟩⟩; (try first | exact ⟨rfl, _, World.drewN_drewN _ _ _⟩ | exact ⟨rfl, _, Eq.trans (World.drewN_drewN _ _ _) (congrArg (World.drewN _) (Nat.add_assoc _ _ _))⟩))))
        go_meet
        case rel => exact ⟨_, (((l1_1.length : Int) != (l0.length : Int))), (by first | rfl | (simp; done) | (simp [*]; done)), H', ⟨by first | omega | exact Nat.le_refl _⟩, ⟨bk_ BK173.out⟩, ⟨bs1_ HB.out GE173.out⟩⟩
      replace c8 := Bool.eq_false_iff.mpr c8; subst c8; rw [if_neg (show ¬ (false = true) by decide)] at H; have H' := ak H; clear H
      go_wp2_with (first | (go_at_call 78; (with_reducible refine (spec_SigOk.calls k _ _ l0 true _ ?side1 ?side2 A5.out).mono ?_); (case side1 => exact cb_ HR0.out HB.out); (case side2 => exact HC0.out); rintro e w' ⟨rfl, ⟨nd, rfl⟩⟩; (try first | exact ⟨rfl, _, World.drewN_drewN _ _ _⟩ | exact ⟨rfl, _, Eq.trans (World.drewN_drewN _ _ _) (congrArg (World.drewN _) (Nat.add_assoc _ _ _))⟩); have hcz10_0 := bc_ BK173.out 0; have hcz10_1 := bc_ BK173.out 1; have hfz10_0 := blk_frozen BK173.out 0; have hfz10_1 := blk_frozen BK173.out 1) | (go_at_call 79; (with_reducible refine (spec_l1In.calls a1_0 1 4 false _ A7.out).mono ?_); rintro e w' ⟨rfl, ⟨nd, rfl⟩⟩; (try first | exact ⟨rfl, _, World.drewN_drewN _ _ _⟩ | exact ⟨rfl, _, Eq.trans (World.drewN_drewN _ _ _) (congrArg (World.drewN _) (Nat.add_assoc _ _ _))⟩)))
      repeat (go_quiet (first | (go_at_call 78; (with_reducible refine (spec_SigOk.calls k _ _ l0 true _ ?side1 ?side2 A5.out).mono ?_); (case side1 => exact cb_ HR0.out HB.out); (case side2 => exact HC0.out); rintro e w' ⟨rfl, ⟨nd, rfl⟩⟩; (try first | exact ⟨rfl, _, World.drewN_drewN _ _ _⟩ | exact ⟨rfl, _, Eq.trans (World.drewN_drewN _ _ _) (congrArg (World.drewN _) (Nat.add_assoc _ _ _))⟩); have hcz10_0 := bc_ BK173.out 0; have hcz10_1 := bc_ BK173.out 1; have hfz10_0 := blk_frozen BK173.out 0; have hfz10_1 := blk_frozen BK173.out 1) | (go_at_call 79; (with_reducible refine (spec_l1In.calls a1_0 1 4 false _ A7.out).mono ?_); rintro e w' ⟨rfl, ⟨nd, rfl⟩⟩; (try first | exact ⟨rfl, _, World.drewN_drewN _ _ _⟩ | exact ⟨rfl, _, Eq.trans (World.drewN_drewN _ _ _) (congrArg (World.drewN _) (Nat.add_assoc _ _ _))⟩))); try go_wp2_with (first | (go_at_call 78; (with_reducible refine (spec_SigOk.calls k _ _ l0 true _ ?side1 ?side2 A5.out).mono ?_); (case side1 => exact cb_ HR0.out HB.out); (case side2 => exact HC0.out); rintro e w' ⟨rfl, ⟨nd, rfl⟩⟩; (try first | exact ⟨rfl, _, World.drewN_drewN _ _ _⟩ | exact ⟨rfl, _, Eq.trans (World.drewN_drewN _ _ _) (congrArg (World.drewN _) (Nat.add_assoc _ _ _))⟩); have hcz10_0 := bc_ BK173.out 0; have hcz10_1 := bc_ BK173.out 1; have hfz10_0 := blk_frozen BK173.out 0; have hfz10_1 := blk_frozen BK173.out 1) | (go_at_call 79; (with_reducible refine (spec_l1In.calls a1_0 1 4 false _ A7.out).mono ?_); rintro e w' ⟨rfl, ⟨nd, rfl⟩⟩; (try first | exact ⟨rfl, _, World.drewN_drewN _ _ _⟩ | exact ⟨rfl, _, Eq.trans (World.drewN_drewN _ _ _) (congrArg (World.drewN _) (Nat.add_assoc _ _ _))⟩))))
      go_meet
      case rel => exact ⟨_, (true), (by first | rfl | (simp; done) | (simp [*]; done)), H', ⟨by first | omega | exact Nat.le_refl _⟩, ⟨bk_ BK173.out⟩, ⟨bs1_ HB.out GE173.out⟩⟩
    replace c6 := Bool.eq_false_iff.mpr c6; subst c6; rw [if_neg (show ¬ (false = true) by decide)] at H; have H' := ak H; clear H
    go_wp2_with (first | (go_at_call 78; (with_reducible refine (spec_SigOk.calls k _ _ l0 false _ ?side1 ?side2 A5.out).mono ?_); (case side1 => exact cb_ HR0.out HB.out); (case side2 => exact HC0.out); rintro e w' ⟨rfl, ⟨nd, rfl⟩⟩; (try first | exact ⟨rfl, _, World.drewN_drewN _ _ _⟩ | exact ⟨rfl, _, Eq.trans (World.drewN_drewN _ _ _) (congrArg (World.drewN _) (Nat.add_assoc _ _ _))⟩)))
    repeat (go_quiet (first | (go_at_call 78; (with_reducible refine (spec_SigOk.calls k _ _ l0 false _ ?side1 ?side2 A5.out).mono ?_); (case side1 => exact cb_ HR0.out HB.out); (case side2 => exact HC0.out); rintro e w' ⟨rfl, ⟨nd, rfl⟩⟩; (try first | exact ⟨rfl, _, World.drewN_drewN _ _ _⟩ | exact ⟨rfl, _, Eq.trans (World.drewN_drewN _ _ _) (congrArg (World.drewN _) (Nat.add_assoc _ _ _))⟩))); try go_wp2_with (first | (go_at_call 78; (with_reducible refine (spec_SigOk.calls k _ _ l0 false _ ?side1 ?side2 A5.out).mono ?_); (case side1 => exact cb_ HR0.out HB.out); (case side2 => exact HC0.out); rintro e w' ⟨rfl, ⟨nd, rfl⟩⟩; (try first | exact ⟨rfl, _, World.drewN_drewN _ _ _⟩ | exact ⟨rfl, _, Eq.trans (World.drewN_drewN _ _ _) (congrArg (World.drewN _) (Nat.add_assoc _ _ _))⟩))))
    go_meet
    case rel => exact ⟨_, (true), (by first | rfl | (simp; done) | (simp [*]; done)), H', ⟨by first | omega | exact Nat.le_refl _⟩, ⟨bk_ BK173.out⟩, ⟨bs1_ HB.out GE173.out⟩⟩
  case rest =>
    clear HC3; (try clear c1); (try clear p2); (try clear c3); (try clear c6); (try clear c8); (try clear hcz10_0); (try clear hcz10_1); (try clear hcz9_0); (try clear hcz9_1); (try clear hfz10_0); (try clear hfz10_1); (try clear hfz9_0); (try clear hfz9_1); obtain ⟨kq, x23_2, rfl, HA, HJ2, BK173, HB⟩ := hcut
    cases kq with
    | zero => exact absurd HA.out (by simp [spec_WorldOk.j0])
    | succ kj2 =>
      have H := HA.out; clear HA
      simp only [spec_WorldOk.j0] at H
      by_cases c11 : x23_2 = true
      · subst c11; rw [if_pos rfl] at H; obtain rfl := Option.some.inj H
        go_wp2
        repeat (go_quiet (fail); try go_wp2)
        go_ret
        exact fin_ (bs1_ HB.out GE173.out)
      replace c11 := Bool.eq_false_iff.mpr c11; subst c11; rw [if_neg (show ¬ (false = true) by decide)] at H; have H' := ak H; clear H
      go_wp2
      repeat (go_quiet (fail); try go_wp2)
      go_loopg [5] kj2 (fun kq v5 w' => ∃ (x5_2 : Int), v5 = .int .i64 x5_2 ∧ Aside0 (spec_WorldOk.l0 kq l0 x5_2 a1_0 l1_1 = some r) ∧ Aside0 (kq ≤ kj2) ∧ Aside0 (w'.heap[gb173]? = some (.cells #[.int .i64 a1_0, (.slice A1_1 l1_1.length c1_1)] 51 (0, 0))) ∧ Aside0 (Below w.heap.size w w'))
      case atStart => exact ⟨(0), (by first | rfl | (simp; done) | (simp [*]; done)), H', ⟨Nat.le_refl _⟩, ⟨bk_ BK173.out⟩, ⟨bs1_ HB.out GE173.out⟩⟩
      case round =>
        clear H'; (try clear c1); (try clear p2); (try clear c3); (try clear c6); (try clear c8); (try clear c11); (try clear hcz10_0); (try clear hcz10_1); (try clear hcz9_0); (try clear hcz9_1); (try clear hfz10_0); (try clear hfz10_1); (try clear hfz9_0); (try clear hfz9_1); (try clear p2); obtain ⟨x5_2, rfl, HA, HK2, BK173, HB⟩ := hrel
        cases gk with
        | zero => exact absurd HA.out (by simp [spec_WorldOk.l0])
        | succ k2 =>
          have H := HA.out; clear HA
          simp only [spec_WorldOk.l0] at H
          by_cases c12 : x5_2 < (l0.length : Int)
          · rw [if_pos c12] at H; have c12b0 := decide_eq_true c12; clear c12
            by_cases c13 : 0 ≤ x5_2
            · rw [if_pos c13] at H; have c13b0 := decide_eq_true c13; clear c13
              by_cases c14 : x5_2 < (l1_1.length : Int)
              · rw [if_pos c14] at H; have c14b0 := decide_eq_true c14; clear c14; replace H := Option.bind_eq_some_iff.mp H; obtain ⟨t178, A150, H⟩ := H; have A15 := ak A150; clear A150
                by_cases c16 : ((rd_Ls_i64 l1_1 x5_2).length : Int) = t178
                · rw [if_pos c16] at H; have c16b0 : (((rd_Ls_i64 l1_1 x5_2).length : Int) == t178) = true := beq_iff_eq.mpr c16; have c16b1 : (((rd_Ls_i64 l1_1 x5_2).length : Int) != t178) = false := bne_eq_false_iff_eq.mpr c16; clear c16; have H' := ak H; clear H; have hcz17_0 := bc_ BK173.out 0; have hcz17_1 := bc_ BK173.out 1; have hfz17_0 := blk_frozen BK173.out 0; have hfz17_1 := blk_frozen BK173.out 1; have p176 : 0 ≤ (x5_2 : Int) := as_; have q176 : x5_2 < (l1_1.length : Int) := as_; obtain ⟨ad176, A176_0, c176_0, e176, hx176_0, hl176_0, hi176_0⟩ := at_L5 HR1_1.out x5_2 p176 q176
                  cases e176
                  replace hx176_0 := hbc_ HB.out hx176_0; have HR176_0 := ak hi176_0; have HC176_0 := ak hl176_0; clear hi176_0 hl176_0; replace p176 := eq_true p176; replace q176 := eq_true q176; have p177 : 0 ≤ (x5_2 : Int) := as_; have q177 : x5_2 < (l0.length : Int) := as_; obtain ⟨ad177, e177, hx177_0, hx177_1, hx177_2⟩ := at_T99 HR0.out x5_2 p177 q177
                  cases e177
                  replace hx177_0 := hbc_ HB.out hx177_0; replace hx177_1 := hbc_ HB.out hx177_1; replace hx177_2 := hbc_ HB.out hx177_2; replace p177 := eq_true p177; replace q177 := eq_true q177
                  go_wp2_with (first | (go_at_call 84; (with_reducible refine (spec_l24Power.calls k2 a1_0 ((rd_I_Sym l0 x5_2).f1) t178 _ A15.out).mono ?_); rintro e w' ⟨rfl, ⟨nd, rfl⟩⟩; (try first | exact ⟨rfl, _, World.drewN_drewN _ _ _⟩ | exact ⟨rfl, _, Eq.trans (World.drewN_drewN _ _ _) (congrArg (World.drewN _) (Nat.add_assoc _ _ _))⟩)))
                  repeat (go_quiet (first | (go_at_call 84; (with_reducible refine (spec_l24Power.calls k2 a1_0 ((rd_I_Sym l0 x5_2).f1) t178 _ A15.out).mono ?_); rintro e w' ⟨rfl, ⟨nd, rfl⟩⟩; (try first | exact ⟨rfl, _, World.drewN_drewN _ _ _⟩ | exact ⟨rfl, _, Eq.trans (World.drewN_drewN _ _ _) (congrArg (World.drewN _) (Nat.add_assoc _ _ _))⟩))); try go_wp2_with (first | (go_at_call 84; (with_reducible refine (spec_l24Power.calls k2 a1_0 ((rd_I_Sym l0 x5_2).f1) t178 _ A15.out).mono ?_); rintro e w' ⟨rfl, ⟨nd, rfl⟩⟩; (try first | exact ⟨rfl, _, World.drewN_drewN _ _ _⟩ | exact ⟨rfl, _, Eq.trans (World.drewN_drewN _ _ _) (congrArg (World.drewN _) (Nat.add_assoc _ _ _))⟩))))
                  go_loopg [6] k2 (fun kq v6 w' => ∃ (x6_3 : Int), v6 = .int .i64 x6_3 ∧ Aside0 (spec_WorldOk.l1 kq l0 x5_2 x6_3 a1_0 l1_1 = some r) ∧ Aside0 (kq ≤ k2) ∧ Aside0 (w'.heap[gb173]? = some (.cells #[.int .i64 a1_0, (.slice (some ad176) l1_1.length c1_1)] 51 (0, 0))) ∧ Aside0 (Below w.heap.size w w'))
                  case atStart => exact ⟨(0), (by first | rfl | (simp; done) | (simp [*]; done)), H', ⟨Nat.le_refl _⟩, ⟨bk_ BK173.out⟩, ⟨bs1_ HB.out GE173.out⟩⟩
                  case round =>
                    clear H'; (try clear c1); (try clear p1); (try clear q1); (try clear hx1); (try clear p2); (try clear c3); (try clear c6); (try clear c8); (try clear c11); (try clear c12); (try clear c12b0); (try clear c13); (try clear c13b0); (try clear c14); (try clear c14b0); (try clear c16); (try clear c16b0); (try clear c16b1); (try clear c17); (try clear p17); (try clear q17); (try clear hx17); (try clear hcz10_0); (try clear hcz10_1); (try clear hcz17_0); (try clear hcz17_1); (try clear hcz9_0); (try clear hcz9_1); (try clear hfz10_0); (try clear hfz10_1); (try clear hfz17_0); (try clear hfz17_1); (try clear hfz9_0); (try clear hfz9_1); (try clear hx176_0); (try clear hx177_0); (try clear hx177_1); (try clear hx177_2); (try clear p176); (try clear p177); (try clear p2); (try clear q176); (try clear q177); obtain ⟨x6_3, rfl, HA, HK3, BK173, HB⟩ := hrel
                    cases gk with
                    | zero => exact absurd HA.out (by simp [spec_WorldOk.l1])
                    | succ k3 =>
                      have H := HA.out; clear HA
                      simp only [spec_WorldOk.l1] at H
                      by_cases c18 : 0 ≤ x5_2
                      · rw [if_pos c18] at H; have c18b0 := decide_eq_true c18; clear c18
                        by_cases c19 : x5_2 < (l1_1.length : Int)
                        · rw [if_pos c19] at H; have c19b0 := decide_eq_true c19; clear c19
                          by_cases c20 : x6_3 < ((rd_Ls_i64 l1_1 x5_2).length : Int)
                          · rw [if_pos c20] at H; have c20b0 := decide_eq_true c20; clear c20
                            by_cases c21 : 0 ≤ x6_3
                            · rw [if_pos c21] at H; have c21b0 := decide_eq_true c21; clear c21; replace H := Option.bind_eq_some_iff.mp H; obtain ⟨t182, A220, H⟩ := H; have A22 := ak A220; clear A220
                              by_cases c23 : t182 = true
                              · subst c23; rw [if_pos rfl] at H; have H' := ak H; clear H; have hcz24_0 := bc_ BK173.out 0; have hcz24_1 := bc_ BK173.out 1; have hfz24_0 := blk_frozen BK173.out 0; have hfz24_1 := blk_frozen BK173.out 1; have p179 : 0 ≤ (x5_2 : Int) := as_; have q179 : x5_2 < (l1_1.length : Int) := as_; obtain ⟨ad179, A179_0, c179_0, e179, hx179_0, hl179_0, hi179_0⟩ := at_L5 HR1_1.out x5_2 p179 q179; obtain rfl : ad176 = ad179 := (by injection e179); replace hx179_0 := hbc_ HB.out hx179_0; have HR179_0 := ak hi179_0; have HC179_0 := ak hl179_0; clear hi179_0 hl179_0; replace p179 := eq_true p179; replace q179 := eq_true q179; have p180 : 0 ≤ (x5_2 : Int) := as_; have q180 : x5_2 < (l1_1.length : Int) := as_; obtain ⟨ad180, A180_0, c180_0, e180, hx180_0, hl180_0, hi180_0⟩ := at_L5 HR1_1.out x5_2 p180 q180; obtain rfl : ad176 = ad180 := (by injection e180); replace hx180_0 := hbc_ HB.out hx180_0; have HR180_0 := ak hi180_0; have HC180_0 := ak hl180_0; clear hi180_0 hl180_0; replace p180 := eq_true p180; replace q180 := eq_true q180; have ea_ := Option.some.inj (hx179_0.symm.trans hx180_0)
                                injection ea_ with ea_ en_ ec_
                                subst ea_; subst ec_; clear en_; have p181 : 0 ≤ (x6_3 : Int) := as_; have q181 : x6_3 < ((rd_Ls_i64 l1_1 x5_2).length : Int) := as_; obtain ⟨ad181, e181, hx181_0⟩ := Kd.at_int HR180_0.out x6_3 p181 q181
                                cases e181
                                replace hx181_0 := hbc_ HB.out hx181_0; replace p181 := eq_true p181; replace q181 := eq_true q181
                                go_wp2_with (first | (go_at_call 79; (with_reducible refine (spec_l1In.calls (rd (rd_Ls_i64 l1_1 x5_2) x6_3) 0 (wrap64 (a1_0 - 1)) true _ A22.out).mono ?_); rintro e w' ⟨rfl, ⟨nd, rfl⟩⟩; (try first | exact ⟨rfl, _, World.drewN_drewN _ _ _⟩ | exact ⟨rfl, _, Eq.trans (World.drewN_drewN _ _ _) (congrArg (World.drewN _) (Nat.add_assoc _ _ _))⟩)))
                                repeat (go_quiet (first | (go_at_call 79; (with_reducible refine (spec_l1In.calls (rd (rd_Ls_i64 l1_1 x5_2) x6_3) 0 (wrap64 (a1_0 - 1)) true _ A22.out).mono ?_); rintro e w' ⟨rfl, ⟨nd, rfl⟩⟩; (try first | exact ⟨rfl, _, World.drewN_drewN _ _ _⟩ | exact ⟨rfl, _, Eq.trans (World.drewN_drewN _ _ _) (congrArg (World.drewN _) (Nat.add_assoc _ _ _))⟩))); try go_wp2_with (first | (go_at_call 79; (with_reducible refine (spec_l1In.calls (rd (rd_Ls_i64 l1_1 x5_2) x6_3) 0 (wrap64 (a1_0 - 1)) true _ A22.out).mono ?_); rintro e w' ⟨rfl, ⟨nd, rfl⟩⟩; (try first | exact ⟨rfl, _, World.drewN_drewN _ _ _⟩ | exact ⟨rfl, _, Eq.trans (World.drewN_drewN _ _ _) (congrArg (World.drewN _) (Nat.add_assoc _ _ _))⟩))))
                                go_roundg k3
                                case measure => have := HJ2.out; have := HK2.out; have := HK3.out; omega
                                case rel => exact ⟨(wrap64 (x6_3 + 1)), (by first | rfl | (simp; done) | (simp [*]; done)), H', ⟨by have := HJ2.out; have := HK2.out; have := HK3.out; omega⟩, ⟨bk_ BK173.out⟩, ⟨bs1_ HB.out GE173.out⟩⟩
                              replace c23 := Bool.eq_false_iff.mpr c23; subst c23; rw [if_neg (show ¬ (false = true) by decide)] at H; obtain rfl := Option.some.inj H; have hcz25_0 := bc_ BK173.out 0; have hcz25_1 := bc_ BK173.out 1; have hfz25_0 := blk_frozen BK173.out 0; have hfz25_1 := blk_frozen BK173.out 1; have p179 : 0 ≤ (x5_2 : Int) := as_; have q179 : x5_2 < (l1_1.length : Int) := as_; obtain ⟨ad179, A179_0, c179_0, e179, hx179_0, hl179_0, hi179_0⟩ := at_L5 HR1_1.out x5_2 p179 q179; obtain rfl : ad176 = ad179 := (by injection e179); replace hx179_0 := hbc_ HB.out hx179_0; have HR179_0 := ak hi179_0; have HC179_0 := ak hl179_0; clear hi179_0 hl179_0; replace p179 := eq_true p179; replace q179 := eq_true q179; have p180 : 0 ≤ (x5_2 : Int) := as_; have q180 : x5_2 < (l1_1.length : Int) := as_; obtain ⟨ad180, A180_0, c180_0, e180, hx180_0, hl180_0, hi180_0⟩ := at_L5 HR1_1.out x5_2 p180 q180; obtain rfl : ad176 = ad180 := (by injection e180); replace hx180_0 := hbc_ HB.out hx180_0; have HR180_0 := ak hi180_0; have HC180_0 := ak hl180_0; clear hi180_0 hl180_0; replace p180 := eq_true p180; replace q180 := eq_true q180; have ea_ := Option.some.inj (hx179_0.symm.trans hx180_0)
                              injection ea_ with ea_ en_ ec_
                              subst ea_; subst ec_; clear en_; have p181 : 0 ≤ (x6_3 : Int) := as_; have q181 : x6_3 < ((rd_Ls_i64 l1_1 x5_2).length : Int) := as_; obtain ⟨ad181, e181, hx181_0⟩ := Kd.at_int HR180_0.out x6_3 p181 q181
                              cases e181
                              replace hx181_0 := hbc_ HB.out hx181_0; replace p181 := eq_true p181; replace q181 := eq_true q181
                              go_wp2_with (first | (go_at_call 79; (with_reducible refine (spec_l1In.calls (rd (rd_Ls_i64 l1_1 x5_2) x6_3) 0 (wrap64 (a1_0 - 1)) false _ A22.out).mono ?_); rintro e w' ⟨rfl, ⟨nd, rfl⟩⟩; (try first | exact ⟨rfl, _, World.drewN_drewN _ _ _⟩ | exact ⟨rfl, _, Eq.trans (World.drewN_drewN _ _ _) (congrArg (World.drewN _) (Nat.add_assoc _ _ _))⟩)))
                              repeat (go_quiet (first | (go_at_call 79; (with_reducible refine (spec_l1In.calls (rd (rd_Ls_i64 l1_1 x5_2) x6_3) 0 (wrap64 (a1_0 - 1)) false _ A22.out).mono ?_); rintro e w' ⟨rfl, ⟨nd, rfl⟩⟩; (try first | exact ⟨rfl, _, World.drewN_drewN _ _ _⟩ | exact ⟨rfl, _, Eq.trans (World.drewN_drewN _ _ _) (congrArg (World.drewN _) (Nat.add_assoc _ _ _))⟩))); try go_wp2_with (first | (go_at_call 79; (with_reducible refine (spec_l1In.calls (rd (rd_Ls_i64 l1_1 x5_2) x6_3) 0 (wrap64 (a1_0 - 1)) false _ A22.out).mono ?_); rintro e w' ⟨rfl, ⟨nd, rfl⟩⟩; (try first | exact ⟨rfl, _, World.drewN_drewN _ _ _⟩ | exact ⟨rfl, _, Eq.trans (World.drewN_drewN _ _ _) (congrArg (World.drewN _) (Nat.add_assoc _ _ _))⟩))))
                              go_ret
                              exact fin_ (bs1_ HB.out GE173.out)
                            rw [if_neg c21] at H; exact absurd H (by simp)
                          rw [if_neg c20] at H; have c20b0 := decide_eq_false c20; clear c20
                          by_cases c26 : x5_2 < (l0.length : Int)
                          · rw [if_pos c26] at H; have c26b0 := decide_eq_true c26; clear c26; obtain ⟨bq27, hbq27⟩ : ∃ b_ : Bool, b_ = ((rd_I_Sym l0 x5_2).f2) := ⟨_, rfl⟩; replace H : (if bq27 = true then ((spec_l24Blind.f k3 a1_0 l1_1 x5_2).bind fun t184 => (if t184 = true then (spec_WorldOk.l0 k3 l0 (wrap64 (x5_2 + 1)) a1_0 l1_1) else (some false))) else (spec_WorldOk.l0 k3 l0 (wrap64 (x5_2 + 1)) a1_0 l1_1)) = some r := by rw [← hbq27] at H; exact H
                            have Nbq27 := ak hbq27; clear hbq27
                            by_cases c28 : bq27 = true
                            · subst c28; rw [if_pos rfl] at H; replace H := Option.bind_eq_some_iff.mp H; obtain ⟨t184, A290, H⟩ := H; have A29 := ak A290; clear A290
                              by_cases c30 : t184 = true
                              · subst c30; rw [if_pos rfl] at H; have H' := ak H; clear H; have hcz31_0 := bc_ BK173.out 0; have hcz31_1 := bc_ BK173.out 1; have hfz31_0 := blk_frozen BK173.out 0; have hfz31_1 := blk_frozen BK173.out 1; have p179 : 0 ≤ (x5_2 : Int) := as_; have q179 : x5_2 < (l1_1.length : Int) := as_; obtain ⟨ad179, A179_0, c179_0, e179, hx179_0, hl179_0, hi179_0⟩ := at_L5 HR1_1.out x5_2 p179 q179; obtain rfl : ad176 = ad179 := (by injection e179); replace hx179_0 := hbc_ HB.out hx179_0; have HR179_0 := ak hi179_0; have HC179_0 := ak hl179_0; clear hi179_0 hl179_0; replace p179 := eq_true p179; replace q179 := eq_true q179; have p183 : 0 ≤ (x5_2 : Int) := as_; have q183 : x5_2 < (l0.length : Int) := as_; obtain ⟨ad183, e183, hx183_0, hx183_1, hx183_2⟩ := at_T99 HR0.out x5_2 p183 q183; (try rw [← Nbq27.out] at hx183_2); (try rw [← Nbq27.out] at hw183_2); obtain rfl : ad177 = ad183 := (by injection e183); replace hx183_0 := hbc_ HB.out hx183_0; replace hx183_1 := hbc_ HB.out hx183_1; replace hx183_2 := hbc_ HB.out hx183_2; replace p183 := eq_true p183; replace q183 := eq_true q183
                                go_wp2_with (first | (go_at_call 85; (with_reducible refine (spec_l24Blind.calls k3 a1_0 _ _ l1_1 x5_2 true _ ?side1 ?side2 A29.out).mono ?_); (case side1 => exact cb_ HR1_1.out HB.out); (case side2 => exact HC1_1.out); rintro e w32 ⟨rfl, hb⟩; replace BK173 := ak (blk_below (bk_ BK173.out) hb); replace HB := ak (below_step (bs1_ HB.out GE173.out) hb); (try clear hb); (try clear hb2); (try clear hk); (try clear hi)))
                                repeat (go_quiet (first | (go_at_call 85; (with_reducible refine (spec_l24Blind.calls k3 a1_0 _ _ l1_1 x5_2 true _ ?side1 ?side2 A29.out).mono ?_); (case side1 => exact cb_ HR1_1.out HB.out); (case side2 => exact HC1_1.out); rintro e w32 ⟨rfl, hb⟩; replace BK173 := ak (blk_below (bk_ BK173.out) hb); replace HB := ak (below_step (bs1_ HB.out GE173.out) hb); (try clear hb); (try clear hb2); (try clear hk); (try clear hi))); try go_wp2_with (first | (go_at_call 85; (with_reducible refine (spec_l24Blind.calls k3 a1_0 _ _ l1_1 x5_2 true _ ?side1 ?side2 A29.out).mono ?_); (case side1 => exact cb_ HR1_1.out HB.out); (case side2 => exact HC1_1.out); rintro e w32 ⟨rfl, hb⟩; replace BK173 := ak (blk_below (bk_ BK173.out) hb); replace HB := ak (below_step (bs1_ HB.out GE173.out) hb); (try clear hb); (try clear hb2); (try clear hk); (try clear hi))))
                                go_roundg k3
                                case measure => have := HJ2.out; have := HK2.out; have := HK3.out; omega
                                case rel => exact ⟨(wrap64 (x5_2 + 1)), (by first | rfl | (simp; done) | (simp [*]; done)), H', ⟨by have := HJ2.out; have := HK2.out; have := HK3.out; omega⟩, ⟨bk_ BK173.out⟩, ⟨bs1_ HB.out GE173.out⟩⟩
                              replace c30 := Bool.eq_false_iff.mpr c30; subst c30; rw [if_neg (show ¬ (false = true) by decide)] at H; obtain rfl := Option.some.inj H; have hcz33_0 := bc_ BK173.out 0; have hcz33_1 := bc_ BK173.out 1; have hfz33_0 := blk_frozen BK173.out 0; have hfz33_1 := blk_frozen BK173.out 1; have p179 : 0 ≤ (x5_2 : Int) := as_; have q179 : x5_2 < (l1_1.length : Int) := as_; obtain ⟨ad179, A179_0, c179_0, e179, hx179_0, hl179_0, hi179_0⟩ := at_L5 HR1_1.out x5_2 p179 q179; obtain rfl : ad176 = ad179 := (by injection e179); replace hx179_0 := hbc_ HB.out hx179_0; have HR179_0 := ak hi179_0; have HC179_0 := ak hl179_0; clear hi179_0 hl179_0; replace p179 := eq_true p179; replace q179 := eq_true q179; have p183 : 0 ≤ (x5_2 : Int) := as_; have q183 : x5_2 < (l0.length : Int) := as_; obtain ⟨ad183, e183, hx183_0, hx183_1, hx183_2⟩ := at_T99 HR0.out x5_2 p183 q183; (try rw [← Nbq27.out] at hx183_2); (try rw [← Nbq27.out] at hw183_2); obtain rfl : ad177 = ad183 := (by injection e183); replace hx183_0 := hbc_ HB.out hx183_0; replace hx183_1 := hbc_ HB.out hx183_1; replace hx183_2 := hbc_ HB.out hx183_2; replace p183 := eq_true p183; replace q183 := eq_true q183
                              go_wp2_with (first | (go_at_call 85; (with_reducible refine (spec_l24Blind.calls k3 a1_0 _ _ l1_1 x5_2 false _ ?side1 ?side2 A29.out).mono ?_); (case side1 => exact cb_ HR1_1.out HB.out); (case side2 => exact HC1_1.out); rintro e w34 ⟨rfl, hb⟩; replace BK173 := ak (blk_below (bk_ BK173.out) hb); replace HB := ak (below_step (bs1_ HB.out GE173.out) hb); (try clear hb); (try clear hb2); (try clear hk); (try clear hi)))
                              repeat (go_quiet (first | (go_at_call 85; (with_reducible refine (spec_l24Blind.calls k3 a1_0 _ _ l1_1 x5_2 false _ ?side1 ?side2 A29.out).mono ?_); (case side1 => exact cb_ HR1_1.out HB.out); (case side2 => exact HC1_1.out); rintro e w34 ⟨rfl, hb⟩; replace BK173 := ak (blk_below (bk_ BK173.out) hb); replace HB := ak (below_step (bs1_ HB.out GE173.out) hb); (try clear hb); (try clear hb2); (try clear hk); (try clear hi))); try go_wp2_with (first | (go_at_call 85; (with_reducible refine (spec_l24Blind.calls k3 a1_0 _ _ l1_1 x5_2 false _ ?side1 ?side2 A29.out).mono ?_); (case side1 => exact cb_ HR1_1.out HB.out); (case side2 => exact HC1_1.out); rintro e w34 ⟨rfl, hb⟩; replace BK173 := ak (blk_below (bk_ BK173.out) hb); replace HB := ak (below_step (bs1_ HB.out GE173.out) hb); (try clear hb); (try clear hb2); (try clear hk); (try clear hi))))
                              go_ret
                              exact fin_ (bs1_ HB.out GE173.out)
                            replace c28 := Bool.eq_false_iff.mpr c28; subst c28; rw [if_neg (show ¬ (false = true) by decide)] at H; have H' := ak H; clear H; have hcz35_0 := bc_ BK173.out 0; have hcz35_1 := bc_ BK173.out 1; have hfz35_0 := blk_frozen BK173.out 0; have hfz35_1 := blk_frozen BK173.out 1; have p179 : 0 ≤ (x5_2 : Int) := as_; have q179 : x5_2 < (l1_1.length : Int) := as_; obtain ⟨ad179, A179_0, c179_0, e179, hx179_0, hl179_0, hi179_0⟩ := at_L5 HR1_1.out x5_2 p179 q179; obtain rfl : ad176 = ad179 := (by injection e179); replace hx179_0 := hbc_ HB.out hx179_0; have HR179_0 := ak hi179_0; have HC179_0 := ak hl179_0; clear hi179_0 hl179_0; replace p179 := eq_true p179; replace q179 := eq_true q179; have p183 : 0 ≤ (x5_2 : Int) := as_; have q183 : x5_2 < (l0.length : Int) := as_; obtain ⟨ad183, e183, hx183_0, hx183_1, hx183_2⟩ := at_T99 HR0.out x5_2 p183 q183; (try rw [← Nbq27.out] at hx183_2); (try rw [← Nbq27.out] at hw183_2); obtain rfl : ad177 = ad183 := (by injection e183); replace hx183_0 := hbc_ HB.out hx183_0; replace hx183_1 := hbc_ HB.out hx183_1; replace hx183_2 := hbc_ HB.out hx183_2; replace p183 := eq_true p183; replace q183 := eq_true q183
                            go_wp2
                            repeat (go_quiet (fail); try go_wp2)
                            go_roundg k3
                            case measure => have := HJ2.out; have := HK2.out; have := HK3.out; omega
                            case rel => exact ⟨(wrap64 (x5_2 + 1)), (by first | rfl | (simp; done) | (simp [*]; done)), H', ⟨by have := HJ2.out; have := HK2.out; have := HK3.out; omega⟩, ⟨bk_ BK173.out⟩, ⟨bs1_ HB.out GE173.out⟩⟩
                          rw [if_neg c26] at H; exact absurd H (by simp)
                        rw [if_neg c19] at H; exact absurd H (by simp)
                      rw [if_neg c18] at H; exact absurd H (by simp)
                rw [if_neg c16] at H; have c16b0 : (((rd_Ls_i64 l1_1 x5_2).length : Int) == t178) = false := beq_eq_false_iff_ne.mpr c16; have c16b1 : (((rd_Ls_i64 l1_1 x5_2).length : Int) != t178) = true := bne_iff_ne.mpr c16; obtain rfl := Option.some.inj H; have hcz36_0 := bc_ BK173.out 0; have hcz36_1 := bc_ BK173.out 1; have hfz36_0 := blk_frozen BK173.out 0; have hfz36_1 := blk_frozen BK173.out 1; have p176 : 0 ≤ (x5_2 : Int) := as_; have q176 : x5_2 < (l1_1.length : Int) := as_; obtain ⟨ad176, A176_0, c176_0, e176, hx176_0, hl176_0, hi176_0⟩ := at_L5 HR1_1.out x5_2 p176 q176
                cases e176
                replace hx176_0 := hbc_ HB.out hx176_0; have HR176_0 := ak hi176_0; have HC176_0 := ak hl176_0; clear hi176_0 hl176_0; replace p176 := eq_true p176; replace q176 := eq_true q176; have p177 : 0 ≤ (x5_2 : Int) := as_; have q177 : x5_2 < (l0.length : Int) := as_; obtain ⟨ad177, e177, hx177_0, hx177_1, hx177_2⟩ := at_T99 HR0.out x5_2 p177 q177
                cases e177
                replace hx177_0 := hbc_ HB.out hx177_0; replace hx177_1 := hbc_ HB.out hx177_1; replace hx177_2 := hbc_ HB.out hx177_2; replace p177 := eq_true p177; replace q177 := eq_true q177
                go_wp2_with (first | (go_at_call 84; (with_reducible refine (spec_l24Power.calls k2 a1_0 ((rd_I_Sym l0 x5_2).f1) t178 _ A15.out).mono ?_); rintro e w' ⟨rfl, ⟨nd, rfl⟩⟩; (try first | exact ⟨rfl, _, World.drewN_drewN _ _ _⟩ | exact ⟨rfl, _, Eq.trans (World.drewN_drewN _ _ _) (congrArg (World.drewN _) (Nat.add_assoc _ _ _))⟩)))
                repeat (go_quiet (first | (go_at_call 84; (with_reducible refine (spec_l24Power.calls k2 a1_0 ((rd_I_Sym l0 x5_2).f1) t178 _ A15.out).mono ?_); rintro e w' ⟨rfl, ⟨nd, rfl⟩⟩; (try first | exact ⟨rfl, _, World.drewN_drewN _ _ _⟩ | exact ⟨rfl, _, Eq.trans (World.drewN_drewN _ _ _) (congrArg (World.drewN _) (Nat.add_assoc _ _ _))⟩))); try go_wp2_with (first | (go_at_call 84; (with_reducible refine (spec_l24Power.calls k2 a1_0 ((rd_I_Sym l0 x5_2).f1) t178 _ A15.out).mono ?_); rintro e w' ⟨rfl, ⟨nd, rfl⟩⟩; (try first | exact ⟨rfl, _, World.drewN_drewN _ _ _⟩ | exact ⟨rfl, _, Eq.trans (World.drewN_drewN _ _ _) (congrArg (World.drewN _) (Nat.add_assoc _ _ _))⟩))))
                go_ret
                exact fin_ (bs1_ HB.out GE173.out)
              rw [if_neg c14] at H; exact absurd H (by simp)
            rw [if_neg c13] at H; exact absurd H (by simp)
          rw [if_neg c12] at H; have c12b0 := decide_eq_false c12; clear c12; obtain rfl := Option.some.inj H
          go_wp2
          repeat (go_quiet (fail); try go_wp2)
          go_ret
          exact fin_ (bs1_ HB.out GE173.out)

end Go.Proofs.Ytcboagkbcoihjaa.XSubworld
