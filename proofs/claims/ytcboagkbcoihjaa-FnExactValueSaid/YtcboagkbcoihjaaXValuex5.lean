-- printed by a program of this session (xprint, turned from the kit's print) for this claim
import Derived.Test.YtcboagkbcoihjaaXValuex0
import Derived.Test.YtcboagkbcoihjaaXValuex4
namespace Go.Proofs.Ytcboagkbcoihjaa.XValue
open Go.RowKit Go.Proofs.Ytcboagkbcoihjaa.XOpens Go.Proofs.YtcboagkbcoihjaaW.PrintWords Go.Proofs.YtcboagkbcoihjaaW.PrintLast Go.Proofs.YtcboagkbcoihjaaW.PrintMore
attribute [local go_sem] max2_int min2_int max_two min_two max_three min_three max_four min_four   -- for this text's walks alone
set_option linter.unusedVariables false
set_option linter.unusedSimpArgs false

/-! ### spec_l21Blind: function 80 -/
def spec_l21Blind.l0 : Nat → Int → Int → List (List Int) → Option (Bool)
  | 0, _, _, _ => none
  | k + 1, x1, x5, x193000 => if x5 < 8 then ((spec_l21Two.f x193000 x1 (Int.tmod x5 2) (Int.tmod (wrap64 (Int.tdiv x5 2)) 2)).bind fun t195 => ((spec_l21Two.f x193000 x1 t195 (wrap64 (Int.tdiv x5 4))).bind fun t196 => ((spec_l21Two.f x193000 x1 (Int.tmod (wrap64 (Int.tdiv x5 2)) 2) (wrap64 (Int.tdiv x5 4))).bind fun t197 => ((spec_l21Two.f x193000 x1 (Int.tmod x5 2) t197).bind fun t198 => (if t196 = t198 then (spec_l21Blind.l0 k x1 (wrap64 (x5 + 1)) x193000) else (some false)))))) else (some true)
def spec_l21Blind.f (k : Nat) (l0_0 : List (List Int)) (a1 : Int) : Option (Bool) := (spec_l21Two.f l0_0 a1 0 1).bind fun t193 => ((spec_l21Two.f l0_0 a1 1 0).bind fun t194 => (if t193 = t194 then (spec_l21Blind.l0 k a1 0 l0_0) else (some false)))
theorem spec_l21Blind.mono_l : ∀ k, (∀ y0 y1 y2, LeO (spec_l21Blind.l0 k y0 y1 y2) (spec_l21Blind.l0 (k + 1) y0 y1 y2))
  | 0 => fun _ _ _ r h => by simp [spec_l21Blind.l0] at h
  | k + 1 => by
    have ih0 := spec_l21Blind.mono_l k
    · intro y0 y1 y2
      unfold spec_l21Blind.l0
      repeat' first | (with_reducible first | exact ih0 _ _ _ | exact LeO.refl _ | exact LeO.none _ | refine LeO.ite ?_ ?_ | refine LeO.bind ?_ (fun _ => ?_)) | exact ih0 _ _ _ | exact LeO.none _ | refine LeO.ite ?_ ?_ | refine LeO.bind ?_ (fun _ => ?_)
theorem spec_l21Blind.mono : ∀ a0 a1 k, LeO (spec_l21Blind.f k a0 a1) (spec_l21Blind.f (k + 1) a0 a1) := by
  intro a0 a1 k; have ih0 := spec_l21Blind.mono_l k
  unfold spec_l21Blind.f
  repeat' first
      | (with_reducible exact ih0 _ _ _)
      | (with_reducible exact LeO.refl _)
      | (with_reducible exact LeO.none _)
      | (with_reducible refine LeO.ite ?_ ?_)
      | (with_reducible refine LeO.bind ?_ (fun _ => ?_))
      | exact ih0 _ _ _
      | exact LeO.none _
      | refine LeO.ite ?_ ?_
      | refine LeO.bind ?_ (fun _ => ?_)
def spec_l21Blind.T7 : Bool × List (List Nat × List Nat) := (true, [([], []), ([], []), ([], []), ([], []), ([], []), ([], []), ([2, 3, 4, 5], [2, 3, 4, 5]), ([], []), ([0, 1, 6, 7, 6], [0, 1, 6, 7]), ([], []), ([], []), ([], []), ([], []), ([], []), ([], []), ([], []), ([12, 13, 14, 15, 8], [12, 13, 14, 15]), ([9, 10, 11, 16, 16], [9, 10, 11, 16]), ([8, 17], [8, 17])])
def spec_l21Blind.B7 : List Nat := [0, 0, 0, 0, 0, 0, 60, 0, 255, 0, 0, 0, 0, 0, 0, 0, 61951, 131071, 262143]
theorem spec_l21Blind.tab7 : rtab .any (opsOf Try.f80 7) = spec_l21Blind.T7 := by kernel_rfl
theorem spec_l21Blind.bits7 : waitsOk spec_l21Blind.T7.2 spec_l21Blind.B7 = true := by kernel_rfl
set_option maxHeartbeats 8000000 in
set_option maxRecDepth 100000 in
theorem spec_l21Blind.calls (k : Nat) (A0_0 : Option Addr) (c0_0 : Nat) (l0_0 : List (List Int)) (a1 : Int) (r : Bool) (w : World) (hr0_0 : Kd.C (Kd.slice 3 (Kd.int .i64)) w A0_0 l0_0.length l0_0) (hc0_0 : l0_0.length ≤ c0_0) (h : spec_l21Blind.f k l0_0 a1 = some r) :
    Calls Try.prog 80 #[.agg #[.slice A0_0 l0_0.length c0_0], .int .i64 a1] w fun e w' => e = .returned (.bool r) ∧ Below w.heap.size w w' := by
  have hu43 := Try.underlying43; have HR0_0 := ak hr0_0; have HC0_0 := ak hc0_0; clear hr0_0 hc0_0; have HB := ak (Below.refl w.heap.size w); have H : ((spec_l21Two.f l0_0 a1 0 1).bind fun t193 => ((spec_l21Two.f l0_0 a1 1 0).bind fun t194 => (if t193 = t194 then (spec_l21Blind.l0 k a1 0 l0_0) else (some false)))) = some r := h; clear h; replace H := Option.bind_eq_some_iff.mp H; obtain ⟨t193, A30, H⟩ := H; have A3 := ak A30; clear A30; replace H := Option.bind_eq_some_iff.mp H; obtain ⟨t194, A40, H⟩ := H; have A4 := ak A40; clear A40
  by_cases c5 : t193 = t194
  · rw [if_pos c5] at H; have c5b0 : (t193 == t194) = true := beq_iff_eq.mpr c5; have c5b1 : (t193 != t194) = false := bne_eq_false_iff_eq.mpr c5; clear c5; have H' := ak H; clear H
    go_enter Try.func80, Try.ntmps80
    try go_wp2_with (first | ((with_reducible refine gate_dst (N := 2) rfl ?_); refine bxe_ (N := 2) (cs := #[.slice A0_0 l0_0.length c0_0]) (t := 43) ?_; intro gb192 hg w6 hbox hb; have BK192 := ak (hbox); have GW192 := ak (lg_ hg (bl_ HB.out)); have GE192 := ak (lg_ hg (bl_ HB.out)); replace HB := ak (below_step (bl_ HB.out) hb); clear hb hbox hg))
    replace BK192 := ak (blk_drew BK192.out); replace HB := ak (below_drew1 HB.out); refine start_ (n := 7) (S := fun w' => w'.cell? ⟨gb192, 0, none⟩ = some (.slice A0_0 l0_0.length c0_0)) (ds := []) #[false, false, false, false, false, false, false] (by kernel_rfl) rfl rfl ((blk_cell BK192.out 0).trans rfl) (fun hHeld => ?_)
    generalize w6.drew = w7 at BK192 HB hHeld ⊢
    refine pure_ (i := 1) (N := some 10) (v := ?_) (a' := ?_) #[false, true, false, false, false, false, false] rfl rfl (by kernel_rfl) (fun _ _ _ h => h) (Or.inl ⟨by rfl, ?_⟩) ?_ ?_
    rotate_left
    · intro w'
      go_simp
      with_reducible rfl
    rotate_left
    · simp only [Act.put, List.setIfInBounds_toArray, List.set_cons_zero, List.set_cons_succ, i64_w, i32_w]
      rfl
    refine pure_ (i := 4) (N := some 13) (v := ?_) (a' := ?_) #[false, true, false, false, true, false, false] rfl rfl (by kernel_rfl) (fun _ _ _ h => h) (Or.inl ⟨by rfl, ?_⟩) ?_ ?_
    rotate_left
    · intro w'
      go_simp
      with_reducible rfl
    rotate_left
    · simp only [Act.put, List.setIfInBounds_toArray, List.set_cons_zero, List.set_cons_succ, i64_w, i32_w]
      rfl
    refine take_ (i := 0) (N := some 9) (v := ?_) (a' := ?_) #[true, true, false, false, true, false, false] rfl rfl (by kernel_rfl) (fun _ _ _ h => h) (Or.inl ⟨by rfl, ?_⟩) hHeld ?_ ?_
    rotate_left
    · intro w' s0
      go_simp
      with_reducible rfl
    rotate_left
    · simp only [Act.put, List.setIfInBounds_toArray, List.set_cons_zero, List.set_cons_succ, i64_w, i32_w]
      rfl
    refine take_ (i := 3) (N := some 12) (v := ?_) (a' := ?_) #[true, true, false, true, true, false, false] rfl rfl (by kernel_rfl) (fun _ _ _ h => h) (Or.inl ⟨by rfl, ?_⟩) hHeld ?_ ?_
    rotate_left
    · intro w' s0
      go_simp
      with_reducible rfl
    rotate_left
    · simp only [Act.put, List.setIfInBounds_toArray, List.set_cons_zero, List.set_cons_succ, i64_w, i32_w]
      rfl
    refine one_ (i := 2) (N := some 11) #[true, true, true, true, true, false, false] rfl rfl (by kernel_rfl) (by decide) (fun K hK => ?_); refine goesB_ Try.func142 (by kernel_rfl) rfl #[.agg #[.slice A0_0 l0_0.length c0_0], .int .i64 a1, .int .i64 0, .int .i64 1] (by rfl) rfl rfl ?_
    with_reducible refine (spec_l21Two.calls _ _ l0_0 a1 0 1 t193 _ ?side1 ?side2 A3.out).mono ?_
    (case side1 => exact cb_ HR0_0.out HB.out); (case side2 => exact HC0_0.out); rintro e w8 ⟨rfl, hb⟩; refine ⟨_, rfl, ?_⟩; replace BK192 := ak (blk_below (bk_ BK192.out) hb); replace HB := ak (below_step (bs1_ HB.out GE192.out) hb); (try clear hb); (try clear hb2); (try clear hk); (try clear hi); refine hK.out _ _ ((blk_cell BK192.out 0).trans rfl) (fun hHeld => ?_); clear hK K; refine norm_ (a' := ?_) ?_ ?_
    rotate_left
    · show Act.put _ (some 11) _ = _
      simp only [Act.put, List.setIfInBounds_toArray, List.set_cons_zero, List.set_cons_succ, i64_w, i32_w]
      rfl
    refine one_ (i := 5) (N := some 14) #[true, true, true, true, true, true, false] rfl rfl (by kernel_rfl) (by decide) (fun K hK => ?_); refine goesB_ Try.func142 (by kernel_rfl) rfl #[.agg #[.slice A0_0 l0_0.length c0_0], .int .i64 a1, .int .i64 1, .int .i64 0] (by rfl) rfl rfl ?_
    with_reducible refine (spec_l21Two.calls _ _ l0_0 a1 1 0 t194 _ ?side1 ?side2 A4.out).mono ?_
    (case side1 => exact cb_ HR0_0.out HB.out); (case side2 => exact HC0_0.out); rintro e w9 ⟨rfl, hb⟩; refine ⟨_, rfl, ?_⟩; replace BK192 := ak (blk_below (bk_ BK192.out) hb); replace HB := ak (below_step (bs1_ HB.out GE192.out) hb); (try clear hb); (try clear hb2); (try clear hk); (try clear hi); refine hK.out _ _ ((blk_cell BK192.out 0).trans rfl) (fun hHeld => ?_); clear hK K; refine norm_ (a' := ?_) ?_ ?_
    rotate_left
    · show Act.put _ (some 14) _ = _
      simp only [Act.put, List.setIfInBounds_toArray, List.set_cons_zero, List.set_cons_succ, i64_w, i32_w]
      rfl
    refine pure_ (i := 6) (N := some 15) (v := ?_) (a' := ?_) #[true, true, true, true, true, true, true] rfl rfl (by kernel_rfl) (fun _ _ _ h => h) (Or.inl ⟨by rfl, ?_⟩) ?_ ?_
    rotate_left
    · intro w'
      go_simp
      with_reducible rfl
    rotate_left
    · simp only [Act.put, List.setIfInBounds_toArray, List.set_cons_zero, List.set_cons_succ, i64_w, i32_w]
      rfl
    refine done_ (by kernel_rfl) ?_
    try go_wp2
    go_loopg [5] k (fun kq v5 w' => ∃ (x5_1 : Int), v5 = .int .i64 x5_1 ∧ Aside0 (spec_l21Blind.l0 kq a1 x5_1 l0_0 = some r) ∧ Aside0 (kq ≤ k) ∧ Aside0 (w'.heap[gb192]? = some (.cells #[(.slice A0_0 l0_0.length c0_0)] 43 (0, 0))) ∧ Aside0 (Below w.heap.size w w'))
    case atStart => exact ⟨(0), (by first | rfl | (simp; done) | (simp [*]; done)), H', ⟨Nat.le_refl _⟩, ⟨bk_ BK192.out⟩, ⟨bs1_ HB.out GE192.out⟩⟩
    case round =>
      clear H'; (try clear c1); (try clear p2); (try clear c5); (try clear c5b0); (try clear c5b1); (try clear c8); obtain ⟨x5_1, rfl, HA, HK1, BK192, HB⟩ := hrel
      cases gk with
      | zero => exact absurd HA.out (by simp [spec_l21Blind.l0])
      | succ k1 =>
        have H := HA.out; clear HA
        simp only [spec_l21Blind.l0] at H
        by_cases c10 : x5_1 < 8
        · rw [if_pos c10] at H; have c10b0 := decide_eq_true c10; clear c10; replace H := Option.bind_eq_some_iff.mp H; obtain ⟨t195, A110, H⟩ := H; have A11 := ak A110; clear A110; replace H := Option.bind_eq_some_iff.mp H; obtain ⟨t196, A120, H⟩ := H; have A12 := ak A120; clear A120; replace H := Option.bind_eq_some_iff.mp H; obtain ⟨t197, A130, H⟩ := H; have A13 := ak A130; clear A130; replace H := Option.bind_eq_some_iff.mp H; obtain ⟨t198, A140, H⟩ := H; have A14 := ak A140; clear A140
          by_cases c15 : t196 = t198
          · rw [if_pos c15] at H; have c15b0 : (t196 == t198) = true := beq_iff_eq.mpr c15; have c15b1 : (t196 != t198) = false := bne_eq_false_iff_eq.mpr c15; clear c15; have H' := ak H; clear H
            try go_wp2
            replace BK192 := ak (blk_drew BK192.out); replace HB := ak (below_drew1 HB.out); refine start_ (n := 19) (S := fun w' => w'.cell? ⟨gb192, 0, none⟩ = some (.slice A0_0 l0_0.length c0_0)) (ds := []) (bm 19 0) (by kernel_rfl) rfl (by kernel_rfl) ((blk_cell BK192.out 0).trans rfl) (fun hHeld => ?_); refine with_tabW spec_l21Blind.tab7 spec_l21Blind.bits7 (fun HT_ HW_ => ?_)
            generalize wr.drew = w16 at BK192 HB hHeld ⊢
            refine pv_ 1 ?_; refine pv_ 3 ?_; refine pv_ 4 ?_; refine pv_ 5 ?_; refine pv_ 7 ?_; refine pv_ 10 ?_; refine pv_ 11 ?_; refine pv_ 13 ?_; refine pv_ 14 ?_; refine pv_ 15 ?_; refine take_ (i := 0) (N := some 27) (v := ?_) (a' := ?_) (bm 19 60603) rfl rfl (take_ofW HT_.out HW_.out (by kernel_rfl)) (fun _ _ _ h => h) (Or.inl ⟨by rfl, ?_⟩) hHeld ?_ ?_
            rotate_left
            · intro w' s0
              go_simp
              with_reducible rfl
            rotate_left
            · simp only [Act.put, List.setIfInBounds_toArray, List.set_cons_zero, List.set_cons_succ, i64_w, i32_w]
              rfl
            refine take_ (i := 2) (N := some 29) (v := ?_) (a' := ?_) (bm 19 60607) rfl rfl (take_ofW HT_.out HW_.out (by kernel_rfl)) (fun _ _ _ h => h) (Or.inl ⟨by rfl, ?_⟩) hHeld ?_ ?_
            rotate_left
            · intro w' s0
              go_simp
              with_reducible rfl
            rotate_left
            · simp only [Act.put, List.setIfInBounds_toArray, List.set_cons_zero, List.set_cons_succ, i64_w, i32_w]
              rfl
            refine take_ (i := 9) (N := some 36) (v := ?_) (a' := ?_) (bm 19 61119) rfl rfl (take_ofW HT_.out HW_.out (by kernel_rfl)) (fun _ _ _ h => h) (Or.inl ⟨by rfl, ?_⟩) hHeld ?_ ?_
            rotate_left
            · intro w' s0
              go_simp
              with_reducible rfl
            rotate_left
            · simp only [Act.put, List.setIfInBounds_toArray, List.set_cons_zero, List.set_cons_succ, i64_w, i32_w]
              rfl
            refine take_ (i := 12) (N := some 39) (v := ?_) (a' := ?_) (bm 19 65215) rfl rfl (take_ofW HT_.out HW_.out (by kernel_rfl)) (fun _ _ _ h => h) (Or.inl ⟨by rfl, ?_⟩) hHeld ?_ ?_
            rotate_left
            · intro w' s0
              go_simp
              with_reducible rfl
            rotate_left
            · simp only [Act.put, List.setIfInBounds_toArray, List.set_cons_zero, List.set_cons_succ, i64_w, i32_w]
              rfl
            refine one_ (i := 6) (N := some 33) (bm 19 65279) rfl rfl (one_of HT_.out (by kernel_rfl)) (by decide) (fun K hK => ?_); refine goesB_ Try.func142 (by kernel_rfl) rfl #[.agg #[.slice A0_0 l0_0.length c0_0], .int .i64 a1, .int .i64 (Int.tmod x5_1 2), .int .i64 (Int.tmod (wrap64 (Int.tdiv x5_1 2)) 2)] (by rfl) rfl rfl ?_
            with_reducible refine (spec_l21Two.calls _ _ l0_0 a1 (Int.tmod x5_1 2) (Int.tmod (wrap64 (Int.tdiv x5_1 2)) 2) t195 _ ?side1 ?side2 A11.out).mono ?_
            (case side1 => exact cb_ HR0_0.out HB.out); (case side2 => exact HC0_0.out); rintro e w17 ⟨rfl, hb⟩; refine ⟨_, rfl, ?_⟩; replace BK192 := ak (blk_below (bk_ BK192.out) hb); replace HB := ak (below_step (bs1_ HB.out GE192.out) hb); (try clear hb); (try clear hb2); (try clear hk); (try clear hi); refine hK.out _ _ ((blk_cell BK192.out 0).trans rfl) (fun hHeld => ?_); clear hK K; refine norm_ (a' := ?_) ?_ ?_
            rotate_left
            · show Act.put _ (some 33) _ = _
              simp only [Act.put, List.setIfInBounds_toArray, List.set_cons_zero, List.set_cons_succ, i64_w, i32_w]
              rfl
            refine one_ (i := 8) (N := some 35) (bm 19 65535) rfl rfl (one_of HT_.out (by kernel_rfl)) (by decide) (fun K hK => ?_); refine goesB_ Try.func142 (by kernel_rfl) rfl #[.agg #[.slice A0_0 l0_0.length c0_0], .int .i64 a1, .int .i64 t195, .int .i64 (wrap64 (Int.tdiv x5_1 4))] (by rfl) rfl rfl ?_
            with_reducible refine (spec_l21Two.calls _ _ l0_0 a1 t195 (wrap64 (Int.tdiv x5_1 4)) t196 _ ?side1 ?side2 A12.out).mono ?_
            (case side1 => exact cb_ HR0_0.out HB.out); (case side2 => exact HC0_0.out); rintro e w18 ⟨rfl, hb⟩; refine ⟨_, rfl, ?_⟩; replace BK192 := ak (blk_below (bk_ BK192.out) hb); replace HB := ak (below_step (bs1_ HB.out GE192.out) hb); (try clear hb); (try clear hb2); (try clear hk); (try clear hi); refine hK.out _ _ ((blk_cell BK192.out 0).trans rfl) (fun hHeld => ?_); clear hK K; refine norm_ (a' := ?_) ?_ ?_
            rotate_left
            · show Act.put _ (some 35) _ = _
              simp only [Act.put, List.setIfInBounds_toArray, List.set_cons_zero, List.set_cons_succ, i64_w, i32_w]
              rfl
            refine one_ (i := 16) (N := some 43) (bm 19 131071) rfl rfl (one_of HT_.out (by kernel_rfl)) (by decide) (fun K hK => ?_); refine goesB_ Try.func142 (by kernel_rfl) rfl #[.agg #[.slice A0_0 l0_0.length c0_0], .int .i64 a1, .int .i64 (Int.tmod (wrap64 (Int.tdiv x5_1 2)) 2), .int .i64 (wrap64 (Int.tdiv x5_1 4))] (by rfl) rfl rfl ?_
            with_reducible refine (spec_l21Two.calls _ _ l0_0 a1 (Int.tmod (wrap64 (Int.tdiv x5_1 2)) 2) (wrap64 (Int.tdiv x5_1 4)) t197 _ ?side1 ?side2 A13.out).mono ?_
            (case side1 => exact cb_ HR0_0.out HB.out); (case side2 => exact HC0_0.out); rintro e w19 ⟨rfl, hb⟩; refine ⟨_, rfl, ?_⟩; replace BK192 := ak (blk_below (bk_ BK192.out) hb); replace HB := ak (below_step (bs1_ HB.out GE192.out) hb); (try clear hb); (try clear hb2); (try clear hk); (try clear hi); refine hK.out _ _ ((blk_cell BK192.out 0).trans rfl) (fun hHeld => ?_); clear hK K; refine norm_ (a' := ?_) ?_ ?_
            rotate_left
            · show Act.put _ (some 43) _ = _
              simp only [Act.put, List.setIfInBounds_toArray, List.set_cons_zero, List.set_cons_succ, i64_w, i32_w]
              rfl
            refine one_ (i := 17) (N := some 44) (bm 19 262143) rfl rfl (one_of HT_.out (by kernel_rfl)) (by decide) (fun K hK => ?_); refine goesB_ Try.func142 (by kernel_rfl) rfl #[.agg #[.slice A0_0 l0_0.length c0_0], .int .i64 a1, .int .i64 (Int.tmod x5_1 2), .int .i64 t197] (by rfl) rfl rfl ?_
            with_reducible refine (spec_l21Two.calls _ _ l0_0 a1 (Int.tmod x5_1 2) t197 t198 _ ?side1 ?side2 A14.out).mono ?_
            (case side1 => exact cb_ HR0_0.out HB.out); (case side2 => exact HC0_0.out); rintro e w20 ⟨rfl, hb⟩; refine ⟨_, rfl, ?_⟩; replace BK192 := ak (blk_below (bk_ BK192.out) hb); replace HB := ak (below_step (bs1_ HB.out GE192.out) hb); (try clear hb); (try clear hb2); (try clear hk); (try clear hi); refine hK.out _ _ ((blk_cell BK192.out 0).trans rfl) (fun hHeld => ?_); clear hK K; refine norm_ (a' := ?_) ?_ ?_
            rotate_left
            · show Act.put _ (some 44) _ = _
              simp only [Act.put, List.setIfInBounds_toArray, List.set_cons_zero, List.set_cons_succ, i64_w, i32_w]
              rfl
            refine pv_ 18 ?_; refine done_ (done_of HT_.out (by kernel_rfl)) ?_
            try go_wp2
            go_roundg k1
            case measure => have := HK1.out; omega
            case rel => exact ⟨(wrap64 (x5_1 + 1)), (by first | rfl | (simp; done) | (simp [*]; done)), H', ⟨by have := HK1.out; omega⟩, ⟨bk_ BK192.out⟩, ⟨bs1_ HB.out GE192.out⟩⟩
          rw [if_neg c15] at H; have c15b0 : (t196 == t198) = false := beq_eq_false_iff_ne.mpr c15; have c15b1 : (t196 != t198) = true := bne_iff_ne.mpr c15; obtain rfl := Option.some.inj H
          try go_wp2
          replace BK192 := ak (blk_drew BK192.out); replace HB := ak (below_drew1 HB.out); refine start_ (n := 19) (S := fun w' => w'.cell? ⟨gb192, 0, none⟩ = some (.slice A0_0 l0_0.length c0_0)) (ds := []) (bm 19 0) (by kernel_rfl) rfl (by kernel_rfl) ((blk_cell BK192.out 0).trans rfl) (fun hHeld => ?_); refine with_tabW spec_l21Blind.tab7 spec_l21Blind.bits7 (fun HT_ HW_ => ?_)
          generalize wr.drew = w21 at BK192 HB hHeld ⊢
          refine pv_ 1 ?_; refine pv_ 3 ?_; refine pv_ 4 ?_; refine pv_ 5 ?_; refine pv_ 7 ?_; refine pv_ 10 ?_; refine pv_ 11 ?_; refine pv_ 13 ?_; refine pv_ 14 ?_; refine pv_ 15 ?_; refine take_ (i := 0) (N := some 27) (v := ?_) (a' := ?_) (bm 19 60603) rfl rfl (take_ofW HT_.out HW_.out (by kernel_rfl)) (fun _ _ _ h => h) (Or.inl ⟨by rfl, ?_⟩) hHeld ?_ ?_
          rotate_left
          · intro w' s0
            go_simp
            with_reducible rfl
          rotate_left
          · simp only [Act.put, List.setIfInBounds_toArray, List.set_cons_zero, List.set_cons_succ, i64_w, i32_w]
            rfl
          refine take_ (i := 2) (N := some 29) (v := ?_) (a' := ?_) (bm 19 60607) rfl rfl (take_ofW HT_.out HW_.out (by kernel_rfl)) (fun _ _ _ h => h) (Or.inl ⟨by rfl, ?_⟩) hHeld ?_ ?_
          rotate_left
          · intro w' s0
            go_simp
            with_reducible rfl
          rotate_left
          · simp only [Act.put, List.setIfInBounds_toArray, List.set_cons_zero, List.set_cons_succ, i64_w, i32_w]
            rfl
          refine take_ (i := 9) (N := some 36) (v := ?_) (a' := ?_) (bm 19 61119) rfl rfl (take_ofW HT_.out HW_.out (by kernel_rfl)) (fun _ _ _ h => h) (Or.inl ⟨by rfl, ?_⟩) hHeld ?_ ?_
          rotate_left
          · intro w' s0
            go_simp
            with_reducible rfl
          rotate_left
          · simp only [Act.put, List.setIfInBounds_toArray, List.set_cons_zero, List.set_cons_succ, i64_w, i32_w]
            rfl
          refine take_ (i := 12) (N := some 39) (v := ?_) (a' := ?_) (bm 19 65215) rfl rfl (take_ofW HT_.out HW_.out (by kernel_rfl)) (fun _ _ _ h => h) (Or.inl ⟨by rfl, ?_⟩) hHeld ?_ ?_
          rotate_left
          · intro w' s0
            go_simp
            with_reducible rfl
          rotate_left
          · simp only [Act.put, List.setIfInBounds_toArray, List.set_cons_zero, List.set_cons_succ, i64_w, i32_w]
            rfl
          refine one_ (i := 6) (N := some 33) (bm 19 65279) rfl rfl (one_of HT_.out (by kernel_rfl)) (by decide) (fun K hK => ?_); refine goesB_ Try.func142 (by kernel_rfl) rfl #[.agg #[.slice A0_0 l0_0.length c0_0], .int .i64 a1, .int .i64 (Int.tmod x5_1 2), .int .i64 (Int.tmod (wrap64 (Int.tdiv x5_1 2)) 2)] (by rfl) rfl rfl ?_
          with_reducible refine (spec_l21Two.calls _ _ l0_0 a1 (Int.tmod x5_1 2) (Int.tmod (wrap64 (Int.tdiv x5_1 2)) 2) t195 _ ?side1 ?side2 A11.out).mono ?_
          (case side1 => exact cb_ HR0_0.out HB.out); (case side2 => exact HC0_0.out); rintro e w22 ⟨rfl, hb⟩; refine ⟨_, rfl, ?_⟩; replace BK192 := ak (blk_below (bk_ BK192.out) hb); replace HB := ak (below_step (bs1_ HB.out GE192.out) hb); (try clear hb); (try clear hb2); (try clear hk); (try clear hi); refine hK.out _ _ ((blk_cell BK192.out 0).trans rfl) (fun hHeld => ?_); clear hK K; refine norm_ (a' := ?_) ?_ ?_
          rotate_left
          · show Act.put _ (some 33) _ = _
            simp only [Act.put, List.setIfInBounds_toArray, List.set_cons_zero, List.set_cons_succ, i64_w, i32_w]
            rfl
          refine one_ (i := 8) (N := some 35) (bm 19 65535) rfl rfl (one_of HT_.out (by kernel_rfl)) (by decide) (fun K hK => ?_); refine goesB_ Try.func142 (by kernel_rfl) rfl #[.agg #[.slice A0_0 l0_0.length c0_0], .int .i64 a1, .int .i64 t195, .int .i64 (wrap64 (Int.tdiv x5_1 4))] (by rfl) rfl rfl ?_
          with_reducible refine (spec_l21Two.calls _ _ l0_0 a1 t195 (wrap64 (Int.tdiv x5_1 4)) t196 _ ?side1 ?side2 A12.out).mono ?_
          (case side1 => exact cb_ HR0_0.out HB.out); (case side2 => exact HC0_0.out); rintro e w23 ⟨rfl, hb⟩; refine ⟨_, rfl, ?_⟩; replace BK192 := ak (blk_below (bk_ BK192.out) hb); replace HB := ak (below_step (bs1_ HB.out GE192.out) hb); (try clear hb); (try clear hb2); (try clear hk); (try clear hi); refine hK.out _ _ ((blk_cell BK192.out 0).trans rfl) (fun hHeld => ?_); clear hK K; refine norm_ (a' := ?_) ?_ ?_
          rotate_left
          · show Act.put _ (some 35) _ = _
            simp only [Act.put, List.setIfInBounds_toArray, List.set_cons_zero, List.set_cons_succ, i64_w, i32_w]
            rfl
          refine one_ (i := 16) (N := some 43) (bm 19 131071) rfl rfl (one_of HT_.out (by kernel_rfl)) (by decide) (fun K hK => ?_); refine goesB_ Try.func142 (by kernel_rfl) rfl #[.agg #[.slice A0_0 l0_0.length c0_0], .int .i64 a1, .int .i64 (Int.tmod (wrap64 (Int.tdiv x5_1 2)) 2), .int .i64 (wrap64 (Int.tdiv x5_1 4))] (by rfl) rfl rfl ?_
          with_reducible refine (spec_l21Two.calls _ _ l0_0 a1 (Int.tmod (wrap64 (Int.tdiv x5_1 2)) 2) (wrap64 (Int.tdiv x5_1 4)) t197 _ ?side1 ?side2 A13.out).mono ?_
          (case side1 => exact cb_ HR0_0.out HB.out); (case side2 => exact HC0_0.out); rintro e w24 ⟨rfl, hb⟩; refine ⟨_, rfl, ?_⟩; replace BK192 := ak (blk_below (bk_ BK192.out) hb); replace HB := ak (below_step (bs1_ HB.out GE192.out) hb); (try clear hb); (try clear hb2); (try clear hk); (try clear hi); refine hK.out _ _ ((blk_cell BK192.out 0).trans rfl) (fun hHeld => ?_); clear hK K; refine norm_ (a' := ?_) ?_ ?_
          rotate_left
          · show Act.put _ (some 43) _ = _
            simp only [Act.put, List.setIfInBounds_toArray, List.set_cons_zero, List.set_cons_succ, i64_w, i32_w]
            rfl
          refine one_ (i := 17) (N := some 44) (bm 19 262143) rfl rfl (one_of HT_.out (by kernel_rfl)) (by decide) (fun K hK => ?_); refine goesB_ Try.func142 (by kernel_rfl) rfl #[.agg #[.slice A0_0 l0_0.length c0_0], .int .i64 a1, .int .i64 (Int.tmod x5_1 2), .int .i64 t197] (by rfl) rfl rfl ?_
          with_reducible refine (spec_l21Two.calls _ _ l0_0 a1 (Int.tmod x5_1 2) t197 t198 _ ?side1 ?side2 A14.out).mono ?_
          (case side1 => exact cb_ HR0_0.out HB.out); (case side2 => exact HC0_0.out); rintro e w25 ⟨rfl, hb⟩; refine ⟨_, rfl, ?_⟩; replace BK192 := ak (blk_below (bk_ BK192.out) hb); replace HB := ak (below_step (bs1_ HB.out GE192.out) hb); (try clear hb); (try clear hb2); (try clear hk); (try clear hi); refine hK.out _ _ ((blk_cell BK192.out 0).trans rfl) (fun hHeld => ?_); clear hK K; refine norm_ (a' := ?_) ?_ ?_
          rotate_left
          · show Act.put _ (some 44) _ = _
            simp only [Act.put, List.setIfInBounds_toArray, List.set_cons_zero, List.set_cons_succ, i64_w, i32_w]
            rfl
          refine pv_ 18 ?_; refine done_ (done_of HT_.out (by kernel_rfl)) ?_
          try go_wp2
          go_ret
          exact fin_ (bs1_ HB.out GE192.out)
        rw [if_neg c10] at H; have c10b0 := decide_eq_false c10; clear c10; obtain rfl := Option.some.inj H
        go_wp2
        go_ret
        exact fin_ (bs1_ HB.out GE192.out)
  rw [if_neg c5] at H; have c5b0 : (t193 == t194) = false := beq_eq_false_iff_ne.mpr c5; have c5b1 : (t193 != t194) = true := bne_iff_ne.mpr c5; obtain rfl := Option.some.inj H
  go_enter Try.func80, Try.ntmps80
  try go_wp2_with (first | ((with_reducible refine gate_dst (N := 2) rfl ?_); refine bxe_ (N := 2) (cs := #[.slice A0_0 l0_0.length c0_0]) (t := 43) ?_; intro gb192 hg w26 hbox hb; have BK192 := ak (hbox); have GW192 := ak (lg_ hg (bl_ HB.out)); have GE192 := ak (lg_ hg (bl_ HB.out)); replace HB := ak (below_step (bl_ HB.out) hb); clear hb hbox hg))
  replace BK192 := ak (blk_drew BK192.out); replace HB := ak (below_drew1 HB.out); refine start_ (n := 7) (S := fun w' => w'.cell? ⟨gb192, 0, none⟩ = some (.slice A0_0 l0_0.length c0_0)) (ds := []) #[false, false, false, false, false, false, false] (by kernel_rfl) rfl rfl ((blk_cell BK192.out 0).trans rfl) (fun hHeld => ?_)
  generalize w26.drew = w27 at BK192 HB hHeld ⊢
  refine pure_ (i := 1) (N := some 10) (v := ?_) (a' := ?_) #[false, true, false, false, false, false, false] rfl rfl (by kernel_rfl) (fun _ _ _ h => h) (Or.inl ⟨by rfl, ?_⟩) ?_ ?_
  rotate_left
  · intro w'
    go_simp
    with_reducible rfl
  rotate_left
  · simp only [Act.put, List.setIfInBounds_toArray, List.set_cons_zero, List.set_cons_succ, i64_w, i32_w]
    rfl
  refine pure_ (i := 4) (N := some 13) (v := ?_) (a' := ?_) #[false, true, false, false, true, false, false] rfl rfl (by kernel_rfl) (fun _ _ _ h => h) (Or.inl ⟨by rfl, ?_⟩) ?_ ?_
  rotate_left
  · intro w'
    go_simp
    with_reducible rfl
  rotate_left
  · simp only [Act.put, List.setIfInBounds_toArray, List.set_cons_zero, List.set_cons_succ, i64_w, i32_w]
    rfl
  refine take_ (i := 0) (N := some 9) (v := ?_) (a' := ?_) #[true, true, false, false, true, false, false] rfl rfl (by kernel_rfl) (fun _ _ _ h => h) (Or.inl ⟨by rfl, ?_⟩) hHeld ?_ ?_
  rotate_left
  · intro w' s0
    go_simp
    with_reducible rfl
  rotate_left
  · simp only [Act.put, List.setIfInBounds_toArray, List.set_cons_zero, List.set_cons_succ, i64_w, i32_w]
    rfl
  refine take_ (i := 3) (N := some 12) (v := ?_) (a' := ?_) #[true, true, false, true, true, false, false] rfl rfl (by kernel_rfl) (fun _ _ _ h => h) (Or.inl ⟨by rfl, ?_⟩) hHeld ?_ ?_
  rotate_left
  · intro w' s0
    go_simp
    with_reducible rfl
  rotate_left
  · simp only [Act.put, List.setIfInBounds_toArray, List.set_cons_zero, List.set_cons_succ, i64_w, i32_w]
    rfl
  refine one_ (i := 2) (N := some 11) #[true, true, true, true, true, false, false] rfl rfl (by kernel_rfl) (by decide) (fun K hK => ?_); refine goesB_ Try.func142 (by kernel_rfl) rfl #[.agg #[.slice A0_0 l0_0.length c0_0], .int .i64 a1, .int .i64 0, .int .i64 1] (by rfl) rfl rfl ?_
  with_reducible refine (spec_l21Two.calls _ _ l0_0 a1 0 1 t193 _ ?side1 ?side2 A3.out).mono ?_
  (case side1 => exact cb_ HR0_0.out HB.out); (case side2 => exact HC0_0.out); rintro e w28 ⟨rfl, hb⟩; refine ⟨_, rfl, ?_⟩; replace BK192 := ak (blk_below (bk_ BK192.out) hb); replace HB := ak (below_step (bs1_ HB.out GE192.out) hb); (try clear hb); (try clear hb2); (try clear hk); (try clear hi); refine hK.out _ _ ((blk_cell BK192.out 0).trans rfl) (fun hHeld => ?_); clear hK K; refine norm_ (a' := ?_) ?_ ?_
  rotate_left
  · show Act.put _ (some 11) _ = _
    simp only [Act.put, List.setIfInBounds_toArray, List.set_cons_zero, List.set_cons_succ, i64_w, i32_w]
    rfl
  refine one_ (i := 5) (N := some 14) #[true, true, true, true, true, true, false] rfl rfl (by kernel_rfl) (by decide) (fun K hK => ?_); refine goesB_ Try.func142 (by kernel_rfl) rfl #[.agg #[.slice A0_0 l0_0.length c0_0], .int .i64 a1, .int .i64 1, .int .i64 0] (by rfl) rfl rfl ?_
  with_reducible refine (spec_l21Two.calls _ _ l0_0 a1 1 0 t194 _ ?side1 ?side2 A4.out).mono ?_
  (case side1 => exact cb_ HR0_0.out HB.out); (case side2 => exact HC0_0.out); rintro e w29 ⟨rfl, hb⟩; refine ⟨_, rfl, ?_⟩; replace BK192 := ak (blk_below (bk_ BK192.out) hb); replace HB := ak (below_step (bs1_ HB.out GE192.out) hb); (try clear hb); (try clear hb2); (try clear hk); (try clear hi); refine hK.out _ _ ((blk_cell BK192.out 0).trans rfl) (fun hHeld => ?_); clear hK K; refine norm_ (a' := ?_) ?_ ?_
  rotate_left
  · show Act.put _ (some 14) _ = _
    simp only [Act.put, List.setIfInBounds_toArray, List.set_cons_zero, List.set_cons_succ, i64_w, i32_w]
    rfl
  refine pure_ (i := 6) (N := some 15) (v := ?_) (a' := ?_) #[true, true, true, true, true, true, true] rfl rfl (by kernel_rfl) (fun _ _ _ h => h) (Or.inl ⟨by rfl, ?_⟩) ?_ ?_
  rotate_left
  · intro w'
    go_simp
    with_reducible rfl
  rotate_left
  · simp only [Act.put, List.setIfInBounds_toArray, List.set_cons_zero, List.set_cons_succ, i64_w, i32_w]
    rfl
  refine done_ (by kernel_rfl) ?_
  try go_wp2
  go_ret
  exact fin_ (bs1_ HB.out GE192.out)

/-! ### spec_ModelOk: function 26 -/
mutual
def spec_ModelOk.j0 : Nat → List (I_Sym) → Bool → List (List Int) → Option (Bool)
  | 0, _, _, _ => none
  | k + 1, x0, x17, x200000 => if x17 = true then (some false) else (spec_ModelOk.l0 k x0 0 x200000)
def spec_ModelOk.l0 : Nat → List (I_Sym) → Int → List (List Int) → Option (Bool)
  | 0, _, _, _ => none
  | k + 1, x0, x5, x200000 => if x5 < (x0.length : Int) then (if 0 ≤ x5 then (if x5 < (x200000.length : Int) then (if 0 ≤ ((rd_I_Sym x0 x5).f1) then (if ((rd_Ls_i64 x200000 x5).length : Int) = (shl .i64 1 ((rd_I_Sym x0 x5).f1)) then (spec_ModelOk.l1 k x0 x5 0 x200000) else (some false)) else (none)) else (none)) else (none)) else (some true)
def spec_ModelOk.l1 : Nat → List (I_Sym) → Int → Int → List (List Int) → Option (Bool)
  | 0, _, _, _, _ => none
  | k + 1, x0, x5, x6, x200000 => if 0 ≤ x5 then (if x5 < (x200000.length : Int) then (if x6 < ((rd_Ls_i64 x200000 x5).length : Int) then (if 0 ≤ x6 then ((spec_l1In.f (rd (rd_Ls_i64 x200000 x5) x6) 0 1).bind fun t206 => (if t206 = true then (spec_ModelOk.l1 k x0 x5 (wrap64 (x6 + 1)) x200000) else (some false))) else (none)) else (if x5 < (x0.length : Int) then (if (rd_I_Sym x0 x5).f2 = true then ((spec_l21Blind.f k x200000 x5).bind fun t208 => (if t208 = true then (spec_ModelOk.l0 k x0 (wrap64 (x5 + 1)) x200000) else (some false))) else (spec_ModelOk.l0 k x0 (wrap64 (x5 + 1)) x200000)) else (none))) else (none)) else (none)
end
def spec_ModelOk.f (k : Nat) (l0 : List (I_Sym)) (l1_0 : List (List Int)) : Option (Bool) := (spec_SigOk.f k l0).bind fun t200 => (if t200 = true then (spec_ModelOk.j0 k l0 ((l1_0.length : Int) != (l0.length : Int)) l1_0) else (spec_ModelOk.j0 k l0 true l1_0))
theorem spec_ModelOk.mono_l : ∀ k, (∀ y0 y1 y2, LeO (spec_ModelOk.j0 k y0 y1 y2) (spec_ModelOk.j0 (k + 1) y0 y1 y2)) ∧ (∀ y0 y1 y2, LeO (spec_ModelOk.l0 k y0 y1 y2) (spec_ModelOk.l0 (k + 1) y0 y1 y2)) ∧ (∀ y0 y1 y2 y3, LeO (spec_ModelOk.l1 k y0 y1 y2 y3) (spec_ModelOk.l1 (k + 1) y0 y1 y2 y3))
  | 0 => ⟨fun _ _ _ r h => by simp [spec_ModelOk.j0] at h, fun _ _ _ r h => by simp [spec_ModelOk.l0] at h, fun _ _ _ _ r h => by simp [spec_ModelOk.l1] at h⟩
  | k + 1 => by
    obtain ⟨ih0, ih1, ih2⟩ := spec_ModelOk.mono_l k; refine ⟨?_, ?_, ?_⟩
    · intro y0 y1 y2
      unfold spec_ModelOk.j0
      repeat' first | (with_reducible first | exact ih0 _ _ _ | exact ih1 _ _ _ | exact ih2 _ _ _ _ | exact spec_SigOk.mono _ _ | exact spec_l21Blind.mono _ _ _ | exact LeO.refl _ | exact LeO.none _ | refine LeO.ite ?_ ?_ | refine LeO.bind ?_ (fun _ => ?_)) | exact ih0 _ _ _ | exact ih1 _ _ _ | exact ih2 _ _ _ _ | exact spec_SigOk.mono _ _ | exact spec_l21Blind.mono _ _ _ | exact LeO.none _ | refine LeO.ite ?_ ?_ | refine LeO.bind ?_ (fun _ => ?_)
    · intro y0 y1 y2
      unfold spec_ModelOk.l0
      repeat' first | (with_reducible first | exact ih0 _ _ _ | exact ih1 _ _ _ | exact ih2 _ _ _ _ | exact spec_SigOk.mono _ _ | exact spec_l21Blind.mono _ _ _ | exact LeO.refl _ | exact LeO.none _ | refine LeO.ite ?_ ?_ | refine LeO.bind ?_ (fun _ => ?_)) | exact ih0 _ _ _ | exact ih1 _ _ _ | exact ih2 _ _ _ _ | exact spec_SigOk.mono _ _ | exact spec_l21Blind.mono _ _ _ | exact LeO.none _ | refine LeO.ite ?_ ?_ | refine LeO.bind ?_ (fun _ => ?_)
    · intro y0 y1 y2 y3
      unfold spec_ModelOk.l1
      repeat' first | (with_reducible first | exact ih0 _ _ _ | exact ih1 _ _ _ | exact ih2 _ _ _ _ | exact spec_SigOk.mono _ _ | exact spec_l21Blind.mono _ _ _ | exact LeO.refl _ | exact LeO.none _ | refine LeO.ite ?_ ?_ | refine LeO.bind ?_ (fun _ => ?_)) | exact ih0 _ _ _ | exact ih1 _ _ _ | exact ih2 _ _ _ _ | exact spec_SigOk.mono _ _ | exact spec_l21Blind.mono _ _ _ | exact LeO.none _ | refine LeO.ite ?_ ?_ | refine LeO.bind ?_ (fun _ => ?_)
theorem spec_ModelOk.mono : ∀ a0 a1 k, LeO (spec_ModelOk.f k a0 a1) (spec_ModelOk.f (k + 1) a0 a1) := by
  intro a0 a1 k; obtain ⟨ih0, ih1, ih2⟩ := spec_ModelOk.mono_l k
  unfold spec_ModelOk.f
  repeat' first
      | (with_reducible exact ih0 _ _ _)
      | (with_reducible exact ih1 _ _ _)
      | (with_reducible exact ih2 _ _ _ _)
      | (with_reducible exact spec_SigOk.mono _ _)
      | (with_reducible exact spec_l21Blind.mono _ _ _)
      | (with_reducible exact LeO.refl _)
      | (with_reducible exact LeO.none _)
      | (with_reducible refine LeO.ite ?_ ?_)
      | (with_reducible refine LeO.bind ?_ (fun _ => ?_))
      | exact ih0 _ _ _
      | exact ih1 _ _ _
      | exact ih2 _ _ _ _
      | exact spec_SigOk.mono _ _
      | exact spec_l21Blind.mono _ _ _
      | exact LeO.none _
      | refine LeO.ite ?_ ?_
      | refine LeO.bind ?_ (fun _ => ?_)
set_option maxHeartbeats 8000000 in
set_option maxRecDepth 100000 in
theorem spec_ModelOk.calls (k : Nat) (A0 : Option Addr) (c0 : Nat) (l0 : List (I_Sym)) (A1_0 : Option Addr) (c1_0 : Nat) (l1_0 : List (List Int)) (r : Bool) (w : World) (hr0 : Kd.C k99 w A0 l0.length l0) (hc0 : l0.length ≤ c0) (hr1_0 : Kd.C (Kd.slice 3 (Kd.int .i64)) w A1_0 l1_0.length l1_0) (hc1_0 : l1_0.length ≤ c1_0) (h : spec_ModelOk.f k l0 l1_0 = some r) :
    Calls Try.prog 26 #[.slice A0 l0.length c0, .agg #[.slice A1_0 l1_0.length c1_0]] w fun e w' => e = .returned (.bool r) ∧ Below w.heap.size w w' := by
  have hu43 := Try.underlying43; have HR0 := ak hr0; have HC0 := ak hc0; clear hr0 hc0; have HR1_0 := ak hr1_0; have HC1_0 := ak hc1_0; clear hr1_0 hc1_0; have HB := ak (Below.refl w.heap.size w); have H : ((spec_SigOk.f k l0).bind fun t200 => (if t200 = true then (spec_ModelOk.j0 k l0 ((l1_0.length : Int) != (l0.length : Int)) l1_0) else (spec_ModelOk.j0 k l0 true l1_0))) = some r := h; clear h; have HC3 := ak H; clear H
  go_enter Try.func26, Try.ntmps26
  go_upto_region 1 with (first | ((with_reducible refine gate_dst (N := 3) rfl ?_); (try (refine gate_guard (by rfl) ?_; dsimp only)); refine bxe_ (N := 3) (cs := #[.slice A1_0 l1_0.length c1_0]) (t := 43) ?_; intro gb199 hg w4 hbox hb; have BK199 := ak (hbox); have GW199 := ak (lg_ hg (bl_ HB.out)); have GE199 := ak (lg_ hg (bl_ HB.out)); replace HB := ak (below_step (bl_ HB.out) hb); clear hb hbox hg))
  repeat (go_quiet (first | ((with_reducible refine gate_dst (N := 3) rfl ?_); (try (refine gate_guard (by rfl) ?_; dsimp only)); refine bxe_ (N := 3) (cs := #[.slice A1_0 l1_0.length c1_0]) (t := 43) ?_; intro gb199 hg w4 hbox hb; have BK199 := ak (hbox); have GW199 := ak (lg_ hg (bl_ HB.out)); have GE199 := ak (lg_ hg (bl_ HB.out)); replace HB := ak (below_step (bl_ HB.out) hb); clear hb hbox hg)); go_upto_region 1 with (first | ((with_reducible refine gate_dst (N := 3) rfl ?_); (try (refine gate_guard (by rfl) ?_; dsimp only)); refine bxe_ (N := 3) (cs := #[.slice A1_0 l1_0.length c1_0]) (t := 43) ?_; intro gb199 hg w4 hbox hb; have BK199 := ak (hbox); have GW199 := ak (lg_ hg (bl_ HB.out)); have GE199 := ak (lg_ hg (bl_ HB.out)); replace HB := ak (below_step (bl_ HB.out) hb); clear hb hbox hg)))
  (try simp only [Act.put, List.setIfInBounds_toArray, List.set_cons_zero, List.set_cons_succ])
  go_cut [17] (fun v17 wc => ∃ (kq : Nat) (x17_2 : Bool), v17 = .bool x17_2 ∧ Aside0 (spec_ModelOk.j0 kq l0 x17_2 l1_0 = some r) ∧ Aside0 (kq ≤ k) ∧ Aside0 (wc.heap[gb199]? = some (.cells #[(.slice A1_0 l1_0.length c1_0)] 43 (0, 0))) ∧ Aside0 (Below w.heap.size w wc))
  case first =>
    have H := HC3.out; clear HC3; replace H := Option.bind_eq_some_iff.mp H; obtain ⟨t200, A50, H⟩ := H; have A5 := ak A50; clear A50
    by_cases c6 : t200 = true
    · subst c6; rw [if_pos rfl] at H; have H' := ak H; clear H
      go_wp2_with (first | (go_at_call 78; (with_reducible refine (spec_SigOk.calls k _ _ l0 true _ ?side1 ?side2 A5.out).mono ?_); (case side1 => exact cb_ HR0.out HB.out); (case side2 => exact HC0.out); rintro e w' ⟨rfl, ⟨nd, rfl⟩⟩; (try first | exact ⟨rfl, _, World.drewN_drewN _ _ _⟩ | exact ⟨rfl, _, Eq.trans (World.drewN_drewN _ _ _) (congrArg (World.drewN _) (Nat.add_assoc _ _ _))⟩); have hcz7_0 := bc_ BK199.out 0; have hfz7_0 := blk_frozen BK199.out 0))
      repeat (go_quiet (first | (go_at_call 78; (with_reducible refine (spec_SigOk.calls k _ _ l0 true _ ?side1 ?side2 A5.out).mono ?_); (case side1 => exact cb_ HR0.out HB.out); (case side2 => exact HC0.out); rintro e w' ⟨rfl, ⟨nd, rfl⟩⟩; (try first | exact ⟨rfl, _, World.drewN_drewN _ _ _⟩ | exact ⟨rfl, _, Eq.trans (World.drewN_drewN _ _ _) (congrArg (World.drewN _) (Nat.add_assoc _ _ _))⟩); have hcz7_0 := bc_ BK199.out 0; have hfz7_0 := blk_frozen BK199.out 0)); try go_wp2_with (first | (go_at_call 78; (with_reducible refine (spec_SigOk.calls k _ _ l0 true _ ?side1 ?side2 A5.out).mono ?_); (case side1 => exact cb_ HR0.out HB.out); (case side2 => exact HC0.out); rintro e w' ⟨rfl, ⟨nd, rfl⟩⟩; (try first | exact ⟨rfl, _, World.drewN_drewN _ _ _⟩ | exact ⟨rfl, _, Eq.trans (World.drewN_drewN _ _ _) (congrArg (World.drewN _) (Nat.add_assoc _ _ _))⟩); have hcz7_0 := bc_ BK199.out 0; have hfz7_0 := blk_frozen BK199.out 0)))
      go_meet
      case rel => exact ⟨_, (((l1_0.length : Int) != (l0.length : Int))), (by first | rfl | (simp; done) | (simp [*]; done)), H', ⟨by first | omega | exact Nat.le_refl _⟩, ⟨bk_ BK199.out⟩, ⟨bs1_ HB.out GE199.out⟩⟩
    replace c6 := Bool.eq_false_iff.mpr c6; subst c6; rw [if_neg (show ¬ (false = true) by decide)] at H; have H' := ak H; clear H
    go_wp2_with (first | (go_at_call 78; (with_reducible refine (spec_SigOk.calls k _ _ l0 false _ ?side1 ?side2 A5.out).mono ?_); (case side1 => exact cb_ HR0.out HB.out); (case side2 => exact HC0.out); rintro e w' ⟨rfl, ⟨nd, rfl⟩⟩; (try first | exact ⟨rfl, _, World.drewN_drewN _ _ _⟩ | exact ⟨rfl, _, Eq.trans (World.drewN_drewN _ _ _) (congrArg (World.drewN _) (Nat.add_assoc _ _ _))⟩)))
    repeat (go_quiet (first | (go_at_call 78; (with_reducible refine (spec_SigOk.calls k _ _ l0 false _ ?side1 ?side2 A5.out).mono ?_); (case side1 => exact cb_ HR0.out HB.out); (case side2 => exact HC0.out); rintro e w' ⟨rfl, ⟨nd, rfl⟩⟩; (try first | exact ⟨rfl, _, World.drewN_drewN _ _ _⟩ | exact ⟨rfl, _, Eq.trans (World.drewN_drewN _ _ _) (congrArg (World.drewN _) (Nat.add_assoc _ _ _))⟩))); try go_wp2_with (first | (go_at_call 78; (with_reducible refine (spec_SigOk.calls k _ _ l0 false _ ?side1 ?side2 A5.out).mono ?_); (case side1 => exact cb_ HR0.out HB.out); (case side2 => exact HC0.out); rintro e w' ⟨rfl, ⟨nd, rfl⟩⟩; (try first | exact ⟨rfl, _, World.drewN_drewN _ _ _⟩ | exact ⟨rfl, _, Eq.trans (World.drewN_drewN _ _ _) (congrArg (World.drewN _) (Nat.add_assoc _ _ _))⟩))))
    go_meet
    case rel => exact ⟨_, (true), (by first | rfl | (simp; done) | (simp [*]; done)), H', ⟨by first | omega | exact Nat.le_refl _⟩, ⟨bk_ BK199.out⟩, ⟨bs1_ HB.out GE199.out⟩⟩
  case rest =>
    clear HC3; (try clear c1); (try clear c2); (try clear p2); (try clear c6); (try clear hcz7_0 hfz7_0); obtain ⟨kq, x17_2, rfl, HA, HJ2, BK199, HB⟩ := hcut
    cases kq with
    | zero => exact absurd HA.out (by simp [spec_ModelOk.j0])
    | succ kj2 =>
      have H := HA.out; clear HA
      simp only [spec_ModelOk.j0] at H
      by_cases c8 : x17_2 = true
      · subst c8; rw [if_pos rfl] at H; obtain rfl := Option.some.inj H
        go_wp2
        repeat (go_quiet (fail); try go_wp2)
        go_ret
        exact fin_ (bs1_ HB.out GE199.out)
      replace c8 := Bool.eq_false_iff.mpr c8; subst c8; rw [if_neg (show ¬ (false = true) by decide)] at H; have H' := ak H; clear H
      go_wp2
      repeat (go_quiet (fail); try go_wp2)
      go_loopg [5] kj2 (fun kq v5 w' => ∃ (x5_2 : Int), v5 = .int .i64 x5_2 ∧ Aside0 (spec_ModelOk.l0 kq l0 x5_2 l1_0 = some r) ∧ Aside0 (kq ≤ kj2) ∧ Aside0 (w'.heap[gb199]? = some (.cells #[(.slice A1_0 l1_0.length c1_0)] 43 (0, 0))) ∧ Aside0 (Below w.heap.size w w'))
      case atStart => exact ⟨(0), (by first | rfl | (simp; done) | (simp [*]; done)), H', ⟨Nat.le_refl _⟩, ⟨bk_ BK199.out⟩, ⟨bs1_ HB.out GE199.out⟩⟩
      case round =>
        clear H'; (try clear c1); (try clear c2); (try clear p2); (try clear c6); (try clear c8); (try clear hcz7_0 hfz7_0); (try clear p2); obtain ⟨x5_2, rfl, HA, HK2, BK199, HB⟩ := hrel
        cases gk with
        | zero => exact absurd HA.out (by simp [spec_ModelOk.l0])
        | succ k2 =>
          have H := HA.out; clear HA
          simp only [spec_ModelOk.l0] at H
          by_cases c9 : x5_2 < (l0.length : Int)
          · rw [if_pos c9] at H; have c9b0 := decide_eq_true c9; clear c9
            by_cases c10 : 0 ≤ x5_2
            · rw [if_pos c10] at H; have c10b0 := decide_eq_true c10; clear c10
              by_cases c11 : x5_2 < (l1_0.length : Int)
              · rw [if_pos c11] at H; have c11b0 := decide_eq_true c11; clear c11
                by_cases c12 : 0 ≤ ((rd_I_Sym l0 x5_2).f1)
                · rw [if_pos c12] at H; have c12b0 := eq_true c12; have c12b1 := decide_eq_true c12; clear c12; obtain ⟨ji13, hji13⟩ : ∃ j_ : Int, (shl .i64 1 ((rd_I_Sym l0 x5_2).f1)) = j_ := ⟨_, rfl⟩; replace H : (if ((rd_Ls_i64 l1_0 x5_2).length : Int) = (ji13) then (spec_ModelOk.l1 k2 l0 x5_2 0 l1_0) else (some false)) = some r := by first | (rw [hji13] at H; exact H) | (simp only [hji13] at H ⊢; exact H)
                  have hji13_ : (IntKind.i64.wrap (1 * 2 ^ min ((rd_I_Sym l0 x5_2).f1).toNat 64)) = ji13 := hji13; have hji13z : ((rd_I_Sym l0 x5_2).f1) ≤ 64 → (IntKind.i64.wrap (1 * 2 ^ ((rd_I_Sym l0 x5_2).f1).toNat)) = ji13 := shl_small hji13; have hji13u : (IntKind.i64.wrap (2 ^ min ((rd_I_Sym l0 x5_2).f1).toNat 64)) = ji13 := by have h_ := hji13_; rw [Int.one_mul] at h_; exact h_
                  have hji13v : ((rd_I_Sym l0 x5_2).f1) ≤ 64 → (IntKind.i64.wrap (2 ^ ((rd_I_Sym l0 x5_2).f1).toNat)) = ji13 := fun hle_ => by have h_ := hji13z hle_; rw [Int.one_mul] at h_; exact h_
                  have hji13y : (wrap64 (1 * 2 ^ min ((rd_I_Sym l0 x5_2).f1).toNat 64)) = ji13 := (i64_w _).symm.trans hji13_; have hji13x : ((rd_I_Sym l0 x5_2).f1) ≤ 64 → (wrap64 (1 * 2 ^ ((rd_I_Sym l0 x5_2).f1).toNat)) = ji13 := fun h_ => (i64_w _).symm.trans (hji13z h_)
                  by_cases c14 : ((rd_Ls_i64 l1_0 x5_2).length : Int) = (ji13)
                  · rw [if_pos c14] at H; have c14b0 : (((rd_Ls_i64 l1_0 x5_2).length : Int) == (ji13)) = true := beq_iff_eq.mpr c14; have c14b1 : (((rd_Ls_i64 l1_0 x5_2).length : Int) != (ji13)) = false := bne_eq_false_iff_eq.mpr c14; clear c14; have H' := ak H; clear H; have hcz15_0 := bc_ BK199.out 0; have hfz15_0 := blk_frozen BK199.out 0; have p201 : 0 ≤ (x5_2 : Int) := as_; have q201 : x5_2 < (l1_0.length : Int) := as_; obtain ⟨ad201, A201_0, c201_0, e201, hx201_0, hl201_0, hi201_0⟩ := at_L7 HR1_0.out x5_2 p201 q201
                    cases e201
                    replace hx201_0 := hbc_ HB.out hx201_0; have HR201_0 := ak hi201_0; have HC201_0 := ak hl201_0; clear hi201_0 hl201_0; replace p201 := eq_true p201; replace q201 := eq_true q201; have p202 : 0 ≤ (x5_2 : Int) := as_; have q202 : x5_2 < (l0.length : Int) := as_; obtain ⟨ad202, e202, hx202_0, hx202_1, hx202_2⟩ := at_T99 HR0.out x5_2 p202 q202
                    cases e202
                    replace hx202_0 := hbc_ HB.out hx202_0; replace hx202_1 := hbc_ HB.out hx202_1; replace hx202_2 := hbc_ HB.out hx202_2; replace p202 := eq_true p202; replace q202 := eq_true q202
                    go_wp2
                    repeat (go_quiet (fail); try go_wp2)
                    go_loopg [6] k2 (fun kq v6 w' => ∃ (x6_3 : Int), v6 = .int .i64 x6_3 ∧ Aside0 (spec_ModelOk.l1 kq l0 x5_2 x6_3 l1_0 = some r) ∧ Aside0 (kq ≤ k2) ∧ Aside0 (w'.heap[gb199]? = some (.cells #[(.slice (some ad201) l1_0.length c1_0)] 43 (0, 0))) ∧ Aside0 (Below w.heap.size w w'))
                    case atStart => exact ⟨(0), (by first | rfl | (simp; done) | (simp [*]; done)), H', ⟨Nat.le_refl _⟩, ⟨bk_ BK199.out⟩, ⟨bs1_ HB.out GE199.out⟩⟩
                    case round =>
                      clear H'; (try clear c1); (try clear c2); (try clear p2); (try clear q2); (try clear hx2); (try clear c6); (try clear p6); (try clear c8); (try clear c9); (try clear c9b0); (try clear c10); (try clear c10b0); (try clear c11); (try clear c11b0); (try clear c12); (try clear c12b0); (try clear c12b1); (try clear c14); (try clear c14b0); (try clear c14b1); (try clear hcz15_0); (try clear hcz7_0); (try clear hfz15_0); (try clear hfz7_0); (try clear hx201_0); (try clear hx202_0); (try clear hx202_1); (try clear hx202_2); (try clear p2); (try clear p201); (try clear p202); (try clear q201); (try clear q202); obtain ⟨x6_3, rfl, HA, HK3, BK199, HB⟩ := hrel
                      cases gk with
                      | zero => exact absurd HA.out (by simp [spec_ModelOk.l1])
                      | succ k3 =>
                        have H := HA.out; clear HA
                        simp only [spec_ModelOk.l1] at H
                        by_cases c16 : 0 ≤ x5_2
                        · rw [if_pos c16] at H; have c16b0 := decide_eq_true c16; clear c16
                          by_cases c17 : x5_2 < (l1_0.length : Int)
                          · rw [if_pos c17] at H; have c17b0 := decide_eq_true c17; clear c17
                            by_cases c18 : x6_3 < ((rd_Ls_i64 l1_0 x5_2).length : Int)
                            · rw [if_pos c18] at H; have c18b0 := decide_eq_true c18; clear c18
                              by_cases c19 : 0 ≤ x6_3
                              · rw [if_pos c19] at H; have c19b0 := decide_eq_true c19; clear c19; replace H := Option.bind_eq_some_iff.mp H; obtain ⟨t206, A200, H⟩ := H; have A20 := ak A200; clear A200
                                by_cases c21 : t206 = true
                                · subst c21; rw [if_pos rfl] at H; have H' := ak H; clear H; have hcz22_0 := bc_ BK199.out 0; have hfz22_0 := blk_frozen BK199.out 0; have p203 : 0 ≤ (x5_2 : Int) := as_; have q203 : x5_2 < (l1_0.length : Int) := as_; obtain ⟨ad203, A203_0, c203_0, e203, hx203_0, hl203_0, hi203_0⟩ := at_L7 HR1_0.out x5_2 p203 q203; obtain rfl : ad201 = ad203 := (by injection e203); replace hx203_0 := hbc_ HB.out hx203_0; have HR203_0 := ak hi203_0; have HC203_0 := ak hl203_0; clear hi203_0 hl203_0; replace p203 := eq_true p203; replace q203 := eq_true q203; have p204 : 0 ≤ (x5_2 : Int) := as_; have q204 : x5_2 < (l1_0.length : Int) := as_; obtain ⟨ad204, A204_0, c204_0, e204, hx204_0, hl204_0, hi204_0⟩ := at_L7 HR1_0.out x5_2 p204 q204; obtain rfl : ad201 = ad204 := (by injection e204); replace hx204_0 := hbc_ HB.out hx204_0; have HR204_0 := ak hi204_0; have HC204_0 := ak hl204_0; clear hi204_0 hl204_0; replace p204 := eq_true p204; replace q204 := eq_true q204; have ea_ := Option.some.inj (hx203_0.symm.trans hx204_0)
                                  injection ea_ with ea_ en_ ec_
                                  subst ea_; subst ec_; clear en_; have p205 : 0 ≤ (x6_3 : Int) := as_; have q205 : x6_3 < ((rd_Ls_i64 l1_0 x5_2).length : Int) := as_; obtain ⟨ad205, e205, hx205_0⟩ := Kd.at_int HR204_0.out x6_3 p205 q205
                                  cases e205
                                  replace hx205_0 := hbc_ HB.out hx205_0; replace p205 := eq_true p205; replace q205 := eq_true q205
                                  go_wp2_with (first | (go_at_call 79; (with_reducible refine (spec_l1In.calls (rd (rd_Ls_i64 l1_0 x5_2) x6_3) 0 1 true _ A20.out).mono ?_); rintro e w' ⟨rfl, ⟨nd, rfl⟩⟩; (try first | exact ⟨rfl, _, World.drewN_drewN _ _ _⟩ | exact ⟨rfl, _, Eq.trans (World.drewN_drewN _ _ _) (congrArg (World.drewN _) (Nat.add_assoc _ _ _))⟩)))
                                  repeat (go_quiet (first | (go_at_call 79; (with_reducible refine (spec_l1In.calls (rd (rd_Ls_i64 l1_0 x5_2) x6_3) 0 1 true _ A20.out).mono ?_); rintro e w' ⟨rfl, ⟨nd, rfl⟩⟩; (try first | exact ⟨rfl, _, World.drewN_drewN _ _ _⟩ | exact ⟨rfl, _, Eq.trans (World.drewN_drewN _ _ _) (congrArg (World.drewN _) (Nat.add_assoc _ _ _))⟩))); try go_wp2_with (first | (go_at_call 79; (with_reducible refine (spec_l1In.calls (rd (rd_Ls_i64 l1_0 x5_2) x6_3) 0 1 true _ A20.out).mono ?_); rintro e w' ⟨rfl, ⟨nd, rfl⟩⟩; (try first | exact ⟨rfl, _, World.drewN_drewN _ _ _⟩ | exact ⟨rfl, _, Eq.trans (World.drewN_drewN _ _ _) (congrArg (World.drewN _) (Nat.add_assoc _ _ _))⟩))))
                                  go_roundg k3
                                  case measure => have := HJ2.out; have := HK2.out; have := HK3.out; omega
                                  case rel => exact ⟨(wrap64 (x6_3 + 1)), (by first | rfl | (simp; done) | (simp [*]; done)), H', ⟨by have := HJ2.out; have := HK2.out; have := HK3.out; omega⟩, ⟨bk_ BK199.out⟩, ⟨bs1_ HB.out GE199.out⟩⟩
                                replace c21 := Bool.eq_false_iff.mpr c21; subst c21; rw [if_neg (show ¬ (false = true) by decide)] at H; obtain rfl := Option.some.inj H; have hcz23_0 := bc_ BK199.out 0; have hfz23_0 := blk_frozen BK199.out 0; have p203 : 0 ≤ (x5_2 : Int) := as_; have q203 : x5_2 < (l1_0.length : Int) := as_; obtain ⟨ad203, A203_0, c203_0, e203, hx203_0, hl203_0, hi203_0⟩ := at_L7 HR1_0.out x5_2 p203 q203; obtain rfl : ad201 = ad203 := (by injection e203); replace hx203_0 := hbc_ HB.out hx203_0; have HR203_0 := ak hi203_0; have HC203_0 := ak hl203_0; clear hi203_0 hl203_0; replace p203 := eq_true p203; replace q203 := eq_true q203; have p204 : 0 ≤ (x5_2 : Int) := as_; have q204 : x5_2 < (l1_0.length : Int) := as_; obtain ⟨ad204, A204_0, c204_0, e204, hx204_0, hl204_0, hi204_0⟩ := at_L7 HR1_0.out x5_2 p204 q204; obtain rfl : ad201 = ad204 := (by injection e204); replace hx204_0 := hbc_ HB.out hx204_0; have HR204_0 := ak hi204_0; have HC204_0 := ak hl204_0; clear hi204_0 hl204_0; replace p204 := eq_true p204; replace q204 := eq_true q204; have ea_ := Option.some.inj (hx203_0.symm.trans hx204_0)
                                injection ea_ with ea_ en_ ec_
                                subst ea_; subst ec_; clear en_; have p205 : 0 ≤ (x6_3 : Int) := as_; have q205 : x6_3 < ((rd_Ls_i64 l1_0 x5_2).length : Int) := as_; obtain ⟨ad205, e205, hx205_0⟩ := Kd.at_int HR204_0.out x6_3 p205 q205
                                cases e205
                                replace hx205_0 := hbc_ HB.out hx205_0; replace p205 := eq_true p205; replace q205 := eq_true q205
                                go_wp2_with (first | (go_at_call 79; (with_reducible refine (spec_l1In.calls (rd (rd_Ls_i64 l1_0 x5_2) x6_3) 0 1 false _ A20.out).mono ?_); rintro e w' ⟨rfl, ⟨nd, rfl⟩⟩; (try first | exact ⟨rfl, _, World.drewN_drewN _ _ _⟩ | exact ⟨rfl, _, Eq.trans (World.drewN_drewN _ _ _) (congrArg (World.drewN _) (Nat.add_assoc _ _ _))⟩)))
                                repeat (go_quiet (first | (go_at_call 79; (with_reducible refine (spec_l1In.calls (rd (rd_Ls_i64 l1_0 x5_2) x6_3) 0 1 false _ A20.out).mono ?_); rintro e w' ⟨rfl, ⟨nd, rfl⟩⟩; (try first | exact ⟨rfl, _, World.drewN_drewN _ _ _⟩ | exact ⟨rfl, _, Eq.trans (World.drewN_drewN _ _ _) (congrArg (World.drewN _) (Nat.add_assoc _ _ _))⟩))); try go_wp2_with (first | (go_at_call 79; (with_reducible refine (spec_l1In.calls (rd (rd_Ls_i64 l1_0 x5_2) x6_3) 0 1 false _ A20.out).mono ?_); rintro e w' ⟨rfl, ⟨nd, rfl⟩⟩; (try first | exact ⟨rfl, _, World.drewN_drewN _ _ _⟩ | exact ⟨rfl, _, Eq.trans (World.drewN_drewN _ _ _) (congrArg (World.drewN _) (Nat.add_assoc _ _ _))⟩))))
                                go_ret
                                exact ⟨by first | rfl | (simp [errW_none, errW_some] <;> rfl) | (simp only [← hji13]; first | rfl | (simp [errW_none, errW_some] <;> rfl)) | (simp [*, errW_none, errW_some] <;> rfl), by repeat (first | (with_reducible first | exact HB.out | apply below_alloc | apply pw_below_drewN | apply below_drew1 | refine below_set ?_ GE199.out) | exact HB.out)⟩
                              rw [if_neg c19] at H; exact absurd H (by simp)
                            rw [if_neg c18] at H; have c18b0 := decide_eq_false c18; clear c18
                            by_cases c24 : x5_2 < (l0.length : Int)
                            · rw [if_pos c24] at H; have c24b0 := decide_eq_true c24; clear c24; obtain ⟨bq25, hbq25⟩ : ∃ b_ : Bool, b_ = ((rd_I_Sym l0 x5_2).f2) := ⟨_, rfl⟩; replace H : (if bq25 = true then ((spec_l21Blind.f k3 l1_0 x5_2).bind fun t208 => (if t208 = true then (spec_ModelOk.l0 k3 l0 (wrap64 (x5_2 + 1)) l1_0) else (some false))) else (spec_ModelOk.l0 k3 l0 (wrap64 (x5_2 + 1)) l1_0)) = some r := by rw [← hbq25] at H; exact H
                              have Nbq25 := ak hbq25; clear hbq25
                              by_cases c26 : bq25 = true
                              · subst c26; rw [if_pos rfl] at H; replace H := Option.bind_eq_some_iff.mp H; obtain ⟨t208, A270, H⟩ := H; have A27 := ak A270; clear A270
                                by_cases c28 : t208 = true
                                · subst c28; rw [if_pos rfl] at H; have H' := ak H; clear H; have hcz29_0 := bc_ BK199.out 0; have hfz29_0 := blk_frozen BK199.out 0; have p203 : 0 ≤ (x5_2 : Int) := as_; have q203 : x5_2 < (l1_0.length : Int) := as_; obtain ⟨ad203, A203_0, c203_0, e203, hx203_0, hl203_0, hi203_0⟩ := at_L7 HR1_0.out x5_2 p203 q203; obtain rfl : ad201 = ad203 := (by injection e203); replace hx203_0 := hbc_ HB.out hx203_0; have HR203_0 := ak hi203_0; have HC203_0 := ak hl203_0; clear hi203_0 hl203_0; replace p203 := eq_true p203; replace q203 := eq_true q203; have p207 : 0 ≤ (x5_2 : Int) := as_; have q207 : x5_2 < (l0.length : Int) := as_; obtain ⟨ad207, e207, hx207_0, hx207_1, hx207_2⟩ := at_T99 HR0.out x5_2 p207 q207; (try rw [← Nbq25.out] at hx207_2); (try rw [← Nbq25.out] at hw207_2); obtain rfl : ad202 = ad207 := (by injection e207); replace hx207_0 := hbc_ HB.out hx207_0; replace hx207_1 := hbc_ HB.out hx207_1; replace hx207_2 := hbc_ HB.out hx207_2; replace p207 := eq_true p207; replace q207 := eq_true q207
                                  go_wp2_with (first | (go_at_call 80; (with_reducible refine (spec_l21Blind.calls k3 _ _ l1_0 x5_2 true _ ?side1 ?side2 A27.out).mono ?_); (case side1 => exact cb_ HR1_0.out HB.out); (case side2 => exact HC1_0.out); rintro e w30 ⟨rfl, hb⟩; replace BK199 := ak (blk_below (bk_ BK199.out) hb); replace HB := ak (below_step (bs1_ HB.out GE199.out) hb); (try clear hb); (try clear hb2); (try clear hk); (try clear hi)))
                                  repeat (go_quiet (first | (go_at_call 80; (with_reducible refine (spec_l21Blind.calls k3 _ _ l1_0 x5_2 true _ ?side1 ?side2 A27.out).mono ?_); (case side1 => exact cb_ HR1_0.out HB.out); (case side2 => exact HC1_0.out); rintro e w30 ⟨rfl, hb⟩; replace BK199 := ak (blk_below (bk_ BK199.out) hb); replace HB := ak (below_step (bs1_ HB.out GE199.out) hb); (try clear hb); (try clear hb2); (try clear hk); (try clear hi))); try go_wp2_with (first | (go_at_call 80; (with_reducible refine (spec_l21Blind.calls k3 _ _ l1_0 x5_2 true _ ?side1 ?side2 A27.out).mono ?_); (case side1 => exact cb_ HR1_0.out HB.out); (case side2 => exact HC1_0.out); rintro e w30 ⟨rfl, hb⟩; replace BK199 := ak (blk_below (bk_ BK199.out) hb); replace HB := ak (below_step (bs1_ HB.out GE199.out) hb); (try clear hb); (try clear hb2); (try clear hk); (try clear hi))))
                                  go_roundg k3
                                  case measure => have := HJ2.out; have := HK2.out; have := HK3.out; omega
                                  case rel => exact ⟨(wrap64 (x5_2 + 1)), (by first | rfl | (simp; done) | (simp [*]; done)), H', ⟨by have := HJ2.out; have := HK2.out; have := HK3.out; omega⟩, ⟨bk_ BK199.out⟩, ⟨bs1_ HB.out GE199.out⟩⟩
                                replace c28 := Bool.eq_false_iff.mpr c28; subst c28; rw [if_neg (show ¬ (false = true) by decide)] at H; obtain rfl := Option.some.inj H; have hcz31_0 := bc_ BK199.out 0; have hfz31_0 := blk_frozen BK199.out 0; have p203 : 0 ≤ (x5_2 : Int) := as_; have q203 : x5_2 < (l1_0.length : Int) := as_; obtain ⟨ad203, A203_0, c203_0, e203, hx203_0, hl203_0, hi203_0⟩ := at_L7 HR1_0.out x5_2 p203 q203; obtain rfl : ad201 = ad203 := (by injection e203); replace hx203_0 := hbc_ HB.out hx203_0; have HR203_0 := ak hi203_0; have HC203_0 := ak hl203_0; clear hi203_0 hl203_0; replace p203 := eq_true p203; replace q203 := eq_true q203; have p207 : 0 ≤ (x5_2 : Int) := as_; have q207 : x5_2 < (l0.length : Int) := as_; obtain ⟨ad207, e207, hx207_0, hx207_1, hx207_2⟩ := at_T99 HR0.out x5_2 p207 q207; (try rw [← Nbq25.out] at hx207_2); (try rw [← Nbq25.out] at hw207_2); obtain rfl : ad202 = ad207 := (by injection e207); replace hx207_0 := hbc_ HB.out hx207_0; replace hx207_1 := hbc_ HB.out hx207_1; replace hx207_2 := hbc_ HB.out hx207_2; replace p207 := eq_true p207; replace q207 := eq_true q207
                                go_wp2_with (first | (go_at_call 80; (with_reducible refine (spec_l21Blind.calls k3 _ _ l1_0 x5_2 false _ ?side1 ?side2 A27.out).mono ?_); (case side1 => exact cb_ HR1_0.out HB.out); (case side2 => exact HC1_0.out); rintro e w32 ⟨rfl, hb⟩; replace BK199 := ak (blk_below (bk_ BK199.out) hb); replace HB := ak (below_step (bs1_ HB.out GE199.out) hb); (try clear hb); (try clear hb2); (try clear hk); (try clear hi)))
                                repeat (go_quiet (first | (go_at_call 80; (with_reducible refine (spec_l21Blind.calls k3 _ _ l1_0 x5_2 false _ ?side1 ?side2 A27.out).mono ?_); (case side1 => exact cb_ HR1_0.out HB.out); (case side2 => exact HC1_0.out); rintro e w32 ⟨rfl, hb⟩; replace BK199 := ak (blk_below (bk_ BK199.out) hb); replace HB := ak (below_step (bs1_ HB.out GE199.out) hb); (try clear hb); (try clear hb2); (try clear hk); (try clear hi))); try go_wp2_with (first | (go_at_call 80; (with_reducible refine (spec_l21Blind.calls k3 _ _ l1_0 x5_2 false _ ?side1 ?side2 A27.out).mono ?_); (case side1 => exact cb_ HR1_0.out HB.out); (case side2 => exact HC1_0.out); rintro e w32 ⟨rfl, hb⟩; replace BK199 := ak (blk_below (bk_ BK199.out) hb); replace HB := ak (below_step (bs1_ HB.out GE199.out) hb); (try clear hb); (try clear hb2); (try clear hk); (try clear hi))))
                                go_ret
                                exact ⟨by first | rfl | (simp [errW_none, errW_some] <;> rfl) | (simp only [← hji13]; first | rfl | (simp [errW_none, errW_some] <;> rfl)) | (simp [*, errW_none, errW_some] <;> rfl), by repeat (first | (with_reducible first | exact HB.out | apply below_alloc | apply pw_below_drewN | apply below_drew1 | refine below_set ?_ GE199.out) | exact HB.out)⟩
                              replace c26 := Bool.eq_false_iff.mpr c26; subst c26; rw [if_neg (show ¬ (false = true) by decide)] at H; have H' := ak H; clear H; have hcz33_0 := bc_ BK199.out 0; have hfz33_0 := blk_frozen BK199.out 0; have p203 : 0 ≤ (x5_2 : Int) := as_; have q203 : x5_2 < (l1_0.length : Int) := as_; obtain ⟨ad203, A203_0, c203_0, e203, hx203_0, hl203_0, hi203_0⟩ := at_L7 HR1_0.out x5_2 p203 q203; obtain rfl : ad201 = ad203 := (by injection e203); replace hx203_0 := hbc_ HB.out hx203_0; have HR203_0 := ak hi203_0; have HC203_0 := ak hl203_0; clear hi203_0 hl203_0; replace p203 := eq_true p203; replace q203 := eq_true q203; have p207 : 0 ≤ (x5_2 : Int) := as_; have q207 : x5_2 < (l0.length : Int) := as_; obtain ⟨ad207, e207, hx207_0, hx207_1, hx207_2⟩ := at_T99 HR0.out x5_2 p207 q207; (try rw [← Nbq25.out] at hx207_2); (try rw [← Nbq25.out] at hw207_2); obtain rfl : ad202 = ad207 := (by injection e207); replace hx207_0 := hbc_ HB.out hx207_0; replace hx207_1 := hbc_ HB.out hx207_1; replace hx207_2 := hbc_ HB.out hx207_2; replace p207 := eq_true p207; replace q207 := eq_true q207
                              go_wp2
                              repeat (go_quiet (fail); try go_wp2)
                              go_roundg k3
                              case measure => have := HJ2.out; have := HK2.out; have := HK3.out; omega
                              case rel => exact ⟨(wrap64 (x5_2 + 1)), (by first | rfl | (simp; done) | (simp [*]; done)), H', ⟨by have := HJ2.out; have := HK2.out; have := HK3.out; omega⟩, ⟨bk_ BK199.out⟩, ⟨bs1_ HB.out GE199.out⟩⟩
                            rw [if_neg c24] at H; exact absurd H (by simp)
                          rw [if_neg c17] at H; exact absurd H (by simp)
                        rw [if_neg c16] at H; exact absurd H (by simp)
                  rw [if_neg c14] at H; have c14b0 : (((rd_Ls_i64 l1_0 x5_2).length : Int) == (ji13)) = false := beq_eq_false_iff_ne.mpr c14; have c14b1 : (((rd_Ls_i64 l1_0 x5_2).length : Int) != (ji13)) = true := bne_iff_ne.mpr c14; obtain rfl := Option.some.inj H; have hcz34_0 := bc_ BK199.out 0; have hfz34_0 := blk_frozen BK199.out 0; have p201 : 0 ≤ (x5_2 : Int) := as_; have q201 : x5_2 < (l1_0.length : Int) := as_; obtain ⟨ad201, A201_0, c201_0, e201, hx201_0, hl201_0, hi201_0⟩ := at_L7 HR1_0.out x5_2 p201 q201
                  cases e201
                  replace hx201_0 := hbc_ HB.out hx201_0; have HR201_0 := ak hi201_0; have HC201_0 := ak hl201_0; clear hi201_0 hl201_0; replace p201 := eq_true p201; replace q201 := eq_true q201; have p202 : 0 ≤ (x5_2 : Int) := as_; have q202 : x5_2 < (l0.length : Int) := as_; obtain ⟨ad202, e202, hx202_0, hx202_1, hx202_2⟩ := at_T99 HR0.out x5_2 p202 q202
                  cases e202
                  replace hx202_0 := hbc_ HB.out hx202_0; replace hx202_1 := hbc_ HB.out hx202_1; replace hx202_2 := hbc_ HB.out hx202_2; replace p202 := eq_true p202; replace q202 := eq_true q202
                  go_wp2
                  repeat (go_quiet (fail); try go_wp2)
                  go_ret
                  exact ⟨by first | rfl | (simp [errW_none, errW_some] <;> rfl) | (simp only [← hji13]; first | rfl | (simp [errW_none, errW_some] <;> rfl)) | (simp [*, errW_none, errW_some] <;> rfl), by repeat (first | (with_reducible first | exact HB.out | apply below_alloc | apply pw_below_drewN | apply below_drew1 | refine below_set ?_ GE199.out) | exact HB.out)⟩
                rw [if_neg c12] at H; exact absurd H (by simp)
              rw [if_neg c11] at H; exact absurd H (by simp)
            rw [if_neg c10] at H; exact absurd H (by simp)
          rw [if_neg c9] at H; have c9b0 := decide_eq_false c9; clear c9; obtain rfl := Option.some.inj H
          go_wp2
          repeat (go_quiet (fail); try go_wp2)
          go_ret
          exact fin_ (bs1_ HB.out GE199.out)

/-! ### spec_Parts: function 163 -/
mutual
def spec_Parts.l0 : Nat → Int → Int → Int → Int → List (I_Term) → Option (Int)
  | 0, _, _, _, _, _ => none
  | k + 1, x3, x4, x210000, x210001, x210002 => if x4 < (x210002.length : Int) then (if 0 ≤ x4 then ((spec_Parts.f k ((rd_I_Term x210002 x4).f0) ((rd_I_Term x210002 x4).f1) ((rd_I_Term x210002 x4).f2)).bind fun t211 => (spec_Parts.l0 k (wrap64 (x3 + t211)) (wrap64 (x4 + 1)) x210000 x210001 x210002)) else (none)) else (some x3)
def spec_Parts.f : Nat → Int → Int → List (I_Term) → Option (Int)
  | 0, _, _, _ => none
  | k + 1, a0_0, a0_1, l0_2 => spec_Parts.l0 k 1 0 a0_0 a0_1 l0_2
end
theorem spec_Parts.mono_l : ∀ k, (∀ y0 y1 y2, LeO (spec_Parts.f k y0 y1 y2) (spec_Parts.f (k + 1) y0 y1 y2)) ∧ (∀ y0 y1 y2 y3 y4, LeO (spec_Parts.l0 k y0 y1 y2 y3 y4) (spec_Parts.l0 (k + 1) y0 y1 y2 y3 y4))
  | 0 => ⟨fun _ _ _ r h => by simp [spec_Parts.f] at h, fun _ _ _ _ _ r h => by simp [spec_Parts.l0] at h⟩
  | k + 1 => by
    obtain ⟨ih0, ih1⟩ := spec_Parts.mono_l k; refine ⟨?_, ?_⟩
    · intro y0 y1 y2
      unfold spec_Parts.f
      repeat' first | (with_reducible first | exact ih0 _ _ _ | exact ih1 _ _ _ _ _ | exact LeO.refl _ | exact LeO.none _ | refine LeO.ite ?_ ?_ | refine LeO.bind ?_ (fun _ => ?_)) | exact ih0 _ _ _ | exact ih1 _ _ _ _ _ | exact LeO.none _ | refine LeO.ite ?_ ?_ | refine LeO.bind ?_ (fun _ => ?_)
    · intro y0 y1 y2 y3 y4
      unfold spec_Parts.l0
      repeat' first | (with_reducible first | exact ih0 _ _ _ | exact ih1 _ _ _ _ _ | exact LeO.refl _ | exact LeO.none _ | refine LeO.ite ?_ ?_ | refine LeO.bind ?_ (fun _ => ?_)) | exact ih0 _ _ _ | exact ih1 _ _ _ _ _ | exact LeO.none _ | refine LeO.ite ?_ ?_ | refine LeO.bind ?_ (fun _ => ?_)
theorem spec_Parts.mono : ∀ a0 a1 a2 k, LeO (spec_Parts.f k a0 a1 a2) (spec_Parts.f (k + 1) a0 a1 a2) := by
  intro a0 a1 a2 k; obtain ⟨ih0, ih1⟩ := spec_Parts.mono_l k; exact ih0 a0 a1 a2
set_option maxHeartbeats 8000000 in
set_option maxRecDepth 100000 in
theorem spec_Parts.calls (k : Nat) : ∀ (a0_0 : Int) (a0_1 : Int) (A0_2 : Option Addr) (c0_2 : Nat) (l0_2 : List (I_Term)) (r : Int) (w : World) (hr0_2 : Kd.C k33 w A0_2 l0_2.length l0_2) (hc0_2 : l0_2.length ≤ c0_2) (h : spec_Parts.f k a0_0 a0_1 l0_2 = some r),
    Calls Try.prog 163 #[.agg #[.int .i64 a0_0, .int .i64 a0_1, .slice A0_2 l0_2.length c0_2]] w fun e w' => e = .returned (.int .i64 r) ∧ Below w.heap.size w w' := by
  induction k using Nat.strongRecOn with
  | _ k ih =>
  intro a0_0 a0_1 A0_2 c0_2 l0_2 r w hr0_2 hc0_2 h
  cases k with
  | zero => exact absurd h (by simp [spec_Parts.f])
  | succ k =>
  simp only [spec_Parts.f] at h
  have hu33 := Try.underlying33; have HR0_2 := ak hr0_2; have HC0_2 := ak hc0_2; clear hr0_2 hc0_2; have HB := ak (Below.refl w.heap.size w); have H : (spec_Parts.l0 k 1 0 a0_0 a0_1 l0_2) = some r := h; clear h; have H' := ak H; clear H
  go_enter Try.func163, Try.ntmps163
  go_wp2_with (first | ((with_reducible refine gate_dst (N := 1) rfl ?_); refine bxe_ (N := 1) (cs := #[.int .i64 a0_0, .int .i64 a0_1, .slice A0_2 l0_2.length c0_2]) (t := 33) ?_; intro gb209 hg w2 hbox hb; have BK209 := ak (hbox); have GW209 := ak (lg_ hg (bl_ HB.out)); have GE209 := ak (lg_ hg (bl_ HB.out)); replace HB := ak (below_step (bl_ HB.out) hb); clear hb hbox hg))
  go_loopg [3, 4] k (fun kq v3 v4 w' => ∃ (x3_1 : Int) (x4_1 : Int), v3 = .int .i64 x3_1 ∧ v4 = .int .i64 x4_1 ∧ Aside0 (spec_Parts.l0 kq x3_1 x4_1 a0_0 a0_1 l0_2 = some r) ∧ Aside0 (kq ≤ k) ∧ Aside0 (w'.heap[gb209]? = some (.cells #[.int .i64 a0_0, .int .i64 a0_1, (.slice A0_2 l0_2.length c0_2)] 33 (0, 0))) ∧ Aside0 (Below w.heap.size w w'))
  case atStart => exact ⟨(1), (0), (by first | rfl | (simp; done) | (simp [*]; done)), (by first | rfl | (simp; done) | (simp [*]; done)), H', ⟨Nat.le_refl _⟩, ⟨bk_ BK209.out⟩, ⟨bs1_ HB.out GE209.out⟩⟩
  case round =>
    clear H'; (try clear c1); (try clear p2); obtain ⟨x3_1, x4_1, rfl, rfl, HA, HK1, BK209, HB⟩ := hrel
    cases gk with
    | zero => exact absurd HA.out (by simp [spec_Parts.l0])
    | succ k1 =>
      have H := HA.out; clear HA
      simp only [spec_Parts.l0] at H
      by_cases c3 : x4_1 < (l0_2.length : Int)
      · rw [if_pos c3] at H; have c3b0 := decide_eq_true c3; clear c3
        by_cases c4 : 0 ≤ x4_1
        · rw [if_pos c4] at H; have c4b0 := decide_eq_true c4; clear c4; replace H := Option.bind_eq_some_iff.mp H; obtain ⟨t211, A50, H⟩ := H; have A5 := ak A50; clear A50; have H' := ak H; clear H; have hcz6_0 := bc_ BK209.out 0; have hcz6_1 := bc_ BK209.out 1; have hcz6_2 := bc_ BK209.out 2; have hfz6_0 := blk_frozen BK209.out 0; have hfz6_1 := blk_frozen BK209.out 1; have hfz6_2 := blk_frozen BK209.out 2; have p210 : 0 ≤ (x4_1 : Int) := as_; have q210 : x4_1 < (l0_2.length : Int) := as_; obtain ⟨ad210, A210_2, c210_2, e210, hx210_0, hx210_1, hx210_2, hl210_2, hi210_2⟩ := at_T33 HR0_2.out x4_1 p210 q210
          cases e210
          replace hx210_0 := hbc_ HB.out hx210_0; replace hx210_1 := hbc_ HB.out hx210_1; replace hx210_2 := hbc_ HB.out hx210_2; have HR210_2 := ak hi210_2; have HC210_2 := ak hl210_2; clear hi210_2 hl210_2; replace p210 := eq_true p210; replace q210 := eq_true q210
          go_wp2_with (first | ((with_reducible refine gate_callee (f := 163) rfl ?_); refine goesM_ (some 18) rfl rfl Try.func163 (by kernel_rfl) rfl #[.agg #[.int .i64 ((rd_I_Term l0_2 x4_1).f0), .int .i64 ((rd_I_Term l0_2 x4_1).f1), .slice A210_2 ((rd_I_Term l0_2 x4_1).f2).length c210_2]] rfl ?_; (with_reducible refine (ih k1 (by have := HK1.out; omega) ((rd_I_Term l0_2 x4_1).f0) ((rd_I_Term l0_2 x4_1).f1) _ _ ((rd_I_Term l0_2 x4_1).f2) t211 _ ?side1 ?side2 A5.out).mono ?_); (case side1 => exact cb_ HR210_2.out HB.out); (case side2 => exact HC210_2.out); rintro e w7 ⟨rfl, hb⟩; refine ⟨_, rfl, ?_⟩; replace BK209 := ak (blk_below (bk_ BK209.out) hb); replace HB := ak (below_step (bs1_ HB.out GE209.out) hb); (try clear hb); (try clear hb2); (try clear hk); (try clear hi)))
          go_roundg k1
          case measure => have := HK1.out; omega
          case rel => exact ⟨(wrap64 (x3_1 + t211)), (wrap64 (x4_1 + 1)), (by first | rfl | (simp; done) | (simp [*]; done)), (by first | rfl | (simp; done) | (simp [*]; done)), H', ⟨by have := HK1.out; omega⟩, ⟨bk_ BK209.out⟩, ⟨bs1_ HB.out GE209.out⟩⟩
        rw [if_neg c4] at H; exact absurd H (by simp)
      rw [if_neg c3] at H; have c3b0 := decide_eq_false c3; clear c3; obtain rfl := Option.some.inj H; have hcz8_0 := bc_ BK209.out 0; have hcz8_1 := bc_ BK209.out 1; have hcz8_2 := bc_ BK209.out 2; have hfz8_0 := blk_frozen BK209.out 0; have hfz8_1 := blk_frozen BK209.out 1; have hfz8_2 := blk_frozen BK209.out 2
      go_wp2
      go_ret
      exact fin_ (bs1_ HB.out GE209.out)

end Go.Proofs.Ytcboagkbcoihjaa.XValue
