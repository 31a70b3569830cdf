-- printed by a program of this session (xprint, turned from the kit's print) for this claim
import Derived.Test.YtcboagkbcoihjaaXValuex0
import Derived.Test.YtcboagkbcoihjaaXValuex8
namespace Go.Proofs.Ytcboagkbcoihjaa.XValue
open Go.RowKit Go.Proofs.Ytcboagkbcoihjaa.XOpens Go.Proofs.YtcboagkbcoihjaaW.PrintWords Go.Proofs.YtcboagkbcoihjaaW.PrintLast Go.Proofs.YtcboagkbcoihjaaW.PrintMore
attribute [local go_sem] max2_int min2_int max_two min_two max_three min_three max_four min_four   -- for this text's walks alone
set_option linter.unusedVariables false
set_option linter.unusedSimpArgs false

/-! ### impl_compare: function 174 -/
mutual
def impl_compare.l0 : Nat → List (A2_i64) → Int → Int → Int → Int → List (I_Term) → Int → Int → List (I_Term) → Option (Int)
  | 0, _, _, _, _, _, _, _, _, _ => none
  | k + 1, x26, x27, x28, x327000, x327001, x327002, x328000, x328001, x328002 => if x28 < x27 then (if 0 ≤ x28 then (if x28 < (x26.length : Int) then (if ((rd_A2_i64 x26 x28).f0) < ((rd_A2_i64 x26 x28).f1) then (some (-1)) else (if ((rd_A2_i64 x26 x28).f0) > ((rd_A2_i64 x26 x28).f1) then (some 1) else (impl_compare.l0 k x26 x27 (wrap64 (x28 + 1)) x327000 x327001 x327002 x328000 x328001 x328002))) else (none)) else (none)) else (impl_compare.l1 k (x327002.length : Int) 0 x327000 x327001 x327002 x328000 x328001 x328002)
def impl_compare.l1 : Nat → Int → Int → Int → Int → List (I_Term) → Int → Int → List (I_Term) → Option (Int)
  | 0, _, _, _, _, _, _, _, _ => none
  | k + 1, x47, x48, x327000, x327001, x327002, x328000, x328001, x328002 => if x48 < x47 then (if 0 ≤ x48 then (if x48 < (x327002.length : Int) then (if x48 < (x328002.length : Int) then ((impl_compare.f k ((rd_I_Term x327002 x48).f0) ((rd_I_Term x327002 x48).f1) ((rd_I_Term x327002 x48).f2) ((rd_I_Term x328002 x48).f0) ((rd_I_Term x328002 x48).f1) ((rd_I_Term x328002 x48).f2)).bind fun t335 => (if t335 = 0 then (impl_compare.l1 k x47 (wrap64 (x48 + 1)) x327000 x327001 x327002 x328000 x328001 x328002) else (some t335))) else (none)) else (none)) else (none)) else (some 0)
def impl_compare.f : Nat → Int → Int → List (I_Term) → Int → Int → List (I_Term) → Option (Int)
  | 0, _, _, _, _, _, _ => none
  | k + 1, a0_0, a0_1, l0_2, a1_0, a1_1, l1_2 => (some (([(⟨a0_0, a1_0⟩ : A2_i64), (⟨a0_1, a1_1⟩ : A2_i64), (⟨(l0_2.length : Int), (l1_2.length : Int)⟩ : A2_i64)] : List (A2_i64)) : List (A2_i64))).bind fun y328 => (impl_compare.l0 k y328 (y328.length : Int) 0 a0_0 a0_1 l0_2 a1_0 a1_1 l1_2)
end
theorem impl_compare.mono_l : ∀ k, (∀ y0 y1 y2 y3 y4 y5, LeO (impl_compare.f k y0 y1 y2 y3 y4 y5) (impl_compare.f (k + 1) y0 y1 y2 y3 y4 y5)) ∧ (∀ y0 y1 y2 y3 y4 y5 y6 y7 y8, LeO (impl_compare.l0 k y0 y1 y2 y3 y4 y5 y6 y7 y8) (impl_compare.l0 (k + 1) y0 y1 y2 y3 y4 y5 y6 y7 y8)) ∧ (∀ y0 y1 y2 y3 y4 y5 y6 y7, LeO (impl_compare.l1 k y0 y1 y2 y3 y4 y5 y6 y7) (impl_compare.l1 (k + 1) y0 y1 y2 y3 y4 y5 y6 y7))
  | 0 => ⟨fun _ _ _ _ _ _ r h => by simp [impl_compare.f] at h, fun _ _ _ _ _ _ _ _ _ r h => by simp [impl_compare.l0] at h, fun _ _ _ _ _ _ _ _ r h => by simp [impl_compare.l1] at h⟩
  | k + 1 => by
    obtain ⟨ih0, ih1, ih2⟩ := impl_compare.mono_l k; refine ⟨?_, ?_, ?_⟩
    · intro y0 y1 y2 y3 y4 y5
      unfold impl_compare.f
      repeat' first | (with_reducible first | exact ih0 _ _ _ _ _ _ | exact ih1 _ _ _ _ _ _ _ _ _ | exact ih2 _ _ _ _ _ _ _ _ | exact LeO.refl _ | exact LeO.none _ | refine LeO.ite ?_ ?_ | refine LeO.bind ?_ (fun _ => ?_)) | exact ih0 _ _ _ _ _ _ | exact ih1 _ _ _ _ _ _ _ _ _ | exact ih2 _ _ _ _ _ _ _ _ | exact LeO.none _ | refine LeO.ite ?_ ?_ | refine LeO.bind ?_ (fun _ => ?_)
    · intro y0 y1 y2 y3 y4 y5 y6 y7 y8
      unfold impl_compare.l0
      repeat' first | (with_reducible first | exact ih0 _ _ _ _ _ _ | exact ih1 _ _ _ _ _ _ _ _ _ | exact ih2 _ _ _ _ _ _ _ _ | exact LeO.refl _ | exact LeO.none _ | refine LeO.ite ?_ ?_ | refine LeO.bind ?_ (fun _ => ?_)) | exact ih0 _ _ _ _ _ _ | exact ih1 _ _ _ _ _ _ _ _ _ | exact ih2 _ _ _ _ _ _ _ _ | exact LeO.none _ | refine LeO.ite ?_ ?_ | refine LeO.bind ?_ (fun _ => ?_)
    · intro y0 y1 y2 y3 y4 y5 y6 y7
      unfold impl_compare.l1
      repeat' first | (with_reducible first | exact ih0 _ _ _ _ _ _ | exact ih1 _ _ _ _ _ _ _ _ _ | exact ih2 _ _ _ _ _ _ _ _ | exact LeO.refl _ | exact LeO.none _ | refine LeO.ite ?_ ?_ | refine LeO.bind ?_ (fun _ => ?_)) | exact ih0 _ _ _ _ _ _ | exact ih1 _ _ _ _ _ _ _ _ _ | exact ih2 _ _ _ _ _ _ _ _ | exact LeO.none _ | refine LeO.ite ?_ ?_ | refine LeO.bind ?_ (fun _ => ?_)
theorem impl_compare.mono : ∀ a0 a1 a2 a3 a4 a5 k, LeO (impl_compare.f k a0 a1 a2 a3 a4 a5) (impl_compare.f (k + 1) a0 a1 a2 a3 a4 a5) := by
  intro a0 a1 a2 a3 a4 a5 k; obtain ⟨ih0, ih1, ih2⟩ := impl_compare.mono_l k; exact ih0 a0 a1 a2 a3 a4 a5
def impl_compare.T12 : Bool × List (List Nat × List Nat) := (true, [([], []), ([0], [0]), ([], []), ([1, 2], [1, 2]), ([3], [3]), ([], []), ([5], [5]), ([], []), ([6, 7], [6, 7]), ([8], [8]), ([4, 9], [4, 9]), ([10, 10, 0, 1, 2, 3, 4, 5, 6, 7, 8, 9, 10], [10])])
def impl_compare.B12 : List Nat := [0, 1, 0, 7, 15, 0, 32, 0, 224, 480, 1023, 2047]
theorem impl_compare.tab12 : rtab .any (opsOf Try.f174 12) = impl_compare.T12 := by kernel_rfl
theorem impl_compare.bits12 : waitsOk impl_compare.T12.2 impl_compare.B12 = true := by kernel_rfl
set_option maxHeartbeats 8000000 in
set_option maxRecDepth 100000 in
theorem impl_compare.calls (k : Nat) : ∀ (a0_0 : Int) (a0_1 : Int) (A0_2 : Option Addr) (c0_2 : Nat) (l0_2 : List (I_Term)) (a1_0 : Int) (a1_1 : Int) (A1_2 : Option Addr) (c1_2 : Nat) (l1_2 : List (I_Term)) (r : Int) (w : World) (hr0_2 : Kd.C k33 w A0_2 l0_2.length l0_2) (hc0_2 : l0_2.length ≤ c0_2) (hr1_2 : Kd.C k33 w A1_2 l1_2.length l1_2) (hc1_2 : l1_2.length ≤ c1_2) (h : impl_compare.f k a0_0 a0_1 l0_2 a1_0 a1_1 l1_2 = some r),
    Calls Try.prog 174 #[.agg #[.int .i64 a0_0, .int .i64 a0_1, .slice A0_2 l0_2.length c0_2], .agg #[.int .i64 a1_0, .int .i64 a1_1, .slice A1_2 l1_2.length c1_2]] w fun e w' => e = .returned (.int .i64 r) ∧ Below w.heap.size w w' := by
  induction k using Nat.strongRecOn with
  | _ k ih =>
  intro a0_0 a0_1 A0_2 c0_2 l0_2 a1_0 a1_1 A1_2 c1_2 l1_2 r w hr0_2 hc0_2 hr1_2 hc1_2 h
  cases k with
  | zero => exact absurd h (by simp [impl_compare.f])
  | succ k =>
  simp only [impl_compare.f] at h
  have hu33 := Try.underlying33; have hu166 := Try.underlying166; have HR0_2 := ak hr0_2; have HC0_2 := ak hc0_2; clear hr0_2 hc0_2; have HR1_2 := ak hr1_2; have HC1_2 := ak hc1_2; clear hr1_2 hc1_2; have HB := ak (Below.refl w.heap.size w); have H : ((some (([(⟨a0_0, a1_0⟩ : A2_i64), (⟨a0_1, a1_1⟩ : A2_i64), (⟨(l0_2.length : Int), (l1_2.length : Int)⟩ : A2_i64)] : List (A2_i64)) : List (A2_i64))).bind fun y328 => (impl_compare.l0 k y328 (y328.length : Int) 0 a0_0 a0_1 l0_2 a1_0 a1_1 l1_2)) = some r := h; clear h; obtain ⟨y328, hy328⟩ : ∃ y_ : List (A2_i64), y_ = (([(⟨a0_0, a1_0⟩ : A2_i64), (⟨a0_1, a1_1⟩ : A2_i64), (⟨(l0_2.length : Int), (l1_2.length : Int)⟩ : A2_i64)] : List (A2_i64))) := ⟨_, rfl⟩; replace H : (impl_compare.l0 k y328 (y328.length : Int) 0 a0_0 a0_1 l0_2 a1_0 a1_1 l1_2) = some r := by first | (rw [hy328]; with_reducible exact H) | (have H2_ := (Option.bind_some _ _).symm.trans H; rw [hy328]; with_reducible exact H2_) | (have H2_ := (Option.bind_some _ _).symm.trans H; with_reducible exact H2_) | with_reducible exact H | (rw [hy328]; exact H) | exact H
  have Ny328 := ak hy328; clear hy328; have H' := ak H; clear H
  go_enter Try.func174, Try.ntmps174
  go_wp2_with (first | ((with_reducible refine gate_dst (N := 2) rfl ?_); refine bxe_ (N := 2) (cs := #[.int .i64 a0_0, .int .i64 a0_1, .slice A0_2 l0_2.length c0_2]) (t := 33) ?_; intro gb326 hg w3 hbox hb; have BK326 := ak (hbox); have GW326 := ak (lg_ hg (bl_ HB.out)); have GE326 := ak (lg_ hg (bl_ HB.out)); replace HB := ak (below_step (bl_ HB.out) hb); clear hb hbox hg) | ((with_reducible refine gate_dst (N := 3) rfl ?_); refine bxe_ (N := 3) (cs := #[.int .i64 a1_0, .int .i64 a1_1, .slice A1_2 l1_2.length c1_2]) (t := 33) ?_; intro gb327 hg w4 hbox hb; have BK327 := ak (hbox); have GW327 := ak (lg_ hg (bs1_ HB.out GE326.out)); have GE327 := ak (lg_ hg (bs1_ HB.out GE326.out)); replace HB := ak (below_step (bs1_ HB.out GE326.out) hb); have NB326_327 := ak (nl_ hg (bk_ BK326.out)); have NB327_326 := ak (ng_ hg (bk_ BK326.out)); replace BK326 := ak (blk_below (bk_ BK326.out) hb); clear hb hbox hg; have hnb5 := NB326_327.out; have hnc5 := NB327_326.out; have hcz6_0 := bc_ BK326.out 0; have hcz6_1 := bc_ BK326.out 1; have hcz6_2 := bc_ BK326.out 2; have hfz6_0 := blk_frozen BK326.out 0; have hfz6_1 := blk_frozen BK326.out 1; have hfz6_2 := blk_frozen BK326.out 2; have hcz7_0 := bc_ BK327.out 0; have hcz7_1 := bc_ BK327.out 1; have hcz7_2 := bc_ BK327.out 2; have hfz7_0 := blk_frozen BK327.out 0; have hfz7_1 := blk_frozen BK327.out 1; have hfz7_2 := blk_frozen BK327.out 2) | ((with_reducible refine gate_dst (N := 26) rfl ?_); refine Kd.R_lit k166 _ 166 ?hg (N := 26) ?hd (xs := ([(⟨a0_0, a1_0⟩ : A2_i64), (⟨a0_1, a1_1⟩ : A2_i64), (⟨(l0_2.length : Int), (l1_2.length : Int)⟩ : A2_i64)] : List (A2_i64))) (inner := [.int .i64 a0_0, .int .i64 a1_0, .int .i64 a0_1, .int .i64 a1_1, .int .i64 (l0_2.length : Int), .int .i64 (l1_2.length : Int)]) (ok := fun _ => True) (okp := fun _ => True) ?hr ?hp (fun _ hk => hk) trivial (Below.refl _ _) (Nat.le_refl _) (by simp) ?_; (case hd => rfl); (case hg => rfl); (case hr => first | (go_simp; done) | (go_simp; rfl)); (case hp => exact (Reps.c2 (show Kd.M k166 _ _ _ (⟨a0_0, a1_0⟩ : A2_i64) [.int .i64 a0_0, .int .i64 a1_0] from (k166_mkM _ _ _ (⟨a0_0, a1_0⟩ : A2_i64) )) (Reps.c2 (show Kd.M k166 _ _ _ (⟨a0_1, a1_1⟩ : A2_i64) [.int .i64 a0_1, .int .i64 a1_1] from (k166_mkM _ _ _ (⟨a0_1, a1_1⟩ : A2_i64) )) (Reps.c2 (show Kd.M k166 _ _ _ (⟨(l0_2.length : Int), (l1_2.length : Int)⟩ : A2_i64) [.int .i64 (l0_2.length : Int), .int .i64 (l1_2.length : Int)] from (k166_mkM _ _ _ (⟨(l0_2.length : Int), (l1_2.length : Int)⟩ : A2_i64) )) (Reps.none _ _))))); intro v329 w8 ho9 hb hg_ hnew_; clear hg_ hnew_; (first | rw [← Ny328.out] at ho9 | (simp only [Int.reduceToNat] at ho9; rw [← Ny328.out] at ho9)); have HO330 := ak (Kd.R_lower ho9 (below_size (bs2_ HB.out GE326.out GE327.out))); replace BK326 := ak (blk_below (bk_ BK326.out) hb); replace BK327 := ak (blk_below (bk_ BK327.out) hb); replace HB := ak (below_step (bs2_ HB.out GE326.out GE327.out) hb); clear hb ho9; obtain ⟨Ao10, co10, eo10⟩ := Kd.R_slice HO330.out; subst eo10))
  go_loopg [28] k (fun kq v28 w' => ∃ (x28_1 : Int), v28 = .int .i64 x28_1 ∧ Aside0 (impl_compare.l0 kq y328 (y328.length : Int) x28_1 a0_0 a0_1 l0_2 a1_0 a1_1 l1_2 = some r) ∧ Aside0 (kq ≤ k) ∧ Aside0 (Kd.R k166 166 w' w.heap.size (fun _ => True) (.slice Ao10 y328.length co10) y328) ∧ Aside0 (w'.heap[gb326]? = some (.cells #[.int .i64 a0_0, .int .i64 a0_1, (.slice A0_2 l0_2.length c0_2)] 33 (0, 0))) ∧ Aside0 (w'.heap[gb327]? = some (.cells #[.int .i64 a1_0, .int .i64 a1_1, (.slice A1_2 l1_2.length c1_2)] 33 (0, 0))) ∧ Aside0 (Below w.heap.size w w'))
  case atStart => exact ⟨(0), (by first | rfl | (simp; done) | (simp [*]; done)), H', ⟨Nat.le_refl _⟩, ⟨by (with_reducible repeat (first | apply Kd.R_alloc | apply Kd.R_drewN | apply Kd.R_drew)); exact HO330.out⟩, ⟨bk_ BK326.out⟩, ⟨bk_ BK327.out⟩, ⟨bs2_ HB.out GE326.out GE327.out⟩⟩
  case round =>
    clear H'; (try clear c1); (try clear c2); (try clear p2); (try clear c5); (try clear hcz6_0); (try clear hcz6_1); (try clear hcz6_2); (try clear hcz7_0); (try clear hcz7_1); (try clear hcz7_2); (try clear hfz6_0); (try clear hfz6_1); (try clear hfz6_2); (try clear hfz7_0); (try clear hfz7_1); (try clear hfz7_2); obtain ⟨x28_1, rfl, HA, HK1, HO_26, BK326, BK327, HB⟩ := hrel
    cases gk with
    | zero => exact absurd HA.out (by simp [impl_compare.l0])
    | succ k1 =>
      have H := HA.out; clear HA
      simp only [impl_compare.l0] at H
      by_cases c11 : x28_1 < (y328.length : Int)
      · rw [if_pos c11] at H; have c11b0 := decide_eq_true c11; clear c11
        by_cases c12 : 0 ≤ x28_1
        · rw [if_pos c12] at H; have c12b0 := decide_eq_true c12; clear c12
          by_cases c13 : x28_1 < (y328.length : Int)
          · rw [if_pos c13] at H; have c13b0 := decide_eq_true c13; clear c13
            by_cases c14 : ((rd_A2_i64 y328 x28_1).f0) < ((rd_A2_i64 y328 x28_1).f1)
            · rw [if_pos c14] at H; have c14b0 := decide_eq_true c14; clear c14; obtain rfl := Option.some.inj H; have p331 : 0 ≤ (x28_1 : Int) := as_; have q331 : x28_1 < (y328.length : Int) := as_; obtain ⟨ad331, e331, hx331_0, hx331_1⟩ := at_T166 (Kd.R_reads' HO_26.out).2.2 x28_1 p331 q331
              cases e331
              replace p331 := eq_true p331; replace q331 := eq_true q331
              go_wp2_with (first | ((with_reducible refine gate_dst (N := 6) rfl ?_); refine bxe_ (N := 6) (cs := #[.int .i64 0, .int .i64 0]) (t := 166) ?_; intro gb332 hg w15 hbox hb; replace HO_26 := ak (Kd.R_below (Kd.R_elderB (ra_ HO_26.out) gb332 (Nat.le_of_eq hg.symm)) hb); have BK332 := ak (hbox); have GW332 := ak (lg_ hg (bs2_ HB.out GE326.out GE327.out)); have GE332 := ak (lg_ hg (bs2_ HB.out GE326.out GE327.out)); replace HB := ak (below_step (bs2_ HB.out GE326.out GE327.out) hb); have NB326_332 := ak (nl_ hg (bk_ BK326.out)); have NB332_326 := ak (ng_ hg (bk_ BK326.out)); replace BK326 := ak (blk_below (bk_ BK326.out) hb); have NB327_332 := ak (nl_ hg (bk_ BK327.out)); have NB332_327 := ak (ng_ hg (bk_ BK327.out)); replace BK327 := ak (blk_below (bk_ BK327.out) hb); clear hb hbox hg; have hnb16 := NB332_326.out; have hnc16 := NB326_332.out; have hnb17 := NB332_327.out; have hnc17 := NB327_332.out; have hcz18_0 := bc_ BK332.out 0; have hcz18_1 := bc_ BK332.out 1; have hfz18_0 := blk_frozen BK332.out 0; have hfz18_1 := blk_frozen BK332.out 1))
              go_ret
              exact fin_ (bs3_ HB.out GE326.out GE327.out GE332.out)
            rw [if_neg c14] at H; have c14b0 := decide_eq_false c14; clear c14
            by_cases c19 : ((rd_A2_i64 y328 x28_1).f0) > ((rd_A2_i64 y328 x28_1).f1)
            · rw [if_pos c19] at H; have c19b0 := decide_eq_true c19; clear c19; obtain rfl := Option.some.inj H; have p331 : 0 ≤ (x28_1 : Int) := as_; have q331 : x28_1 < (y328.length : Int) := as_; obtain ⟨ad331, e331, hx331_0, hx331_1⟩ := at_T166 (Kd.R_reads' HO_26.out).2.2 x28_1 p331 q331
              cases e331
              replace p331 := eq_true p331; replace q331 := eq_true q331
              go_wp2_with (first | ((with_reducible refine gate_dst (N := 6) rfl ?_); refine bxe_ (N := 6) (cs := #[.int .i64 0, .int .i64 0]) (t := 166) ?_; intro gb332 hg w20 hbox hb; replace HO_26 := ak (Kd.R_below (Kd.R_elderB (ra_ HO_26.out) gb332 (Nat.le_of_eq hg.symm)) hb); have BK332 := ak (hbox); have GW332 := ak (lg_ hg (bs2_ HB.out GE326.out GE327.out)); have GE332 := ak (lg_ hg (bs2_ HB.out GE326.out GE327.out)); replace HB := ak (below_step (bs2_ HB.out GE326.out GE327.out) hb); have NB326_332 := ak (nl_ hg (bk_ BK326.out)); have NB332_326 := ak (ng_ hg (bk_ BK326.out)); replace BK326 := ak (blk_below (bk_ BK326.out) hb); have NB327_332 := ak (nl_ hg (bk_ BK327.out)); have NB332_327 := ak (ng_ hg (bk_ BK327.out)); replace BK327 := ak (blk_below (bk_ BK327.out) hb); clear hb hbox hg; have hnb21 := NB332_326.out; have hnc21 := NB326_332.out; have hnb22 := NB332_327.out; have hnc22 := NB327_332.out; have hcz23_0 := bc_ BK332.out 0; have hcz23_1 := bc_ BK332.out 1; have hfz23_0 := blk_frozen BK332.out 0; have hfz23_1 := blk_frozen BK332.out 1))
              go_ret
              exact fin_ (bs3_ HB.out GE326.out GE327.out GE332.out)
            rw [if_neg c19] at H; have c19b0 := decide_eq_false c19; clear c19; have H' := ak H; clear H; have p331 : 0 ≤ (x28_1 : Int) := as_; have q331 : x28_1 < (y328.length : Int) := as_; obtain ⟨ad331, e331, hx331_0, hx331_1⟩ := at_T166 (Kd.R_reads' HO_26.out).2.2 x28_1 p331 q331
            cases e331
            replace p331 := eq_true p331; replace q331 := eq_true q331
            go_wp2_with (first | ((with_reducible refine gate_dst (N := 6) rfl ?_); refine bxe_ (N := 6) (cs := #[.int .i64 0, .int .i64 0]) (t := 166) ?_; intro gb332 hg w24 hbox hb; replace HO_26 := ak (Kd.R_below (Kd.R_elderB (ra_ HO_26.out) gb332 (Nat.le_of_eq hg.symm)) hb); have BK332 := ak (hbox); have GW332 := ak (lg_ hg (bs2_ HB.out GE326.out GE327.out)); have GE332 := ak (lg_ hg (bs2_ HB.out GE326.out GE327.out)); replace HB := ak (below_step (bs2_ HB.out GE326.out GE327.out) hb); have NB326_332 := ak (nl_ hg (bk_ BK326.out)); have NB332_326 := ak (ng_ hg (bk_ BK326.out)); replace BK326 := ak (blk_below (bk_ BK326.out) hb); have NB327_332 := ak (nl_ hg (bk_ BK327.out)); have NB332_327 := ak (ng_ hg (bk_ BK327.out)); replace BK327 := ak (blk_below (bk_ BK327.out) hb); clear hb hbox hg; have hnb25 := NB332_326.out; have hnc25 := NB326_332.out; have hnb26 := NB332_327.out; have hnc26 := NB327_332.out; have hcz27_0 := bc_ BK332.out 0; have hcz27_1 := bc_ BK332.out 1; have hfz27_0 := blk_frozen BK332.out 0; have hfz27_1 := blk_frozen BK332.out 1))
            go_roundg k1
            case measure => have := HK1.out; omega
            case rel => exact ⟨(wrap64 (x28_1 + 1)), (by first | rfl | (simp; done) | (simp [*]; done)), H', ⟨by have := HK1.out; omega⟩, ⟨by (with_reducible repeat (first | apply Kd.R_alloc | apply Kd.R_drewN | apply Kd.R_drew)); exact Kd.R_mono (Kd.R_far (p := ⟨gb332, 1, none⟩) (Kd.R_far (p := ⟨gb332, 0, none⟩) (Kd.R_mono HO_26.out (fun k_ hk => (⟨hk, hk.2⟩ : _ ∧ k_ ≠ gb332))) (fun _ hk => hk.2) (.int .i64 ((rd_A2_i64 y328 x28_1).f0))) (fun _ hk => hk.2) (.int .i64 ((rd_A2_i64 y328 x28_1).f1))) (fun _ hk => trivial)⟩, ⟨by (with_reducible repeat (first | refine blk_drewN ?_ _ | refine blk_drew ?_ | refine blk_alloc ?_ _)); refine blk_far ?_ NB326_332.out _; (with_reducible repeat (first | refine blk_drewN ?_ _ | refine blk_drew ?_ | refine blk_alloc ?_ _)); refine blk_far ?_ NB326_332.out _; (with_reducible repeat (first | refine blk_drewN ?_ _ | refine blk_drew ?_ | refine blk_alloc ?_ _)); exact BK326.out⟩, ⟨by (with_reducible repeat (first | refine blk_drewN ?_ _ | refine blk_drew ?_ | refine blk_alloc ?_ _)); refine blk_far ?_ NB327_332.out _; (with_reducible repeat (first | refine blk_drewN ?_ _ | refine blk_drew ?_ | refine blk_alloc ?_ _)); refine blk_far ?_ NB327_332.out _; (with_reducible repeat (first | refine blk_drewN ?_ _ | refine blk_drew ?_ | refine blk_alloc ?_ _)); exact BK327.out⟩, ⟨bs3_ HB.out GE326.out GE327.out GE332.out⟩⟩
          rw [if_neg c13] at H; exact absurd H (by simp)
        rw [if_neg c12] at H; exact absurd H (by simp)
      rw [if_neg c11] at H; have c11b0 := decide_eq_false c11; clear c11; have H' := ak H; clear H; have hnb28 := NB326_327.out; have hnc28 := NB327_326.out; have hcz29_0 := bc_ BK326.out 0; have hcz29_1 := bc_ BK326.out 1; have hcz29_2 := bc_ BK326.out 2; have hfz29_0 := blk_frozen BK326.out 0; have hfz29_1 := blk_frozen BK326.out 1; have hfz29_2 := blk_frozen BK326.out 2
      go_wp2
      go_loopg [48] k1 (fun kq v48 w' => ∃ (x48_2 : Int), v48 = .int .i64 x48_2 ∧ Aside0 (impl_compare.l1 kq (l0_2.length : Int) x48_2 a0_0 a0_1 l0_2 a1_0 a1_1 l1_2 = some r) ∧ Aside0 (kq ≤ k1) ∧ Aside0 (w'.heap[gb326]? = some (.cells #[.int .i64 a0_0, .int .i64 a0_1, (.slice A0_2 l0_2.length c0_2)] 33 (0, 0))) ∧ Aside0 (w'.heap[gb327]? = some (.cells #[.int .i64 a1_0, .int .i64 a1_1, (.slice A1_2 l1_2.length c1_2)] 33 (0, 0))) ∧ Aside0 (Below w.heap.size w w'))
      case atStart => exact ⟨(0), (by first | rfl | (simp; done) | (simp [*]; done)), H', ⟨Nat.le_refl _⟩, ⟨bk_ BK326.out⟩, ⟨bk_ BK327.out⟩, ⟨bs2_ HB.out GE326.out GE327.out⟩⟩
      case round =>
        clear H'; (try clear c1); (try clear c2); (try clear p2); (try clear p3); (try clear q3); (try clear hx3); (try clear c5); (try clear p6); (try clear c11); (try clear c11b0); (try clear c12); (try clear c12b0); (try clear c13); (try clear c13b0); (try clear c14); (try clear c14b0); (try clear c16); (try clear c17); (try clear c19); (try clear c19b0); (try clear c21); (try clear c22); (try clear c25); (try clear c26); (try clear c28); (try clear hcz18_0); (try clear hcz18_1); (try clear hcz23_0); (try clear hcz23_1); (try clear hcz27_0); (try clear hcz27_1); (try clear hcz29_0); (try clear hcz29_1); (try clear hcz29_2); (try clear hcz6_0); (try clear hcz6_1); (try clear hcz6_2); (try clear hcz7_0); (try clear hcz7_1); (try clear hcz7_2); (try clear hfz18_0); (try clear hfz18_1); (try clear hfz23_0); (try clear hfz23_1); (try clear hfz27_0); (try clear hfz27_1); (try clear hfz29_0); (try clear hfz29_1); (try clear hfz29_2); (try clear hfz6_0); (try clear hfz6_1); (try clear hfz6_2); (try clear hfz7_0); (try clear hfz7_1); (try clear hfz7_2); (try clear hx331_0); (try clear hx331_1); (try clear p2); (try clear p331); (try clear q331); obtain ⟨x48_2, rfl, HA, HK2, BK326, BK327, HB⟩ := hrel
        cases gk with
        | zero => exact absurd HA.out (by simp [impl_compare.l1])
        | succ k2 =>
          have H := HA.out; clear HA
          simp only [impl_compare.l1] at H
          by_cases c30 : x48_2 < (l0_2.length : Int)
          · rw [if_pos c30] at H; have c30b0 := decide_eq_true c30; clear c30
            by_cases c31 : 0 ≤ x48_2
            · rw [if_pos c31] at H; have c31b0 := decide_eq_true c31; clear c31
              by_cases c32 : x48_2 < (l0_2.length : Int)
              · rw [if_pos c32] at H; have c32b0 := decide_eq_true c32; clear c32
                by_cases c33 : x48_2 < (l1_2.length : Int)
                · rw [if_pos c33] at H; have c33b0 := decide_eq_true c33; clear c33; replace H := Option.bind_eq_some_iff.mp H; obtain ⟨t335, A340, H⟩ := H; have A34 := ak A340; clear A340
                  by_cases c35 : t335 = 0
                  · rw [if_pos c35] at H; have c35b0 : (t335 == 0) = true := beq_iff_eq.mpr c35; have c35b1 : (t335 != 0) = false := bne_eq_false_iff_eq.mpr c35; clear c35; have H' := ak H; clear H
                    try go_wp2
                    replace BK326 := ak (blk_drew BK326.out); replace BK327 := ak (blk_drew BK327.out); replace HB := ak (below_drew1 HB.out); have p333 : 0 ≤ (x48_2 : Int) := as_; have q333 : x48_2 < (l0_2.length : Int) := as_; obtain ⟨ad333, A333_2, c333_2, e333, hx333_0, hx333_1, hx333_2, hl333_2, hi333_2⟩ := at_T33 HR0_2.out x48_2 p333 q333; have hw333_2 := hx333_2; have hw333_1 := hx333_1; have hw333_0 := hx333_0
                    cases e333
                    replace hx333_0 := hbc_ HB.out hx333_0; replace hx333_1 := hbc_ HB.out hx333_1; replace hx333_2 := hbc_ HB.out hx333_2; have HR333_2 := ak hi333_2; have HC333_2 := ak hl333_2; clear hi333_2 hl333_2; replace p333 := eq_true p333; replace q333 := eq_true q333; have p334 : 0 ≤ (x48_2 : Int) := as_; have q334 : x48_2 < (l1_2.length : Int) := as_; obtain ⟨ad334, A334_2, c334_2, e334, hx334_0, hx334_1, hx334_2, hl334_2, hi334_2⟩ := at_T33 HR1_2.out x48_2 p334 q334; have hw334_2 := hx334_2; have hw334_1 := hx334_1; have hw334_0 := hx334_0
                    cases e334
                    replace hx334_0 := hbc_ HB.out hx334_0; replace hx334_1 := hbc_ HB.out hx334_1; replace hx334_2 := hbc_ HB.out hx334_2; have HR334_2 := ak hi334_2; have HC334_2 := ak hl334_2; clear hi334_2 hl334_2; replace p334 := eq_true p334; replace q334 := eq_true q334; refine start_ (n := 12) (S := fun w' => w'.cell? ⟨gb326, 0, none⟩ = some (.int .i64 a0_0) ∧ w'.cell? ⟨gb326, 1, none⟩ = some (.int .i64 a0_1) ∧ w'.cell? ⟨gb326, 2, none⟩ = some (.slice (some ad333) l0_2.length c0_2) ∧ w'.cell? ⟨gb327, 0, none⟩ = some (.int .i64 a1_0) ∧ w'.cell? ⟨gb327, 1, none⟩ = some (.int .i64 a1_1) ∧ w'.cell? ⟨gb327, 2, none⟩ = some (.slice (some ad334) l1_2.length c1_2) ∧ w'.cell? (ad333.add ((x48_2).toNat * 3)) = some (.int .i64 ((rd_I_Term l0_2 x48_2).f0)) ∧ w'.cell? ⟨(ad333.add ((x48_2).toNat * 3)).block, (ad333.add ((x48_2).toNat * 3)).off + 1, none⟩ = some (.int .i64 ((rd_I_Term l0_2 x48_2).f1)) ∧ w'.cell? ⟨(ad333.add ((x48_2).toNat * 3)).block, (ad333.add ((x48_2).toNat * 3)).off + 2, none⟩ = some (.slice A333_2 ((rd_I_Term l0_2 x48_2).f2).length c333_2) ∧ w'.cell? (ad334.add ((x48_2).toNat * 3)) = some (.int .i64 ((rd_I_Term l1_2 x48_2).f0)) ∧ w'.cell? ⟨(ad334.add ((x48_2).toNat * 3)).block, (ad334.add ((x48_2).toNat * 3)).off + 1, none⟩ = some (.int .i64 ((rd_I_Term l1_2 x48_2).f1)) ∧ w'.cell? ⟨(ad334.add ((x48_2).toNat * 3)).block, (ad334.add ((x48_2).toNat * 3)).off + 2, none⟩ = some (.slice A334_2 ((rd_I_Term l1_2 x48_2).f2).length c334_2)) (ds := []) (bm 12 0) (by kernel_rfl) rfl (by kernel_rfl) ⟨(blk_cell BK326.out 0).trans rfl, (blk_cell BK326.out 1).trans rfl, (blk_cell BK326.out 2).trans rfl, (blk_cell BK327.out 0).trans rfl, (blk_cell BK327.out 1).trans rfl, (blk_cell BK327.out 2).trans rfl, (hbc_ HB.out hw333_0 :), (hbc_ HB.out hw333_1 :), (hbc_ HB.out hw333_2 :), (hbc_ HB.out hw334_0 :), (hbc_ HB.out hw334_1 :), (hbc_ HB.out hw334_2 :)⟩ (fun hHeld => ?_); refine with_tabW impl_compare.tab12 impl_compare.bits12 (fun HT_ HW_ => ?_)
                    generalize wr.drew = w36 at BK326 BK327 HB HR333_2 HR334_2 hx333_0 hx333_1 hx333_2 hx334_0 hx334_1 hx334_2 hHeld ⊢
                    refine pv_ 0 ?_; refine pv_ 2 ?_; refine pv_ 5 ?_; refine pv_ 7 ?_; refine tv_ 1 hHeld ?_; refine pv_ 3 ?_; refine tv_ 4 hHeld ?_; refine tv_ 6 hHeld ?_; refine pv_ 8 ?_; refine tv_ 9 hHeld ?_; refine one_ (i := 10) (N := some 61) (bm 12 2047) rfl rfl (one_of HT_.out (by kernel_rfl)) (by decide) (fun K hK => ?_); refine goesB_ Try.func174 (by kernel_rfl) rfl #[.agg #[.int .i64 ((rd_I_Term l0_2 x48_2).f0), .int .i64 ((rd_I_Term l0_2 x48_2).f1), .slice A333_2 ((rd_I_Term l0_2 x48_2).f2).length c333_2], .agg #[.int .i64 ((rd_I_Term l1_2 x48_2).f0), .int .i64 ((rd_I_Term l1_2 x48_2).f1), .slice A334_2 ((rd_I_Term l1_2 x48_2).f2).length c334_2]] (by rfl) rfl rfl ?_
                    with_reducible refine (ih k2 (by have := HK1.out; have := HK2.out; omega) ((rd_I_Term l0_2 x48_2).f0) ((rd_I_Term l0_2 x48_2).f1) _ _ ((rd_I_Term l0_2 x48_2).f2) ((rd_I_Term l1_2 x48_2).f0) ((rd_I_Term l1_2 x48_2).f1) _ _ ((rd_I_Term l1_2 x48_2).f2) t335 _ ?side1 ?side2 ?side3 ?side4 A34.out).mono ?_
                    (case side1 => exact cb_ HR333_2.out HB.out); (case side2 => exact HC333_2.out); (case side3 => exact cb_ HR334_2.out HB.out); (case side4 => exact HC334_2.out); rintro e w37 ⟨rfl, hb⟩; refine ⟨_, rfl, ?_⟩; replace BK326 := ak (blk_below (bk_ BK326.out) hb); replace BK327 := ak (blk_below (bk_ BK327.out) hb); replace HB := ak (below_step (bs2_ HB.out GE326.out GE327.out) hb); (try clear hb); (try clear hb2); (try clear hk); (try clear hi); refine hK.out _ _ ⟨(blk_cell BK326.out 0).trans rfl, (blk_cell BK326.out 1).trans rfl, (blk_cell BK326.out 2).trans rfl, (blk_cell BK327.out 0).trans rfl, (blk_cell BK327.out 1).trans rfl, (blk_cell BK327.out 2).trans rfl, (hbc_ HB.out hw333_0 :), (hbc_ HB.out hw333_1 :), (hbc_ HB.out hw333_2 :), (hbc_ HB.out hw334_0 :), (hbc_ HB.out hw334_1 :), (hbc_ HB.out hw334_2 :)⟩ (fun hHeld => ?_); clear hK K; refine norm_ (a' := ?_) ?_ ?_
                    rotate_left
                    · show Act.put _ (some 61) _ = _
                      simp only [Act.put, List.setIfInBounds_toArray, List.set_cons_zero, List.set_cons_succ, i64_w, i32_w]
                      rfl
                    refine pv_ 11 ?_; refine done_ (done_of HT_.out (by kernel_rfl)) ?_
                    try go_wp2
                    go_roundg k2
                    case measure => have := HK1.out; have := HK2.out; omega
                    case rel => exact ⟨(wrap64 (x48_2 + 1)), (by first | rfl | (simp; done) | (simp [*]; done)), H', ⟨by have := HK1.out; have := HK2.out; omega⟩, ⟨bk_ BK326.out⟩, ⟨bk_ BK327.out⟩, ⟨bs2_ HB.out GE326.out GE327.out⟩⟩
                  rw [if_neg c35] at H; have c35b0 : (t335 == 0) = false := beq_eq_false_iff_ne.mpr c35; have c35b1 : (t335 != 0) = true := bne_iff_ne.mpr c35; obtain rfl := Option.some.inj H
                  try go_wp2
                  replace BK326 := ak (blk_drew BK326.out); replace BK327 := ak (blk_drew BK327.out); replace HB := ak (below_drew1 HB.out); have p333 : 0 ≤ (x48_2 : Int) := as_; have q333 : x48_2 < (l0_2.length : Int) := as_; obtain ⟨ad333, A333_2, c333_2, e333, hx333_0, hx333_1, hx333_2, hl333_2, hi333_2⟩ := at_T33 HR0_2.out x48_2 p333 q333; have hw333_2 := hx333_2; have hw333_1 := hx333_1; have hw333_0 := hx333_0
                  cases e333
                  replace hx333_0 := hbc_ HB.out hx333_0; replace hx333_1 := hbc_ HB.out hx333_1; replace hx333_2 := hbc_ HB.out hx333_2; have HR333_2 := ak hi333_2; have HC333_2 := ak hl333_2; clear hi333_2 hl333_2; replace p333 := eq_true p333; replace q333 := eq_true q333; have p334 : 0 ≤ (x48_2 : Int) := as_; have q334 : x48_2 < (l1_2.length : Int) := as_; obtain ⟨ad334, A334_2, c334_2, e334, hx334_0, hx334_1, hx334_2, hl334_2, hi334_2⟩ := at_T33 HR1_2.out x48_2 p334 q334; have hw334_2 := hx334_2; have hw334_1 := hx334_1; have hw334_0 := hx334_0
                  cases e334
                  replace hx334_0 := hbc_ HB.out hx334_0; replace hx334_1 := hbc_ HB.out hx334_1; replace hx334_2 := hbc_ HB.out hx334_2; have HR334_2 := ak hi334_2; have HC334_2 := ak hl334_2; clear hi334_2 hl334_2; replace p334 := eq_true p334; replace q334 := eq_true q334; refine start_ (n := 12) (S := fun w' => w'.cell? ⟨gb326, 0, none⟩ = some (.int .i64 a0_0) ∧ w'.cell? ⟨gb326, 1, none⟩ = some (.int .i64 a0_1) ∧ w'.cell? ⟨gb326, 2, none⟩ = some (.slice (some ad333) l0_2.length c0_2) ∧ w'.cell? ⟨gb327, 0, none⟩ = some (.int .i64 a1_0) ∧ w'.cell? ⟨gb327, 1, none⟩ = some (.int .i64 a1_1) ∧ w'.cell? ⟨gb327, 2, none⟩ = some (.slice (some ad334) l1_2.length c1_2) ∧ w'.cell? (ad333.add ((x48_2).toNat * 3)) = some (.int .i64 ((rd_I_Term l0_2 x48_2).f0)) ∧ w'.cell? ⟨(ad333.add ((x48_2).toNat * 3)).block, (ad333.add ((x48_2).toNat * 3)).off + 1, none⟩ = some (.int .i64 ((rd_I_Term l0_2 x48_2).f1)) ∧ w'.cell? ⟨(ad333.add ((x48_2).toNat * 3)).block, (ad333.add ((x48_2).toNat * 3)).off + 2, none⟩ = some (.slice A333_2 ((rd_I_Term l0_2 x48_2).f2).length c333_2) ∧ w'.cell? (ad334.add ((x48_2).toNat * 3)) = some (.int .i64 ((rd_I_Term l1_2 x48_2).f0)) ∧ w'.cell? ⟨(ad334.add ((x48_2).toNat * 3)).block, (ad334.add ((x48_2).toNat * 3)).off + 1, none⟩ = some (.int .i64 ((rd_I_Term l1_2 x48_2).f1)) ∧ w'.cell? ⟨(ad334.add ((x48_2).toNat * 3)).block, (ad334.add ((x48_2).toNat * 3)).off + 2, none⟩ = some (.slice A334_2 ((rd_I_Term l1_2 x48_2).f2).length c334_2)) (ds := []) (bm 12 0) (by kernel_rfl) rfl (by kernel_rfl) ⟨(blk_cell BK326.out 0).trans rfl, (blk_cell BK326.out 1).trans rfl, (blk_cell BK326.out 2).trans rfl, (blk_cell BK327.out 0).trans rfl, (blk_cell BK327.out 1).trans rfl, (blk_cell BK327.out 2).trans rfl, (hbc_ HB.out hw333_0 :), (hbc_ HB.out hw333_1 :), (hbc_ HB.out hw333_2 :), (hbc_ HB.out hw334_0 :), (hbc_ HB.out hw334_1 :), (hbc_ HB.out hw334_2 :)⟩ (fun hHeld => ?_); refine with_tabW impl_compare.tab12 impl_compare.bits12 (fun HT_ HW_ => ?_)
                  generalize wr.drew = w38 at BK326 BK327 HB HR333_2 HR334_2 hx333_0 hx333_1 hx333_2 hx334_0 hx334_1 hx334_2 hHeld ⊢
                  refine pv_ 0 ?_; refine pv_ 2 ?_; refine pv_ 5 ?_; refine pv_ 7 ?_; refine tv_ 1 hHeld ?_; refine pv_ 3 ?_; refine tv_ 4 hHeld ?_; refine tv_ 6 hHeld ?_; refine pv_ 8 ?_; refine tv_ 9 hHeld ?_; refine one_ (i := 10) (N := some 61) (bm 12 2047) rfl rfl (one_of HT_.out (by kernel_rfl)) (by decide) (fun K hK => ?_); refine goesB_ Try.func174 (by kernel_rfl) rfl #[.agg #[.int .i64 ((rd_I_Term l0_2 x48_2).f0), .int .i64 ((rd_I_Term l0_2 x48_2).f1), .slice A333_2 ((rd_I_Term l0_2 x48_2).f2).length c333_2], .agg #[.int .i64 ((rd_I_Term l1_2 x48_2).f0), .int .i64 ((rd_I_Term l1_2 x48_2).f1), .slice A334_2 ((rd_I_Term l1_2 x48_2).f2).length c334_2]] (by rfl) rfl rfl ?_
                  with_reducible refine (ih k2 (by have := HK1.out; have := HK2.out; omega) ((rd_I_Term l0_2 x48_2).f0) ((rd_I_Term l0_2 x48_2).f1) _ _ ((rd_I_Term l0_2 x48_2).f2) ((rd_I_Term l1_2 x48_2).f0) ((rd_I_Term l1_2 x48_2).f1) _ _ ((rd_I_Term l1_2 x48_2).f2) t335 _ ?side1 ?side2 ?side3 ?side4 A34.out).mono ?_
                  (case side1 => exact cb_ HR333_2.out HB.out); (case side2 => exact HC333_2.out); (case side3 => exact cb_ HR334_2.out HB.out); (case side4 => exact HC334_2.out); rintro e w39 ⟨rfl, hb⟩; refine ⟨_, rfl, ?_⟩; replace BK326 := ak (blk_below (bk_ BK326.out) hb); replace BK327 := ak (blk_below (bk_ BK327.out) hb); replace HB := ak (below_step (bs2_ HB.out GE326.out GE327.out) hb); (try clear hb); (try clear hb2); (try clear hk); (try clear hi); refine hK.out _ _ ⟨(blk_cell BK326.out 0).trans rfl, (blk_cell BK326.out 1).trans rfl, (blk_cell BK326.out 2).trans rfl, (blk_cell BK327.out 0).trans rfl, (blk_cell BK327.out 1).trans rfl, (blk_cell BK327.out 2).trans rfl, (hbc_ HB.out hw333_0 :), (hbc_ HB.out hw333_1 :), (hbc_ HB.out hw333_2 :), (hbc_ HB.out hw334_0 :), (hbc_ HB.out hw334_1 :), (hbc_ HB.out hw334_2 :)⟩ (fun hHeld => ?_); clear hK K; refine norm_ (a' := ?_) ?_ ?_
                  rotate_left
                  · show Act.put _ (some 61) _ = _
                    simp only [Act.put, List.setIfInBounds_toArray, List.set_cons_zero, List.set_cons_succ, i64_w, i32_w]
                    rfl
                  refine pv_ 11 ?_; refine done_ (done_of HT_.out (by kernel_rfl)) ?_
                  try go_wp2
                  go_ret
                  exact fin_ (bs2_ HB.out GE326.out GE327.out)
                rw [if_neg c33] at H; exact absurd H (by simp)
              rw [if_neg c32] at H; exact absurd H (by simp)
            rw [if_neg c31] at H; exact absurd H (by simp)
          rw [if_neg c30] at H; have c30b0 := decide_eq_false c30; clear c30; obtain rfl := Option.some.inj H
          go_wp2
          go_ret
          exact fin_ (bs2_ HB.out GE326.out GE327.out)

/-! ### impl_Before: function 156 -/
def impl_Before.f (k : Nat) (a0_0 : Int) (a0_1 : Int) (l0_2 : List (I_Term)) (a1_0 : Int) (a1_1 : Int) (l1_2 : List (I_Term)) : Option (Bool) := (impl_compare.f k a0_0 a0_1 l0_2 a1_0 a1_1 l1_2).bind fun t338 => (some (decide (t338 < 0)))
theorem impl_Before.mono : ∀ a0 a1 a2 a3 a4 a5 k, LeO (impl_Before.f k a0 a1 a2 a3 a4 a5) (impl_Before.f (k + 1) a0 a1 a2 a3 a4 a5) := by
  intro a0 a1 a2 a3 a4 a5 k
  unfold impl_Before.f
  repeat' first
      | (with_reducible exact impl_compare.mono _ _ _ _ _ _ _)
      | (with_reducible exact LeO.refl _)
      | (with_reducible exact LeO.none _)
      | (with_reducible refine LeO.ite ?_ ?_)
      | (with_reducible refine LeO.bind ?_ (fun _ => ?_))
      | exact impl_compare.mono _ _ _ _ _ _ _
      | exact LeO.none _
      | refine LeO.ite ?_ ?_
      | refine LeO.bind ?_ (fun _ => ?_)
set_option maxHeartbeats 8000000 in
set_option maxRecDepth 100000 in
theorem impl_Before.calls (k : Nat) (a0_0 : Int) (a0_1 : Int) (A0_2 : Option Addr) (c0_2 : Nat) (l0_2 : List (I_Term)) (a1_0 : Int) (a1_1 : Int) (A1_2 : Option Addr) (c1_2 : Nat) (l1_2 : List (I_Term)) (r : Bool) (w : World) (hr0_2 : Kd.C k33 w A0_2 l0_2.length l0_2) (hc0_2 : l0_2.length ≤ c0_2) (hr1_2 : Kd.C k33 w A1_2 l1_2.length l1_2) (hc1_2 : l1_2.length ≤ c1_2) (h : impl_Before.f k a0_0 a0_1 l0_2 a1_0 a1_1 l1_2 = some r) :
    Calls Try.prog 156 #[.agg #[.int .i64 a0_0, .int .i64 a0_1, .slice A0_2 l0_2.length c0_2], .agg #[.int .i64 a1_0, .int .i64 a1_1, .slice A1_2 l1_2.length c1_2]] w fun e w' => e = .returned (.bool r) ∧ Below w.heap.size w w' := by
  have hu33 := Try.underlying33; have HR0_2 := ak hr0_2; have HC0_2 := ak hc0_2; clear hr0_2 hc0_2; have HR1_2 := ak hr1_2; have HC1_2 := ak hc1_2; clear hr1_2 hc1_2; have HB := ak (Below.refl w.heap.size w); have H : ((impl_compare.f k a0_0 a0_1 l0_2 a1_0 a1_1 l1_2).bind fun t338 => (some (decide (t338 < 0)))) = some r := h; clear h; replace H := Option.bind_eq_some_iff.mp H; obtain ⟨t338, A30, H⟩ := H; have A3 := ak A30; clear A30; obtain rfl := Option.some.inj H
  go_enter Try.func156, Try.ntmps156
  go_wp2_with (first | ((with_reducible refine gate_dst (N := 2) rfl ?_); refine bxe_ (N := 2) (cs := #[.int .i64 a0_0, .int .i64 a0_1, .slice A0_2 l0_2.length c0_2]) (t := 33) ?_; intro gb336 hg w4 hbox hb; have BK336 := ak (hbox); have GW336 := ak (lg_ hg (bl_ HB.out)); have GE336 := ak (lg_ hg (bl_ HB.out)); replace HB := ak (below_step (bl_ HB.out) hb); clear hb hbox hg) | ((with_reducible refine gate_dst (N := 3) rfl ?_); refine bxe_ (N := 3) (cs := #[.int .i64 a1_0, .int .i64 a1_1, .slice A1_2 l1_2.length c1_2]) (t := 33) ?_; intro gb337 hg w5 hbox hb; have BK337 := ak (hbox); have GW337 := ak (lg_ hg (bs1_ HB.out GE336.out)); have GE337 := ak (lg_ hg (bs1_ HB.out GE336.out)); replace HB := ak (below_step (bs1_ HB.out GE336.out) hb); have NB336_337 := ak (nl_ hg (bk_ BK336.out)); have NB337_336 := ak (ng_ hg (bk_ BK336.out)); replace BK336 := ak (blk_below (bk_ BK336.out) hb); clear hb hbox hg; have hnb6 := NB336_337.out; have hnc6 := NB337_336.out; have hcz7_0 := bc_ BK336.out 0; have hcz7_1 := bc_ BK336.out 1; have hcz7_2 := bc_ BK336.out 2; have hfz7_0 := blk_frozen BK336.out 0; have hfz7_1 := blk_frozen BK336.out 1; have hfz7_2 := blk_frozen BK336.out 2; have hcz8_0 := bc_ BK337.out 0; have hcz8_1 := bc_ BK337.out 1; have hcz8_2 := bc_ BK337.out 2; have hfz8_0 := blk_frozen BK337.out 0; have hfz8_1 := blk_frozen BK337.out 1; have hfz8_2 := blk_frozen BK337.out 2) | ((with_reducible refine gate_callee (f := 174) rfl ?_); refine goesM_ (some 7) rfl rfl Try.func174 (by kernel_rfl) rfl #[.agg #[.int .i64 a0_0, .int .i64 a0_1, .slice A0_2 l0_2.length c0_2], .agg #[.int .i64 a1_0, .int .i64 a1_1, .slice A1_2 l1_2.length c1_2]] rfl ?_; (with_reducible refine (impl_compare.calls k a0_0 a0_1 _ _ l0_2 a1_0 a1_1 _ _ l1_2 t338 _ ?side1 ?side2 ?side3 ?side4 A3.out).mono ?_); (case side1 => exact cb_ HR0_2.out HB.out); (case side2 => exact HC0_2.out); (case side3 => exact cb_ HR1_2.out HB.out); (case side4 => exact HC1_2.out); rintro e w9 ⟨rfl, hb⟩; refine ⟨_, rfl, ?_⟩; replace BK336 := ak (blk_below (bk_ BK336.out) hb); replace BK337 := ak (blk_below (bk_ BK337.out) hb); replace HB := ak (below_step (bs2_ HB.out GE336.out GE337.out) hb); (try clear hb); (try clear hb2); (try clear hk); (try clear hi)))
  go_ret
  exact fin_ (bs2_ HB.out GE336.out GE337.out)

/-! ### impl_isVar: function 158 -/
def impl_isVar.f (a0_0 : Int) (a0_1 : Int) (l0_2 : List (I_Term)) : Option (Bool) := some (a0_0 == (-1))
set_option maxHeartbeats 8000000 in
set_option maxRecDepth 100000 in
theorem impl_isVar.calls (a0_0 : Int) (a0_1 : Int) (A0_2 : Option Addr) (c0_2 : Nat) (l0_2 : List (I_Term)) (r : Bool) (w : World) (hr0_2 : Kd.C k33 w A0_2 l0_2.length l0_2) (hc0_2 : l0_2.length ≤ c0_2) (h : impl_isVar.f a0_0 a0_1 l0_2 = some r) :
    Calls Try.prog 158 #[.agg #[.int .i64 a0_0, .int .i64 a0_1, .slice A0_2 l0_2.length c0_2]] w fun e w' => e = .returned (.bool r) ∧ Below w.heap.size w w' := by
  have hu33 := Try.underlying33; have HR0_2 := ak hr0_2; have HC0_2 := ak hc0_2; clear hr0_2 hc0_2; have HB := ak (Below.refl w.heap.size w); have H : (some (a0_0 == (-1))) = some r := h; clear h; obtain rfl := Option.some.inj H
  go_enter Try.func158, Try.ntmps158
  go_wp2_with (first | ((with_reducible refine gate_dst (N := 1) rfl ?_); refine bxe_ (N := 1) (cs := #[.int .i64 a0_0, .int .i64 a0_1, .slice A0_2 l0_2.length c0_2]) (t := 33) ?_; intro gb339 hg w2 hbox hb; have BK339 := ak (hbox); have GW339 := ak (lg_ hg (bl_ HB.out)); have GE339 := ak (lg_ hg (bl_ HB.out)); replace HB := ak (below_step (bl_ HB.out) hb); clear hb hbox hg; have hcz3_0 := bc_ BK339.out 0; have hcz3_1 := bc_ BK339.out 1; have hcz3_2 := bc_ BK339.out 2; have hfz3_0 := blk_frozen BK339.out 0; have hfz3_1 := blk_frozen BK339.out 1; have hfz3_2 := blk_frozen BK339.out 2))
  go_ret
  exact fin_ (bs1_ HB.out GE339.out)

/-! ### impl_isSym: function 168 -/
def impl_isSym.f (l0 : List (I_Sym)) (a1 : Int) : Option (Bool) := (impl_from.f a1 0 (wrap64 ((l0.length : Int) - 1))).bind fun t340 => (some t340)
set_option maxHeartbeats 8000000 in
set_option maxRecDepth 100000 in
theorem impl_isSym.calls (A0 : Option Addr) (c0 : Nat) (l0 : List (I_Sym)) (a1 : Int) (r : Bool) (w : World) (hr0 : Kd.C k99 w A0 l0.length l0) (hc0 : l0.length ≤ c0) (h : impl_isSym.f l0 a1 = some r) :
    Calls Try.prog 168 #[.slice A0 l0.length c0, .int .i64 a1] w fun e w' => e = .returned (.bool r) ∧ Drawn0 w w' := by
  have HR0 := ak hr0; have HC0 := ak hc0; clear hr0 hc0; have H : ((impl_from.f a1 0 (wrap64 ((l0.length : Int) - 1))).bind fun t340 => (some t340)) = some r := h; clear h; replace H := Option.bind_eq_some_iff.mp H; obtain ⟨t340, A30, H⟩ := H; have A3 := ak A30; clear A30; obtain rfl := Option.some.inj H
  go_enter Try.func168, Try.ntmps168
  go_wp2_with (first | ((with_reducible refine gate_callee (f := 87) rfl ?_); refine goesM_ (some 9) rfl rfl Try.func87 (by kernel_rfl) rfl #[.int .i64 a1, .int .i64 0, .int .i64 (wrap64 ((l0.length : Int) - 1))] rfl ?_; (with_reducible refine (impl_from.calls a1 0 (wrap64 ((l0.length : Int) - 1)) t340 _ A3.out).mono ?_); rintro e w' ⟨rfl, ⟨nd, rfl⟩⟩; refine ⟨_, rfl, ?_⟩))
  go_ret
  exact ⟨by first | rfl | (simp; done) | (simp [*]; done), by repeat (first | exact Drawn0.refl _ | apply Drawn0.step)⟩

end Go.Proofs.Ytcboagkbcoihjaa.XValue
