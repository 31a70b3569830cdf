-- printed by a program of this session (xprint, turned from the kit's print) for this claim
import Derived.Test.YtcboagkbcoihjaaXSubworldx0
import Derived.Test.YtcboagkbcoihjaaXSubworldx3
import Derived.Test.YtcboagkbcoihjaaXSubworldx4
namespace Go.Proofs.Ytcboagkbcoihjaa.XSubworld
open Go.RowKit Go.Proofs.Ytcboagkbcoihjaa.XOpens Go.Proofs.YtcboagkbcoihjaaW.PrintWords Go.Proofs.YtcboagkbcoihjaaW.PrintLast Go.Proofs.YtcboagkbcoihjaaW.PrintMore
attribute [local go_sem] max2_int min2_int max_two min_two max_three min_three max_four min_four   -- for this text's walks alone
set_option linter.unusedVariables false
set_option linter.unusedSimpArgs false

/-! ### spec_Subworld: function 47 -/
mutual
def spec_Subworld.j0 : Nat → List (I_Sym) → Int → Bool → Int → List (List Int) → Option (Int × (List (List Int)) × Bool)
  | 0, _, _, _, _, _ => none
  | k + 1, x0, x2, x26, x186000, x186001 => if x26 = true then (some (0, ([] : List (List Int)), false)) else (spec_Subworld.l0 k x0 x2 0 x186000 x186001 x2 ([] : List (List Int)))
def spec_Subworld.l0 : Nat → List (I_Sym) → Int → Int → Int → List (List Int) → Int → List (List Int) → Option (Int × (List (List Int)) × Bool)
  | 0, _, _, _, _, _, _, _ => none
  | k + 1, x0, x2, x9, x186000, x186001, x190000, x190001 => if x9 < (x0.length : Int) then (spec_Subworld.l1 k x0 x2 x9 (([] : List Int)) 0 x186000 x186001 x190000 x190001) else (some (x190000, x190001, true))
def spec_Subworld.l1 : Nat → List (I_Sym) → Int → Int → List Int → Int → Int → List (List Int) → Int → List (List Int) → Option (Int × (List (List Int)) × Bool)
  | 0, _, _, _, _, _, _, _, _, _ => none
  | k + 1, x0, x2, x9, x10, x11, x186000, x186001, x190000, x190001 => if 0 ≤ x9 then (if x9 < (x0.length : Int) then ((spec_l24Power.f k x2 ((rd_I_Sym x0 x9).f1)).bind fun t194 => (if x11 < t194 then (spec_Subworld.l2 k x0 x2 x9 x10 x11 0 x11 1 0 x186000 x186001 x190000 x190001) else (if x190001.length < 5864062014805 then (spec_Subworld.l0 k x0 x2 (wrap64 (x9 + 1)) x186000 x186001 x190000 (x190001 ++ [x10])) else (none)))) else (none)) else (none)
def spec_Subworld.l2 : Nat → List (I_Sym) → Int → Int → List Int → Int → Int → Int → Int → Int → Int → List (List Int) → Int → List (List Int) → Option (Int × (List (List Int)) × Bool)
  | 0, _, _, _, _, _, _, _, _, _, _, _, _, _ => none
  | k + 1, x0, x2, x9, x10, x11, x12, x13, x14, x15, x186000, x186001, x190000, x190001 => if 0 ≤ x9 then (if x9 < (x0.length : Int) then (if x15 < ((rd_I_Sym x0 x9).f1) then (if x2 = 0 then (none) else (spec_Subworld.l2 k x0 x2 x9 x10 x11 (wrap64 (x12 + (wrap64 (x14 * (Int.tmod x13 x2))))) (wrap64 (Int.tdiv x13 x2)) (wrap64 (x14 * x186000)) (wrap64 (x15 + 1)) x186000 x186001 x190000 x190001)) else (if x9 < (x186001.length : Int) then (if 0 ≤ x12 then (if x12 < ((rd_Ls_i64 x186001 x9).length : Int) then (if (rd (rd_Ls_i64 x186001 x9) x12) ≥ x2 then (some (0, ([] : List (List Int)), false)) else (if x10.length < 17592186044416 then (spec_Subworld.l1 k x0 x2 x9 (x10 ++ [rd (rd_Ls_i64 x186001 x9) x12]) (wrap64 (x11 + 1)) x186000 x186001 x190000 x190001) else (none))) else (none)) else (none)) else (none))) else (none)) else (none)
end
def spec_Subworld.f (k : Nat) (l0 : List (I_Sym)) (a1_0 : Int) (l1_1 : List (List Int)) (a2 : Int) : Option (Int × (List (List Int)) × Bool) := (spec_WorldOk.f k l0 a1_0 l1_1).bind fun t187 => (if t187 = true then ((spec_l1In.f a2 1 a1_0).bind fun t188 => (spec_Subworld.j0 k l0 a2 (!t188) a1_0 l1_1)) else (spec_Subworld.j0 k l0 a2 true a1_0 l1_1))
theorem spec_Subworld.mono_l : ∀ k, (∀ y0 y1 y2 y3 y4, LeO (spec_Subworld.j0 k y0 y1 y2 y3 y4) (spec_Subworld.j0 (k + 1) y0 y1 y2 y3 y4)) ∧ (∀ y0 y1 y2 y3 y4 y5 y6, LeO (spec_Subworld.l0 k y0 y1 y2 y3 y4 y5 y6) (spec_Subworld.l0 (k + 1) y0 y1 y2 y3 y4 y5 y6)) ∧ (∀ y0 y1 y2 y3 y4 y5 y6 y7 y8, LeO (spec_Subworld.l1 k y0 y1 y2 y3 y4 y5 y6 y7 y8) (spec_Subworld.l1 (k + 1) y0 y1 y2 y3 y4 y5 y6 y7 y8)) ∧ (∀ y0 y1 y2 y3 y4 y5 y6 y7 y8 y9 y10 y11 y12, LeO (spec_Subworld.l2 k y0 y1 y2 y3 y4 y5 y6 y7 y8 y9 y10 y11 y12) (spec_Subworld.l2 (k + 1) y0 y1 y2 y3 y4 y5 y6 y7 y8 y9 y10 y11 y12))
  | 0 => ⟨fun _ _ _ _ _ r h => by simp [spec_Subworld.j0] at h, fun _ _ _ _ _ _ _ r h => by simp [spec_Subworld.l0] at h, fun _ _ _ _ _ _ _ _ _ r h => by simp [spec_Subworld.l1] at h, fun _ _ _ _ _ _ _ _ _ _ _ _ _ r h => by simp [spec_Subworld.l2] at h⟩
  | k + 1 => by
    obtain ⟨ih0, ih1, ih2, ih3⟩ := spec_Subworld.mono_l k; refine ⟨?_, ?_, ?_, ?_⟩
    · intro y0 y1 y2 y3 y4
      unfold spec_Subworld.j0
      repeat' first | (with_reducible first | exact ih0 _ _ _ _ _ | exact ih1 _ _ _ _ _ _ _ | exact ih2 _ _ _ _ _ _ _ _ _ | exact ih3 _ _ _ _ _ _ _ _ _ _ _ _ _ | exact spec_WorldOk.mono _ _ _ _ | exact spec_l24Power.mono _ _ _ | exact LeO.refl _ | exact LeO.none _ | refine LeO.ite ?_ ?_ | refine LeO.bind ?_ (fun _ => ?_)) | exact ih0 _ _ _ _ _ | exact ih1 _ _ _ _ _ _ _ | exact ih2 _ _ _ _ _ _ _ _ _ | exact ih3 _ _ _ _ _ _ _ _ _ _ _ _ _ | exact spec_WorldOk.mono _ _ _ _ | exact spec_l24Power.mono _ _ _ | exact LeO.none _ | refine LeO.ite ?_ ?_ | refine LeO.bind ?_ (fun _ => ?_)
    · intro y0 y1 y2 y3 y4 y5 y6
      unfold spec_Subworld.l0
      repeat' first | (with_reducible first | exact ih0 _ _ _ _ _ | exact ih1 _ _ _ _ _ _ _ | exact ih2 _ _ _ _ _ _ _ _ _ | exact ih3 _ _ _ _ _ _ _ _ _ _ _ _ _ | exact spec_WorldOk.mono _ _ _ _ | exact spec_l24Power.mono _ _ _ | exact LeO.refl _ | exact LeO.none _ | refine LeO.ite ?_ ?_ | refine LeO.bind ?_ (fun _ => ?_)) | exact ih0 _ _ _ _ _ | exact ih1 _ _ _ _ _ _ _ | exact ih2 _ _ _ _ _ _ _ _ _ | exact ih3 _ _ _ _ _ _ _ _ _ _ _ _ _ | exact spec_WorldOk.mono _ _ _ _ | exact spec_l24Power.mono _ _ _ | exact LeO.none _ | refine LeO.ite ?_ ?_ | refine LeO.bind ?_ (fun _ => ?_)
    · intro y0 y1 y2 y3 y4 y5 y6 y7 y8
      unfold spec_Subworld.l1
      repeat' first | (with_reducible first | exact ih0 _ _ _ _ _ | exact ih1 _ _ _ _ _ _ _ | exact ih2 _ _ _ _ _ _ _ _ _ | exact ih3 _ _ _ _ _ _ _ _ _ _ _ _ _ | exact spec_WorldOk.mono _ _ _ _ | exact spec_l24Power.mono _ _ _ | exact LeO.refl _ | exact LeO.none _ | refine LeO.ite ?_ ?_ | refine LeO.bind ?_ (fun _ => ?_)) | exact ih0 _ _ _ _ _ | exact ih1 _ _ _ _ _ _ _ | exact ih2 _ _ _ _ _ _ _ _ _ | exact ih3 _ _ _ _ _ _ _ _ _ _ _ _ _ | exact spec_WorldOk.mono _ _ _ _ | exact spec_l24Power.mono _ _ _ | exact LeO.none _ | refine LeO.ite ?_ ?_ | refine LeO.bind ?_ (fun _ => ?_)
    · intro y0 y1 y2 y3 y4 y5 y6 y7 y8 y9 y10 y11 y12
      unfold spec_Subworld.l2
      repeat' first | (with_reducible first | exact ih0 _ _ _ _ _ | exact ih1 _ _ _ _ _ _ _ | exact ih2 _ _ _ _ _ _ _ _ _ | exact ih3 _ _ _ _ _ _ _ _ _ _ _ _ _ | exact spec_WorldOk.mono _ _ _ _ | exact spec_l24Power.mono _ _ _ | exact LeO.refl _ | exact LeO.none _ | refine LeO.ite ?_ ?_ | refine LeO.bind ?_ (fun _ => ?_)) | exact ih0 _ _ _ _ _ | exact ih1 _ _ _ _ _ _ _ | exact ih2 _ _ _ _ _ _ _ _ _ | exact ih3 _ _ _ _ _ _ _ _ _ _ _ _ _ | exact spec_WorldOk.mono _ _ _ _ | exact spec_l24Power.mono _ _ _ | exact LeO.none _ | refine LeO.ite ?_ ?_ | refine LeO.bind ?_ (fun _ => ?_)
theorem spec_Subworld.mono : ∀ a0 a1 a2 a3 k, LeO (spec_Subworld.f k a0 a1 a2 a3) (spec_Subworld.f (k + 1) a0 a1 a2 a3) := by
  intro a0 a1 a2 a3 k; obtain ⟨ih0, ih1, ih2, ih3⟩ := spec_Subworld.mono_l k
  unfold spec_Subworld.f
  repeat' first
      | (with_reducible exact ih0 _ _ _ _ _)
      | (with_reducible exact ih1 _ _ _ _ _ _ _)
      | (with_reducible exact ih2 _ _ _ _ _ _ _ _ _)
      | (with_reducible exact ih3 _ _ _ _ _ _ _ _ _ _ _ _ _)
      | (with_reducible exact spec_WorldOk.mono _ _ _ _)
      | (with_reducible exact spec_l24Power.mono _ _ _)
      | (with_reducible exact LeO.refl _)
      | (with_reducible exact LeO.none _)
      | (with_reducible refine LeO.ite ?_ ?_)
      | (with_reducible refine LeO.bind ?_ (fun _ => ?_))
      | exact ih0 _ _ _ _ _
      | exact ih1 _ _ _ _ _ _ _
      | exact ih2 _ _ _ _ _ _ _ _ _
      | exact ih3 _ _ _ _ _ _ _ _ _ _ _ _ _
      | exact spec_WorldOk.mono _ _ _ _
      | exact spec_l24Power.mono _ _ _
      | exact LeO.none _
      | refine LeO.ite ?_ ?_
      | refine LeO.bind ?_ (fun _ => ?_)
set_option maxHeartbeats 8000000 in
set_option maxRecDepth 100000 in
theorem spec_Subworld.calls (k : Nat) (A0 : Option Addr) (c0 : Nat) (l0 : List (I_Sym)) (a1_0 : Int) (A1_1 : Option Addr) (c1_1 : Nat) (l1_1 : List (List Int)) (a2 : Int) (r1 : Int) (r2 : List (List Int)) (r3 : Bool) (w : World) (hr0 : Kd.C k99 w A0 l0.length l0) (hc0 : l0.length ≤ c0) (hr1_1 : Kd.C (Kd.slice 3 (Kd.int .i64)) w A1_1 l1_1.length l1_1) (hc1_1 : l1_1.length ≤ c1_1) (h : spec_Subworld.f k l0 a1_0 l1_1 a2 = some (r1, r2, r3)) :
    Calls Try.prog 47 #[.slice A0 l0.length c0, .agg #[.int .i64 a1_0, .slice A1_1 l1_1.length c1_1], .int .i64 a2] w fun e w' => ∃ v1_ : Value, e = .returned (.tuple #[.agg #[.int .i64 r1, v1_], .bool r3]) ∧ Kd.S (Kd.slice 3 (Kd.int .i64)) 75 w' w.heap.size (fun _ => True) v1_ r2 ∧ Below w.heap.size w w' := by
  have hu51 := Try.underlying51; have HR0 := ak hr0; have HC0 := ak hc0; clear hr0 hc0; have HR1_1 := ak hr1_1; have HC1_1 := ak hc1_1; clear hr1_1 hc1_1; have HB := ak (Below.refl w.heap.size w); have H : ((spec_WorldOk.f k l0 a1_0 l1_1).bind fun t187 => (if t187 = true then ((spec_l1In.f a2 1 a1_0).bind fun t188 => (spec_Subworld.j0 k l0 a2 (!t188) a1_0 l1_1)) else (spec_Subworld.j0 k l0 a2 true a1_0 l1_1))) = some (r1, r2, r3) := h; clear h; have HC4 := ak H; clear H
  go_enter Try.func47, Try.ntmps47
  go_upto_region 1 with (first | ((with_reducible refine gate_dst (N := 4) rfl ?_); refine bxe_ (N := 4) (cs := #[.int .i64 a1_0, .slice A1_1 l1_1.length c1_1]) (t := 51) ?_; intro gb185 hg w5 hbox hb; have BK185 := ak (hbox); have GW185 := ak (lg_ hg (bl_ HB.out)); have GE185 := ak (lg_ hg (bl_ HB.out)); replace HB := ak (below_step (bl_ HB.out) hb); clear hb hbox hg) | ((with_reducible refine gate_dst (N := 6) rfl ?_); refine bxe_ (N := 6) (cs := #[.int .i64 0, .slice none 0 0]) (t := 51) ?_; intro gb186 hg w6 hbox hb; have BK186 := ak (hbox); have GW186 := ak (lg_ hg (bs1_ HB.out GE185.out)); have GE186 := ak (lg_ hg (bs1_ HB.out GE185.out)); replace HB := ak (below_step (bs1_ HB.out GE185.out) hb); have NB185_186 := ak (nl_ hg (bk_ BK185.out)); have NB186_185 := ak (ng_ hg (bk_ BK185.out)); replace BK185 := ak (blk_below (bk_ BK185.out) hb); clear hb hbox hg))
  (try simp only [Act.put, List.setIfInBounds_toArray, List.set_cons_zero, List.set_cons_succ])
  go_cut [26] (fun v26 wc => ∃ (kq : Nat) (x26_3 : Bool), v26 = .bool x26_3 ∧ Aside0 (spec_Subworld.j0 kq l0 a2 x26_3 a1_0 l1_1 = some (r1, r2, r3)) ∧ Aside0 (kq ≤ k) ∧ Aside0 (wc.heap[gb185]? = some (.cells #[.int .i64 a1_0, (.slice A1_1 l1_1.length c1_1)] 51 (0, 0))) ∧ Aside0 (wc.heap[gb186]? = some (.cells #[.int .i64 0, (.slice none 0 0)] 51 (0, 0))) ∧ Aside0 (Below w.heap.size w wc))
  case first =>
    have H := HC4.out; clear HC4; replace H := Option.bind_eq_some_iff.mp H; obtain ⟨t187, A70, H⟩ := H; have A7 := ak A70; clear A70
    by_cases c8 : t187 = true
    · subst c8; rw [if_pos rfl] at H; replace H := Option.bind_eq_some_iff.mp H; obtain ⟨t188, A90, H⟩ := H; have A9 := ak A90; clear A90; have H' := ak H; clear H; have hnb10 := NB185_186.out; have hnc10 := NB186_185.out; have hcz11_0 := bc_ BK185.out 0; have hcz11_1 := bc_ BK185.out 1; have hfz11_0 := blk_frozen BK185.out 0; have hfz11_1 := blk_frozen BK185.out 1
      go_wp2_with (first | ((with_reducible refine gate_callee (f := 31) rfl ?_); refine goesM_ (some 18) rfl rfl Try.func31 (by kernel_rfl) rfl #[.slice A0 l0.length c0, .agg #[.int .i64 a1_0, .slice A1_1 l1_1.length c1_1]] rfl ?_; (with_reducible refine (spec_WorldOk.calls k _ _ l0 a1_0 _ _ l1_1 true _ ?side1 ?side2 ?side3 ?side4 A7.out).mono ?_); (case side1 => exact cb_ HR0.out HB.out); (case side2 => exact HC0.out); (case side3 => exact cb_ HR1_1.out HB.out); (case side4 => exact HC1_1.out); rintro e w12 ⟨rfl, hb⟩; refine ⟨_, rfl, ?_⟩; replace BK185 := ak (blk_below (bk_ BK185.out) hb); replace BK186 := ak (blk_below (bk_ BK186.out) hb); replace HB := ak (below_step (bs2_ HB.out GE185.out GE186.out) hb); (try clear hb); (try clear hb2); (try clear hk); (try clear hi); have hcz13_0 := bc_ BK185.out 0; have hcz13_1 := bc_ BK185.out 1; have hfz13_0 := blk_frozen BK185.out 0; have hfz13_1 := blk_frozen BK185.out 1) | (go_at_call 79; (with_reducible refine (spec_l1In.calls a2 1 a1_0 t188 _ A9.out).mono ?_); rintro e w' ⟨rfl, ⟨nd, rfl⟩⟩))
      go_meet
      case rel => exact ⟨_, (!t188), (by first | rfl | (simp; done) | (simp [*]; done)), H', ⟨by first | omega | exact Nat.le_refl _⟩, ⟨bk_ BK185.out⟩, ⟨bk_ BK186.out⟩, ⟨bs2_ HB.out GE185.out GE186.out⟩⟩
    replace c8 := Bool.eq_false_iff.mpr c8; subst c8; rw [if_neg (show ¬ (false = true) by decide)] at H; have H' := ak H; clear H; have hnb14 := NB185_186.out; have hnc14 := NB186_185.out; have hcz15_0 := bc_ BK185.out 0; have hcz15_1 := bc_ BK185.out 1; have hfz15_0 := blk_frozen BK185.out 0; have hfz15_1 := blk_frozen BK185.out 1
    go_wp2_with (first | ((with_reducible refine gate_callee (f := 31) rfl ?_); refine goesM_ (some 18) rfl rfl Try.func31 (by kernel_rfl) rfl #[.slice A0 l0.length c0, .agg #[.int .i64 a1_0, .slice A1_1 l1_1.length c1_1]] rfl ?_; (with_reducible refine (spec_WorldOk.calls k _ _ l0 a1_0 _ _ l1_1 false _ ?side1 ?side2 ?side3 ?side4 A7.out).mono ?_); (case side1 => exact cb_ HR0.out HB.out); (case side2 => exact HC0.out); (case side3 => exact cb_ HR1_1.out HB.out); (case side4 => exact HC1_1.out); rintro e w16 ⟨rfl, hb⟩; refine ⟨_, rfl, ?_⟩; replace BK185 := ak (blk_below (bk_ BK185.out) hb); replace BK186 := ak (blk_below (bk_ BK186.out) hb); replace HB := ak (below_step (bs2_ HB.out GE185.out GE186.out) hb); (try clear hb); (try clear hb2); (try clear hk); (try clear hi)))
    go_meet
    case rel => exact ⟨_, (true), (by first | rfl | (simp; done) | (simp [*]; done)), H', ⟨by first | omega | exact Nat.le_refl _⟩, ⟨bk_ BK185.out⟩, ⟨bk_ BK186.out⟩, ⟨bs2_ HB.out GE185.out GE186.out⟩⟩
  case rest =>
    clear HC4; (try clear c1); (try clear p2); (try clear c3); (try clear c4); (try clear c8); (try clear c10); (try clear c14); (try clear hcz11_0); (try clear hcz11_1); (try clear hcz13_0); (try clear hcz13_1); (try clear hcz15_0); (try clear hcz15_1); (try clear hfz11_0); (try clear hfz11_1); (try clear hfz13_0); (try clear hfz13_1); (try clear hfz15_0); (try clear hfz15_1); obtain ⟨kq, x26_3, rfl, HA, HJ3, BK185, BK186, HB⟩ := hcut
    cases kq with
    | zero => exact absurd HA.out (by simp [spec_Subworld.j0])
    | succ kj3 =>
      have H := HA.out; clear HA
      simp only [spec_Subworld.j0] at H
      by_cases c17 : x26_3 = true
      · subst c17; rw [if_pos rfl] at H
        simp only [Option.some.injEq, Prod.mk.injEq] at H
        obtain ⟨rfl, rfl, rfl⟩ := H; have hnb18 := NB186_185.out; have hnc18 := NB185_186.out; have hcz19_0 := bc_ BK186.out 0; have hcz19_1 := bc_ BK186.out 1; have hfz19_0 := blk_frozen BK186.out 0; have hfz19_1 := blk_frozen BK186.out 1
        go_wp2
        refine bodyPost_ret (results_ct rfl _ _ gb186 51 #[.int .i64 0, .slice none 0 0] (0, 0) _ rfl (by (with_reducible repeat (first | refine blk_drewN ?_ _ | refine blk_drew ?_ | refine blk_alloc ?_ _)); refine blk_put (cs := #[.int .i64 0, .slice none 0 0]) ?_ 1 _ rfl; (with_reducible repeat (first | refine blk_drewN ?_ _ | refine blk_drew ?_ | refine blk_alloc ?_ _)); refine blk_put (cs := #[.int .i64 0, .slice none 0 0]) ?_ 0 _ rfl; (with_reducible repeat (first | refine blk_drewN ?_ _ | refine blk_drew ?_ | refine blk_alloc ?_ _)); exact BK186.out) Try.underlying51 rfl (by kernel_rfl)) rfl ?_; exact ⟨_, by first | rfl | (simp [errW_none, errW_some] <;> rfl) | (simp [*, errW_none, errW_some] <;> rfl), by first | exact Kd.S_nil _ _ _ _ _ | exact Kd.N_nil _ _ _ _ _ | exact Kd.V_nil _ _ _ _ _ | exact Kd.Q_nil _ _ _ _ _ | exact Kd.R_nil _ _ _ _ _, by repeat (first | (with_reducible first | exact HB.out | apply below_alloc | apply pw_below_drewN | apply below_drew1 | refine below_set ?_ GE185.out | refine below_set ?_ GE186.out) | exact HB.out)⟩
      replace c17 := Bool.eq_false_iff.mpr c17; subst c17; rw [if_neg (show ¬ (false = true) by decide)] at H; have H' := ak H; clear H
      go_wp2_with (first | ((with_reducible refine gate_dst (N := 8) rfl ?_); refine bxe_ (N := 8) (cs := #[.int .i64 0, .slice none 0 0]) (t := 51) ?_; intro gb189 hg w20 hbox hb; have BK189 := ak (hbox); have GW189 := ak (lg_ hg (bs2_ HB.out GE185.out GE186.out)); have GE189 := ak (lg_ hg (bs2_ HB.out GE185.out GE186.out)); replace HB := ak (below_step (bs2_ HB.out GE185.out GE186.out) hb); have NB185_189 := ak (nl_ hg (bk_ BK185.out)); have NB189_185 := ak (ng_ hg (bk_ BK185.out)); replace BK185 := ak (blk_below (bk_ BK185.out) hb); have NB186_189 := ak (nl_ hg (bk_ BK186.out)); have NB189_186 := ak (ng_ hg (bk_ BK186.out)); replace BK186 := ak (blk_below (bk_ BK186.out) hb); clear hb hbox hg; have hnb21 := NB189_185.out; have hnc21 := NB185_189.out; have hnb22 := NB189_186.out; have hnc22 := NB186_189.out; have hcz23_0 := bc_ BK189.out 0; have hcz23_1 := bc_ BK189.out 1; have hfz23_0 := blk_frozen BK189.out 0; have hfz23_1 := blk_frozen BK189.out 1))
      go_loopg [9] kj3 (fun kq v9 w' => ∃ (x9_2 : Int) (x187000_2 : Int) (x190001_2 : List (List Int)) (u190001 : Value), v9 = .int .i64 x9_2 ∧ Aside0 (spec_Subworld.l0 kq l0 a2 x9_2 a1_0 l1_1 a2 x190001_2 = some (r1, r2, r3)) ∧ Aside0 (kq ≤ kj3) ∧ Aside0 (Kd.S (Kd.slice 3 (Kd.int .i64)) 75 w' w.heap.size (fun _ => True) u190001 x190001_2) ∧ Aside0 (w'.heap[gb185]? = some (.cells #[.int .i64 a1_0, (.slice A1_1 l1_1.length c1_1)] 51 (0, 0))) ∧ Aside0 (w'.heap[gb186]? = some (.cells #[.int .i64 x187000_2, (.slice none 0 0)] 51 (0, 0))) ∧ Aside0 (w'.heap[gb189]? = some (.cells #[.int .i64 a2, u190001] 51 (0, 0))) ∧ Aside0 (Below w.heap.size w w'))
      case atStart => exact ⟨(0), (0), (([] : List (List Int))), (.slice none 0 0), (by first | rfl | (simp; done) | (simp [*]; done)), H', ⟨Nat.le_refl _⟩, ⟨by first | exact Kd.S_nil _ _ _ _ _ | exact Kd.N_nil _ _ _ _ _ | exact Kd.V_nil _ _ _ _ _ | exact Kd.Q_nil _ _ _ _ _ | exact Kd.R_nil _ _ _ _ _⟩, ⟨by (with_reducible repeat (first | refine blk_drewN ?_ _ | refine blk_drew ?_ | refine blk_alloc ?_ _)); refine blk_far ?_ NB185_189.out _; (with_reducible repeat (first | refine blk_drewN ?_ _ | refine blk_drew ?_ | refine blk_alloc ?_ _)); refine blk_far ?_ NB185_189.out _; (with_reducible repeat (first | refine blk_drewN ?_ _ | refine blk_drew ?_ | refine blk_alloc ?_ _)); exact BK185.out⟩, ⟨by (with_reducible repeat (first | refine blk_drewN ?_ _ | refine blk_drew ?_ | refine blk_alloc ?_ _)); refine blk_far ?_ NB186_189.out _; (with_reducible repeat (first | refine blk_drewN ?_ _ | refine blk_drew ?_ | refine blk_alloc ?_ _)); refine blk_far ?_ NB186_189.out _; (with_reducible repeat (first | refine blk_drewN ?_ _ | refine blk_drew ?_ | refine blk_alloc ?_ _)); exact BK186.out⟩, ⟨by (with_reducible repeat (first | refine blk_drewN ?_ _ | refine blk_drew ?_ | refine blk_alloc ?_ _)); refine blk_put (cs := #[.int .i64 a2, .slice none 0 0]) ?_ 1 _ rfl; (with_reducible repeat (first | refine blk_drewN ?_ _ | refine blk_drew ?_ | refine blk_alloc ?_ _)); refine blk_put (cs := #[.int .i64 0, .slice none 0 0]) ?_ 0 _ rfl; (with_reducible repeat (first | refine blk_drewN ?_ _ | refine blk_drew ?_ | refine blk_alloc ?_ _)); exact BK189.out⟩, ⟨bs3_ HB.out GE185.out GE186.out GE189.out⟩⟩
      case round =>
        clear H'; (try clear c1); (try clear c2); (try clear p2); (try clear c3); (try clear c4); (try clear c8); (try clear c10); (try clear c14); (try clear c17); (try clear c18); (try clear c21); (try clear c22); (try clear hcz11_0); (try clear hcz11_1); (try clear hcz13_0); (try clear hcz13_1); (try clear hcz15_0); (try clear hcz15_1); (try clear hcz19_0); (try clear hcz19_1); (try clear hcz23_0); (try clear hcz23_1); (try clear hfz11_0); (try clear hfz11_1); (try clear hfz13_0); (try clear hfz13_1); (try clear hfz15_0); (try clear hfz15_1); (try clear hfz19_0); (try clear hfz19_1); (try clear hfz23_0); (try clear hfz23_1); (try clear p2); obtain ⟨x9_2, x187000_2, x190001_2, u190001, rfl, HA, HK2, HO_190001, BK185, BK186, BK189, HB⟩ := hrel
        cases gk with
        | zero => exact absurd HA.out (by simp [spec_Subworld.l0])
        | succ k2 =>
          have H := HA.out; clear HA
          simp only [spec_Subworld.l0] at H
          by_cases c24 : x9_2 < (l0.length : Int)
          · rw [if_pos c24] at H; have c24b0 := decide_eq_true c24; clear c24; obtain ⟨y190, hy190⟩ : ∃ y_ : List Int, y_ = (([] : List Int)) := ⟨_, rfl⟩; replace H : (spec_Subworld.l1 k2 l0 a2 x9_2 y190 0 a1_0 l1_1 a2 x190001_2) = some (r1, r2, r3) := by first | (rw [hy190]; with_reducible exact H) | (have H2_ := (Option.bind_some _ _).symm.trans H; rw [hy190]; with_reducible exact H2_) | (have H2_ := (Option.bind_some _ _).symm.trans H; with_reducible exact H2_) | with_reducible exact H | (rw [hy190]; exact H) | exact H
            have Ny190 := ak hy190; clear hy190; have H' := ak H; clear H
            go_wp2_with (first | ((with_reducible refine gate_dst (N := 36) rfl ?_); refine Kd.R_lit (Kd.int .i64) _ 3 ?hg (N := 36) ?hd (xs := ([] : List Int)) (inner := []) (ok := fun _ => True) (okp := fun _ => True) ?hr ?hp (fun _ hk => hk) trivial (Below.refl _ _) (Nat.le_refl _) (by simp) ?_; (case hd => rfl); (case hg => rfl); (case hr => first | (go_simp; done) | (go_simp; rfl)); (case hp => exact (Reps.none _ _)); intro v191 w25 ho26 hb hg_ hnew_; clear hg_ hnew_; (first | rw [← Ny190.out] at ho26 | (simp only [Int.reduceToNat] at ho26; rw [← Ny190.out] at ho26)); replace HO_190001 := ak (Kd.S_elder' (sa_ HO_190001.out) (Kd.R_base ho26) hb); have HO192 := ak (Kd.R_lower ho26 (below_size (bs3_ HB.out GE185.out GE186.out GE189.out))); replace BK185 := ak (blk_below (bk_ BK185.out) hb); replace BK186 := ak (blk_below (bk_ BK186.out) hb); replace BK189 := ak (blk_below (bk_ BK189.out) hb); replace HB := ak (below_step (bs3_ HB.out GE185.out GE186.out GE189.out) hb); clear hb ho26))
            go_loopg [10, 11] k2 (fun kq v10 v11 w' => ∃ (x10_3 : List Int) (x11_3 : Int) (x187000_3 : Int), v11 = .int .i64 x11_3 ∧ Aside0 (spec_Subworld.l1 kq l0 a2 x9_2 x10_3 x11_3 a1_0 l1_1 a2 x190001_2 = some (r1, r2, r3)) ∧ Aside0 (kq ≤ k2) ∧ Aside0 (Kd.R (Kd.int .i64) 3 w' w.heap.size (fun _ => True) v10 x10_3) ∧ Aside0 (Kd.S (Kd.slice 3 (Kd.int .i64)) 75 w' w.heap.size (fun k_ => some k_ ≠ (v10 : Value).ownBlock) u190001 x190001_2) ∧ Aside0 (w'.heap[gb185]? = some (.cells #[.int .i64 a1_0, (.slice A1_1 l1_1.length c1_1)] 51 (0, 0))) ∧ Aside0 (w'.heap[gb186]? = some (.cells #[.int .i64 x187000_3, (.slice none 0 0)] 51 (0, 0))) ∧ Aside0 (w'.heap[gb189]? = some (.cells #[.int .i64 a2, u190001] 51 (0, 0))) ∧ Aside0 (Below w.heap.size w w'))
            case atStart => exact ⟨(y190), (0), (x187000_2), (by first | rfl | (simp; done) | (simp [*]; done)), H', ⟨Nat.le_refl _⟩, ⟨by (with_reducible repeat (first | apply Kd.R_alloc | apply Kd.R_drewN | apply Kd.R_drew)); exact HO192.out⟩, ⟨by (with_reducible repeat (first | apply Kd.S_alloc | apply Kd.S_drewN | apply Kd.S_drew)); exact Kd.S_mono HO_190001.out (fun _ hk => hk.2)⟩, ⟨bk_ BK185.out⟩, ⟨bk_ BK186.out⟩, ⟨bk_ BK189.out⟩, ⟨bs3_ HB.out GE185.out GE186.out GE189.out⟩⟩
            case round =>
              clear H'; (try clear c1); (try clear c2); (try clear p2); (try clear c3); (try clear c4); (try clear c8); (try clear c10); (try clear c14); (try clear c17); (try clear c18); (try clear c21); (try clear c22); (try clear c24); (try clear c24b0); (try clear hcz11_0); (try clear hcz11_1); (try clear hcz13_0); (try clear hcz13_1); (try clear hcz15_0); (try clear hcz15_1); (try clear hcz19_0); (try clear hcz19_1); (try clear hcz23_0); (try clear hcz23_1); (try clear hfz11_0); (try clear hfz11_1); (try clear hfz13_0); (try clear hfz13_1); (try clear hfz15_0); (try clear hfz15_1); (try clear hfz19_0); (try clear hfz19_1); (try clear hfz23_0); (try clear hfz23_1); (try clear p2); obtain ⟨x10_3, x11_3, x187000_3, rfl, HA, HK3, HO_10, HO_190001, BK185, BK186, BK189, HB⟩ := hrel
              cases gk with
              | zero => exact absurd HA.out (by simp [spec_Subworld.l1])
              | succ k3 =>
                have H := HA.out; clear HA
                simp only [spec_Subworld.l1] at H
                by_cases c27 : 0 ≤ x9_2
                · rw [if_pos c27] at H; have c27b0 := decide_eq_true c27; clear c27
                  by_cases c28 : x9_2 < (l0.length : Int)
                  · rw [if_pos c28] at H; have c28b0 := decide_eq_true c28; clear c28; replace H := Option.bind_eq_some_iff.mp H; obtain ⟨t194, A290, H⟩ := H; have A29 := ak A290; clear A290
                    by_cases c30 : x11_3 < t194
                    · rw [if_pos c30] at H; have c30b0 := decide_eq_true c30; clear c30; have H' := ak H; clear H; have p193 : 0 ≤ (x9_2 : Int) := as_; have q193 : x9_2 < (l0.length : Int) := as_; obtain ⟨ad193, e193, hx193_0, hx193_1, hx193_2⟩ := at_T99 HR0.out x9_2 p193 q193
                      cases e193
                      replace hx193_0 := hbc_ HB.out hx193_0; replace hx193_1 := hbc_ HB.out hx193_1; replace hx193_2 := hbc_ HB.out hx193_2; replace p193 := eq_true p193; replace q193 := eq_true q193
                      go_wp2_with (first | ((with_reducible refine gate_callee (f := 84) rfl ?_); refine goesM_ (some 44) rfl rfl Try.func84 (by kernel_rfl) rfl #[.int .i64 a2, .int .i64 ((rd_I_Sym l0 x9_2).f1)] rfl ?_; (with_reducible refine (spec_l24Power.calls k3 a2 ((rd_I_Sym l0 x9_2).f1) t194 _ A29.out).mono ?_); rintro e w' ⟨rfl, ⟨nd, rfl⟩⟩; refine ⟨_, rfl, ?_⟩))
                      go_loopg [12, 13, 14, 15] k3 (fun kq v12 v13 v14 v15 w' => ∃ (x12_4 : Int) (x13_4 : Int) (x14_4 : Int) (x15_4 : Int), v12 = .int .i64 x12_4 ∧ v13 = .int .i64 x13_4 ∧ v14 = .int .i64 x14_4 ∧ v15 = .int .i64 x15_4 ∧ Aside0 (spec_Subworld.l2 kq l0 a2 x9_2 x10_3 x11_3 x12_4 x13_4 x14_4 x15_4 a1_0 l1_1 a2 x190001_2 = some (r1, r2, r3)) ∧ Aside0 (kq ≤ k3) ∧ Aside0 (Kd.R (Kd.int .i64) 3 w' w.heap.size (fun _ => True) u10 x10_3) ∧ Aside0 (Kd.S (Kd.slice 3 (Kd.int .i64)) 75 w' w.heap.size (fun k_ => some k_ ≠ (u10 : Value).ownBlock) u190001 x190001_2) ∧ Aside0 (w'.heap[gb185]? = some (.cells #[.int .i64 a1_0, (.slice A1_1 l1_1.length c1_1)] 51 (0, 0))) ∧ Aside0 (w'.heap[gb186]? = some (.cells #[.int .i64 x187000_3, (.slice none 0 0)] 51 (0, 0))) ∧ Aside0 (w'.heap[gb189]? = some (.cells #[.int .i64 a2, u190001] 51 (0, 0))) ∧ Aside0 (Below w.heap.size w w'))
                      case atStart => exact ⟨(0), (x11_3), (1), (0), (by first | rfl | (simp; done) | (simp [*]; done)), (by first | rfl | (simp; done) | (simp [*]; done)), (by first | rfl | (simp; done) | (simp [*]; done)), (by first | rfl | (simp; done) | (simp [*]; done)), H', ⟨Nat.le_refl _⟩, ⟨by (with_reducible repeat (first | apply Kd.R_alloc | apply Kd.R_drewN | apply Kd.R_drew)); exact HO_10.out⟩, ⟨by (with_reducible repeat (first | apply Kd.S_alloc | apply Kd.S_drewN | apply Kd.S_drew)); exact HO_190001.out⟩, ⟨bk_ BK185.out⟩, ⟨bk_ BK186.out⟩, ⟨bk_ BK189.out⟩, ⟨bs3_ HB.out GE185.out GE186.out GE189.out⟩⟩
                      case round =>
                        clear H'; (try clear c1); (try clear p1); (try clear q1); (try clear hx1); (try clear c2); (try clear p2); (try clear c3); (try clear c4); (try clear p6); (try clear c8); (try clear c10); (try clear c14); (try clear c17); (try clear c18); (try clear p19); (try clear q19); (try clear hx19); (try clear c21); (try clear c22); (try clear c24); (try clear c24b0); (try clear c27); (try clear c27b0); (try clear c28); (try clear c28b0); (try clear c30); (try clear c30b0); (try clear hcz11_0); (try clear hcz11_1); (try clear hcz13_0); (try clear hcz13_1); (try clear hcz15_0); (try clear hcz15_1); (try clear hcz19_0); (try clear hcz19_1); (try clear hcz23_0); (try clear hcz23_1); (try clear hfz11_0); (try clear hfz11_1); (try clear hfz13_0); (try clear hfz13_1); (try clear hfz15_0); (try clear hfz15_1); (try clear hfz19_0); (try clear hfz19_1); (try clear hfz23_0); (try clear hfz23_1); (try clear hx193_0); (try clear hx193_1); (try clear hx193_2); (try clear p193); (try clear p2); (try clear q193); obtain ⟨x12_4, x13_4, x14_4, x15_4, rfl, rfl, rfl, rfl, HA, HK4, HO_10, HO_190001, BK185, BK186, BK189, HB⟩ := hrel
                        cases gk with
                        | zero => exact absurd HA.out (by simp [spec_Subworld.l2])
                        | succ k4 =>
                          have H := HA.out; clear HA
                          simp only [spec_Subworld.l2] at H
                          by_cases c31 : 0 ≤ x9_2
                          · rw [if_pos c31] at H; have c31b0 := decide_eq_true c31; clear c31
                            by_cases c32 : x9_2 < (l0.length : Int)
                            · rw [if_pos c32] at H; have c32b0 := decide_eq_true c32; clear c32
                              by_cases c33 : x15_4 < ((rd_I_Sym l0 x9_2).f1)
                              · rw [if_pos c33] at H; have c33b0 := decide_eq_true c33; clear c33
                                by_cases c34 : a2 = 0
                                · rw [if_pos c34] at H; exact absurd H (by simp)
                                rw [if_neg c34] at H; have c34b0 : (a2 == 0) = false := beq_eq_false_iff_ne.mpr c34; have c34b1 : (a2 != 0) = true := bne_iff_ne.mpr c34; have H' := ak H; clear H; have p198 : 0 ≤ (x9_2 : Int) := as_; have q198 : x9_2 < (l0.length : Int) := as_; obtain ⟨ad198, e198, hx198_0, hx198_1, hx198_2⟩ := at_T99 HR0.out x9_2 p198 q198; obtain rfl : ad193 = ad198 := (by injection e198); replace hx198_0 := hbc_ HB.out hx198_0; replace hx198_1 := hbc_ HB.out hx198_1; replace hx198_2 := hbc_ HB.out hx198_2; replace p198 := eq_true p198; replace q198 := eq_true q198; have hnb35 := NB185_186.out; have hnc35 := NB186_185.out; have hnb36 := NB185_189.out; have hnc36 := NB189_185.out; have hcz37_0 := bc_ BK185.out 0; have hcz37_1 := bc_ BK185.out 1; have hfz37_0 := blk_frozen BK185.out 0; have hfz37_1 := blk_frozen BK185.out 1
                                go_wp2
                                go_roundg k4
                                case measure => have := HJ3.out; have := HK2.out; have := HK3.out; have := HK4.out; omega
                                case rel => exact ⟨(wrap64 (x12_4 + (wrap64 (x14_4 * (Int.tmod x13_4 a2))))), (wrap64 (Int.tdiv x13_4 a2)), (wrap64 (x14_4 * a1_0)), (wrap64 (x15_4 + 1)), (by first | rfl | (simp; done) | (simp [*]; done)), (by first | rfl | (simp; done) | (simp [*]; done)), (by first | rfl | (simp; done) | (simp [*]; done)), (by first | rfl | (simp; done) | (simp [*]; done)), H', ⟨by have := HJ3.out; have := HK2.out; have := HK3.out; have := HK4.out; omega⟩, ⟨by (with_reducible repeat (first | apply Kd.R_alloc | apply Kd.R_drewN | apply Kd.R_drew)); exact HO_10.out⟩, ⟨by (with_reducible repeat (first | apply Kd.S_alloc | apply Kd.S_drewN | apply Kd.S_drew)); exact HO_190001.out⟩, ⟨bk_ BK185.out⟩, ⟨bk_ BK186.out⟩, ⟨bk_ BK189.out⟩, ⟨bs3_ HB.out GE185.out GE186.out GE189.out⟩⟩
                              rw [if_neg c33] at H; have c33b0 := decide_eq_false c33; clear c33
                              by_cases c38 : x9_2 < (l1_1.length : Int)
                              · rw [if_pos c38] at H; have c38b0 := decide_eq_true c38; clear c38
                                by_cases c39 : 0 ≤ x12_4
                                · rw [if_pos c39] at H; have c39b0 := decide_eq_true c39; clear c39
                                  by_cases c40 : x12_4 < ((rd_Ls_i64 l1_1 x9_2).length : Int)
                                  · rw [if_pos c40] at H; have c40b0 := decide_eq_true c40; clear c40
                                    by_cases c41 : (rd (rd_Ls_i64 l1_1 x9_2) x12_4) ≥ a2
                                    · rw [if_pos c41] at H; have c41b0 := decide_eq_true c41; clear c41
                                      simp only [Option.some.injEq, Prod.mk.injEq] at H
                                      obtain ⟨rfl, rfl, rfl⟩ := H; have p198 : 0 ≤ (x9_2 : Int) := as_; have q198 : x9_2 < (l0.length : Int) := as_; obtain ⟨ad198, e198, hx198_0, hx198_1, hx198_2⟩ := at_T99 HR0.out x9_2 p198 q198; obtain rfl : ad193 = ad198 := (by injection e198); replace hx198_0 := hbc_ HB.out hx198_0; replace hx198_1 := hbc_ HB.out hx198_1; replace hx198_2 := hbc_ HB.out hx198_2; replace p198 := eq_true p198; replace q198 := eq_true q198; have hnb42 := NB185_186.out; have hnc42 := NB186_185.out; have hnb43 := NB185_189.out; have hnc43 := NB189_185.out; have hcz44_0 := bc_ BK185.out 0; have hcz44_1 := bc_ BK185.out 1; have hfz44_0 := blk_frozen BK185.out 0; have hfz44_1 := blk_frozen BK185.out 1; have p199 : 0 ≤ (x9_2 : Int) := as_; have q199 : x9_2 < (l1_1.length : Int) := as_; obtain ⟨ad199, A199_0, c199_0, e199, hx199_0, hl199_0, hi199_0⟩ := at_L5 HR1_1.out x9_2 p199 q199
                                      cases e199
                                      replace hx199_0 := hbc_ HB.out hx199_0; have HR199_0 := ak hi199_0; have HC199_0 := ak hl199_0; clear hi199_0 hl199_0; replace p199 := eq_true p199; replace q199 := eq_true q199; have p200 : 0 ≤ (x12_4 : Int) := as_; have q200 : x12_4 < ((rd_Ls_i64 l1_1 x9_2).length : Int) := as_; obtain ⟨ad200, e200, hx200_0⟩ := Kd.at_int HR199_0.out x12_4 p200 q200
                                      cases e200
                                      replace hx200_0 := hbc_ HB.out hx200_0; replace p200 := eq_true p200; replace q200 := eq_true q200; have hnb45 := NB186_189.out; have hnc45 := NB189_186.out; have hcz46_0 := bc_ BK186.out 0; have hcz46_1 := bc_ BK186.out 1; have hfz46_0 := blk_frozen BK186.out 0; have hfz46_1 := blk_frozen BK186.out 1
                                      go_wp2
                                      refine bodyPost_ret (results_ct rfl _ _ gb186 51 #[.int .i64 0, .slice none 0 0] (0, 0) _ rfl (by (with_reducible repeat (first | refine blk_drewN ?_ _ | refine blk_drew ?_ | refine blk_alloc ?_ _)); refine blk_put (cs := #[.int .i64 0, .slice none 0 0]) ?_ 1 _ rfl; (with_reducible repeat (first | refine blk_drewN ?_ _ | refine blk_drew ?_ | refine blk_alloc ?_ _)); refine blk_put (cs := #[.int .i64 x187000_3, .slice none 0 0]) ?_ 0 _ rfl; (with_reducible repeat (first | refine blk_drewN ?_ _ | refine blk_drew ?_ | refine blk_alloc ?_ _)); exact BK186.out) Try.underlying51 rfl (by kernel_rfl)) rfl ?_; exact ⟨_, by first | rfl | (simp [errW_none, errW_some] <;> rfl) | (simp [*, errW_none, errW_some] <;> rfl), by first | exact Kd.S_nil _ _ _ _ _ | exact Kd.N_nil _ _ _ _ _ | exact Kd.V_nil _ _ _ _ _ | exact Kd.Q_nil _ _ _ _ _ | exact Kd.R_nil _ _ _ _ _, by repeat (first | (with_reducible first | exact HB.out | apply below_alloc | apply pw_below_drewN | apply below_drew1 | refine below_set ?_ GE185.out | refine below_set ?_ GE186.out | refine below_set ?_ GE189.out) | exact HB.out)⟩
                                    rw [if_neg c41] at H; have c41b0 := decide_eq_false c41; clear c41
                                    by_cases c47 : x10_3.length < 17592186044416
                                    · rw [if_pos c47] at H; have LMc47 := ak c47; clear c47; obtain ⟨y203, hy203⟩ : ∃ y_ : List Int, y_ = (x10_3 ++ [rd (rd_Ls_i64 l1_1 x9_2) x12_4]) := ⟨_, rfl⟩; replace H : (spec_Subworld.l1 k4 l0 a2 x9_2 y203 (wrap64 (x11_3 + 1)) a1_0 l1_1 a2 x190001_2) = some (r1, r2, r3) := by first | (rw [hy203]; with_reducible exact H) | (have H2_ := (Option.bind_some _ _).symm.trans H; rw [hy203]; with_reducible exact H2_) | (have H2_ := (Option.bind_some _ _).symm.trans H; with_reducible exact H2_) | with_reducible exact H | (rw [hy203]; exact H) | exact H
                                      have Ny203 := ak hy203; clear hy203; have H' := ak H; clear H; have p198 : 0 ≤ (x9_2 : Int) := as_; have q198 : x9_2 < (l0.length : Int) := as_; obtain ⟨ad198, e198, hx198_0, hx198_1, hx198_2⟩ := at_T99 HR0.out x9_2 p198 q198; obtain rfl : ad193 = ad198 := (by injection e198); replace hx198_0 := hbc_ HB.out hx198_0; replace hx198_1 := hbc_ HB.out hx198_1; replace hx198_2 := hbc_ HB.out hx198_2; replace p198 := eq_true p198; replace q198 := eq_true q198; have hnb48 := NB185_186.out; have hnc48 := NB186_185.out; have hnb49 := NB185_189.out; have hnc49 := NB189_185.out; have hcz50_0 := bc_ BK185.out 0; have hcz50_1 := bc_ BK185.out 1; have hfz50_0 := blk_frozen BK185.out 0; have hfz50_1 := blk_frozen BK185.out 1; have p199 : 0 ≤ (x9_2 : Int) := as_; have q199 : x9_2 < (l1_1.length : Int) := as_; obtain ⟨ad199, A199_0, c199_0, e199, hx199_0, hl199_0, hi199_0⟩ := at_L5 HR1_1.out x9_2 p199 q199
                                      cases e199
                                      replace hx199_0 := hbc_ HB.out hx199_0; have HR199_0 := ak hi199_0; have HC199_0 := ak hl199_0; clear hi199_0 hl199_0; replace p199 := eq_true p199; replace q199 := eq_true q199; have p200 : 0 ≤ (x12_4 : Int) := as_; have q200 : x12_4 < ((rd_Ls_i64 l1_1 x9_2).length : Int) := as_; obtain ⟨ad200, e200, hx200_0⟩ := Kd.at_int HR199_0.out x12_4 p200 q200
                                      cases e200
                                      replace hx200_0 := hbc_ HB.out hx200_0; replace p200 := eq_true p200; replace q200 := eq_true q200; have p201 : 0 ≤ (x9_2 : Int) := as_; have q201 : x9_2 < (l1_1.length : Int) := as_; obtain ⟨ad201, A201_0, c201_0, e201, hx201_0, hl201_0, hi201_0⟩ := at_L5 HR1_1.out x9_2 p201 q201; obtain rfl : ad199 = ad201 := (by injection e201); replace hx201_0 := hbc_ HB.out hx201_0; have HR201_0 := ak hi201_0; have HC201_0 := ak hl201_0; clear hi201_0 hl201_0; replace p201 := eq_true p201; replace q201 := eq_true q201; have ea_ := Option.some.inj (hx199_0.symm.trans hx201_0)
                                      injection ea_ with ea_ en_ ec_
                                      subst ea_; subst ec_; clear en_; have p202 : 0 ≤ (x12_4 : Int) := as_; have q202 : x12_4 < ((rd_Ls_i64 l1_1 x9_2).length : Int) := as_; obtain ⟨ad202, e202, hx202_0⟩ := Kd.at_int HR201_0.out x12_4 p202 q202
                                      cases e202
                                      replace hx202_0 := hbc_ HB.out hx202_0; replace p202 := eq_true p202; replace q202 := eq_true q202
                                      go_wp2_with (first | ((with_reducible refine gate_builtin (b := .append) (xs := #[.tmp 83, .tmp 92]) rfl ?_); at_builtin; refine Kd.R_append (Kd.int .i64) (w0 := w) w.heap.size rfl (.tmp 83) (.tmp 92) 75 3 (.int .i64 0) 8 rfl Try.underlying75 info3 rfl (by decide) (by omega) u10 x10_3 (rd (rd_Ls_i64 l1_1 x9_2) x12_4) [.int .i64 (rd (rd_Ls_i64 l1_1 x9_2) x12_4)] (fun _ => True) (fun _ => False) rfl rfl ?aP (fun _ hk => hk.elim) ?aF ?aO ?aB ?aS ?aL ?_; (case aP => exact rfl); (case aB => exact (bs3_ HB.out GE185.out GE186.out GE189.out)); (case aF => exact (fun _ _ => trivial)); (case aO => exact (ra_ HO_10.out)); (case aS => exact (below_size (bs3_ HB.out GE185.out GE186.out GE189.out))); (case aL => have := LMc47.out; omega); intro v204 w51 ho hb hg hat; rw [← Ny203.out] at ho; replace HO_190001 := ak (Kd.S_after (ok := (fun _ => True)) (by (with_reducible repeat (first | apply Kd.S_alloc | apply Kd.S_drewN | apply Kd.S_drew)); exact Kd.S_mono HO_190001.out (fun _ hk => ⟨trivial, hk⟩)) hg hat); replace BK185 := ak (blk_grown (g := gb185) (o := .cells #[.int .i64 a1_0, .slice (some ad199) l1_1.length c1_1] 51 (0, 0)) (bk_ BK185.out) hg (Kd.R_ne HO_10.out BK185.out (by decide))); replace BK186 := ak (blk_grown (g := gb186) (o := .cells #[.int .i64 x187000_3, .slice none 0 0] 51 (0, 0)) (bk_ BK186.out) hg (Kd.R_ne HO_10.out BK186.out (by decide))); replace BK189 := ak (blk_grown (g := gb189) (o := .cells #[.int .i64 a2, u190001] 51 (0, 0)) (bk_ BK189.out) hg (Kd.R_ne HO_10.out BK189.out (by decide))); replace HB := ak (hb); have HO205 := ak (ho); clear HO_10; clear ho hb hg hat))
                                      go_roundg k4
                                      case measure => have := HJ3.out; have := HK2.out; have := HK3.out; have := HK4.out; omega
                                      case rel => exact ⟨(y203), (wrap64 (x11_3 + 1)), (x187000_3), (by first | rfl | (simp; done) | (simp [*]; done)), H', ⟨by have := HJ3.out; have := HK2.out; have := HK3.out; have := HK4.out; omega⟩, ⟨by (with_reducible repeat (first | apply Kd.R_alloc | apply Kd.R_drewN | apply Kd.R_drew)); exact HO205.out⟩, ⟨by (with_reducible repeat (first | apply Kd.S_alloc | apply Kd.S_drewN | apply Kd.S_drew)); exact Kd.S_mono HO_190001.out (fun _ hk => hk.2)⟩, ⟨bk_ BK185.out⟩, ⟨bk_ BK186.out⟩, ⟨bk_ BK189.out⟩, ⟨bs3_ HB.out GE185.out GE186.out GE189.out⟩⟩
                                    rw [if_neg c47] at H; exact absurd H (by simp)
                                  rw [if_neg c40] at H; exact absurd H (by simp)
                                rw [if_neg c39] at H; exact absurd H (by simp)
                              rw [if_neg c38] at H; exact absurd H (by simp)
                            rw [if_neg c32] at H; exact absurd H (by simp)
                          rw [if_neg c31] at H; exact absurd H (by simp)
                    rw [if_neg c30] at H; have c30b0 := decide_eq_false c30; clear c30
                    by_cases c52 : x190001_2.length < 5864062014805
                    · rw [if_pos c52] at H; have LMc52 := ak c52; clear c52; obtain ⟨y195, hy195⟩ : ∃ y_ : List (List Int), y_ = (x190001_2 ++ [x10_3]) := ⟨_, rfl⟩; replace H : (spec_Subworld.l0 k3 l0 a2 (wrap64 (x9_2 + 1)) a1_0 l1_1 a2 y195) = some (r1, r2, r3) := by first | (rw [hy195]; with_reducible exact H) | (have H2_ := (Option.bind_some _ _).symm.trans H; rw [hy195]; with_reducible exact H2_) | (have H2_ := (Option.bind_some _ _).symm.trans H; with_reducible exact H2_) | with_reducible exact H | (rw [hy195]; exact H) | exact H
                      have Ny195 := ak hy195; clear hy195; have H' := ak H; clear H; have p193 : 0 ≤ (x9_2 : Int) := as_; have q193 : x9_2 < (l0.length : Int) := as_; obtain ⟨ad193, e193, hx193_0, hx193_1, hx193_2⟩ := at_T99 HR0.out x9_2 p193 q193
                      cases e193
                      replace hx193_0 := hbc_ HB.out hx193_0; replace hx193_1 := hbc_ HB.out hx193_1; replace hx193_2 := hbc_ HB.out hx193_2; replace p193 := eq_true p193; replace q193 := eq_true q193
                      go_wp2_with (first | ((with_reducible refine gate_callee (f := 84) rfl ?_); refine goesM_ (some 44) rfl rfl Try.func84 (by kernel_rfl) rfl #[.int .i64 a2, .int .i64 ((rd_I_Sym l0 x9_2).f1)] rfl ?_; (with_reducible refine (spec_l24Power.calls k3 a2 ((rd_I_Sym l0 x9_2).f1) t194 _ A29.out).mono ?_); rintro e w' ⟨rfl, ⟨nd, rfl⟩⟩; refine ⟨_, rfl, ?_⟩; (try (rw [drewN_self wr]; generalize hq_ : World.drewN wr _ = wr; have n0_ : Aside0 (Kd.R (Kd.int .i64) 3 wr w.heap.size (fun _ => True) u10 x10_3) := ⟨by rw [← hq_]; exact (ra_ HO_10.out)⟩; have n1_ : Aside0 (Kd.S (Kd.slice 3 (Kd.int .i64)) 75 wr w.heap.size (fun k_ => some k_ ≠ (u10 : Value).ownBlock) u190001 x190001_2) := ⟨by rw [← hq_]; exact (sa_ HO_190001.out)⟩; have n2_ : Aside0 (wr.heap[gb185]? = some (.cells #[.int .i64 a1_0, .slice A1_1 l1_1.length c1_1] 51 (0, 0))) := ⟨by rw [← hq_]; exact (bk_ BK185.out)⟩; have n3_ : Aside0 (wr.heap[gb186]? = some (.cells #[.int .i64 x187000_3, .slice none 0 0] 51 (0, 0))) := ⟨by rw [← hq_]; exact (bk_ BK186.out)⟩; have n4_ : Aside0 (wr.heap[gb189]? = some (.cells #[.int .i64 a2, u190001] 51 (0, 0))) := ⟨by rw [← hq_]; exact (bk_ BK189.out)⟩; have n5_ : Aside0 (Below w.heap.size w wr) := ⟨by rw [← hq_]; exact (bs3_ HB.out GE185.out GE186.out GE189.out)⟩; clear HO_10 HO_190001 BK185 BK186 BK189 HB hq_; have HO_10 := n0_; have HO_190001 := n1_; have BK185 := n2_; have BK186 := n3_; have BK189 := n4_; have HB := n5_; clear n0_ n1_ n2_ n3_ n4_ n5_)); have hnb53 := NB189_185.out; have hnc53 := NB185_189.out; have hnb54 := NB189_186.out; have hnc54 := NB186_189.out; have hcz55_0 := bc_ BK189.out 0; have hcz55_1 := bc_ BK189.out 1; have hfz55_0 := blk_frozen BK189.out 0; have hfz55_1 := blk_frozen BK189.out 1; obtain ⟨Ao57, co57, eo57⟩ := Kd.R_slice HO_10.out; subst eo57) | ((with_reducible refine gate_builtin (b := .append) (xs := #[.tmp 95, .tmp 97]) rfl ?_); at_builtin; refine Kd.S_append (Kd.slice 3 (Kd.int .i64)) (w0 := w) w.heap.size rfl (.tmp 95) (.tmp 97) 38 75 (.slice none 0 0) 24 rfl Try.underlying38 info75 rfl (by decide) (by omega) u190001 x190001_2 x10_3 [.slice Ao57 x10_3.length co57] (fun _ => True) (fun k_ => some k_ = (.slice Ao57 x10_3.length co57 : Value).ownBlock) rfl rfl ?aP (fun k_ hk_ => ((Kd.R_mono (ok' := fun k_ => ((fun _ => True)) k_ ∧ some k_ ≠ (u190001 : Value).ownBlock) (Kd.R_apart' (HO_10.out) (Kd.S_typed HO_190001.out) (by decide)) (fun k_ hk => ⟨trivial, hk.2⟩))).1 k_ hk_.symm) ?aF ?aO ?aB ?aS ?aL ?_; (case aP => exact Kd.M_row (Kd.R_mono (Kd.R_tight rfl (Kd.R_mono (ok' := fun k_ => ((fun _ => True)) k_ ∧ some k_ ≠ (u190001 : Value).ownBlock) (Kd.R_apart' (HO_10.out) (Kd.S_typed HO_190001.out) (by decide)) (fun k_ hk => ⟨trivial, hk.2⟩))) (fun _ h_ => h_))); (case aB => exact (bs3_ HB.out GE185.out GE186.out GE189.out)); (case aF => exact (fun _ _ => trivial)); (case aO => exact (by (with_reducible repeat (first | apply Kd.S_alloc | apply Kd.S_drewN | apply Kd.S_drew)); exact Kd.S_mono HO_190001.out (fun k_ hk => ⟨trivial, fun e_ => hk e_⟩))); (case aS => exact (below_size (bs3_ HB.out GE185.out GE186.out GE189.out))); (case aL => have := LMc52.out; omega); intro v196 w56 ho hb hg hat; rw [← Ny195.out] at ho; replace BK185 := ak (blk_grown (g := gb185) (o := .cells #[.int .i64 a1_0, .slice A1_1 l1_1.length c1_1] 51 (0, 0)) (bk_ BK185.out) hg (Kd.S_ne HO_190001.out BK185.out (by decide))); replace BK186 := ak (blk_grown (g := gb186) (o := .cells #[.int .i64 x187000_3, .slice none 0 0] 51 (0, 0)) (bk_ BK186.out) hg (Kd.S_ne HO_190001.out BK186.out (by decide))); replace BK189 := ak (blk_grown (g := gb189) (o := .cells #[.int .i64 a2, u190001] 51 (0, 0)) (bk_ BK189.out) hg (Kd.S_ne HO_190001.out BK189.out (by decide))); replace HB := ak (hb); have HO197 := ak (ho); clear HO_190001 HO_10; clear ho hb hg hat; obtain ⟨Ao58, co58, eo58⟩ := Kd.S_slice HO197.out; subst eo58; have hcz59_0 := bc_ BK189.out 0; have hcz59_1 := bc_ BK189.out 1; have hfz59_0 := blk_frozen BK189.out 0; have hfz59_1 := blk_frozen BK189.out 1))
                      go_roundg k3
                      case measure => have := HJ3.out; have := HK2.out; have := HK3.out; omega
                      case rel => exact ⟨(wrap64 (x9_2 + 1)), (x187000_3), (y195), (.slice Ao58 y195.length co58), (by first | rfl | (simp; done) | (simp [*]; done)), H', ⟨by have := HJ3.out; have := HK2.out; have := HK3.out; omega⟩, ⟨by (with_reducible repeat (first | apply Kd.S_alloc | apply Kd.S_drewN | apply Kd.S_drew)); exact Kd.S_mono (Kd.S_far (p := ⟨gb189, 1, none⟩) (Kd.S_types HO197.out BK189.out (by decide)) (fun _ hk => hk.2) (.slice Ao58 y195.length co58)) (fun _ hk => trivial)⟩, ⟨by (with_reducible repeat (first | refine blk_drewN ?_ _ | refine blk_drew ?_ | refine blk_alloc ?_ _)); refine blk_far ?_ NB185_189.out _; (with_reducible repeat (first | refine blk_drewN ?_ _ | refine blk_drew ?_ | refine blk_alloc ?_ _)); exact BK185.out⟩, ⟨by (with_reducible repeat (first | refine blk_drewN ?_ _ | refine blk_drew ?_ | refine blk_alloc ?_ _)); refine blk_far ?_ NB186_189.out _; (with_reducible repeat (first | refine blk_drewN ?_ _ | refine blk_drew ?_ | refine blk_alloc ?_ _)); exact BK186.out⟩, ⟨by (with_reducible repeat (first | refine blk_drewN ?_ _ | refine blk_drew ?_ | refine blk_alloc ?_ _)); refine blk_put (cs := #[.int .i64 a2, u190001]) ?_ 1 _ rfl; (with_reducible repeat (first | refine blk_drewN ?_ _ | refine blk_drew ?_ | refine blk_alloc ?_ _)); exact BK189.out⟩, ⟨bs3_ HB.out GE185.out GE186.out GE189.out⟩⟩
                    rw [if_neg c52] at H; exact absurd H (by simp)
                  rw [if_neg c28] at H; exact absurd H (by simp)
                rw [if_neg c27] at H; exact absurd H (by simp)
          rw [if_neg c24] at H; have c24b0 := decide_eq_false c24; clear c24
          simp only [Option.some.injEq, Prod.mk.injEq] at H
          obtain ⟨rfl, rfl, rfl⟩ := H; have hnb60 := NB189_185.out; have hnc60 := NB185_189.out; have hnb61 := NB189_186.out; have hnc61 := NB186_189.out; have hcz62_0 := bc_ BK189.out 0; have hcz62_1 := bc_ BK189.out 1; have hfz62_0 := blk_frozen BK189.out 0; have hfz62_1 := blk_frozen BK189.out 1; have hnb63 := NB186_185.out; have hnc63 := NB185_186.out; have hcz64_0 := bc_ BK186.out 0; have hcz64_1 := bc_ BK186.out 1; have hfz64_0 := blk_frozen BK186.out 0; have hfz64_1 := blk_frozen BK186.out 1; obtain ⟨Ao65, co65, eo65⟩ := Kd.S_slice HO_190001.out; subst eo65
          go_wp2
          refine bodyPost_ret (results_ct rfl _ _ gb186 51 #[.int .i64 a2, .slice Ao65 x190001_2.length co65] (0, 0) _ rfl (by (with_reducible repeat (first | refine blk_drewN ?_ _ | refine blk_drew ?_ | refine blk_alloc ?_ _)); refine blk_put (cs := #[.int .i64 a2, .slice none 0 0]) ?_ 1 _ rfl; (with_reducible repeat (first | refine blk_drewN ?_ _ | refine blk_drew ?_ | refine blk_alloc ?_ _)); refine blk_put (cs := #[.int .i64 x187000_2, .slice none 0 0]) ?_ 0 _ rfl; (with_reducible repeat (first | refine blk_drewN ?_ _ | refine blk_drew ?_ | refine blk_alloc ?_ _)); exact BK186.out) Try.underlying51 rfl (by kernel_rfl)) rfl ?_; exact ⟨_, by first | rfl | (simp [errW_none, errW_some] <;> rfl) | (simp [*, errW_none, errW_some] <;> rfl), by (with_reducible repeat (first | apply Kd.S_alloc | apply Kd.S_drewN | apply Kd.S_drew)); exact Kd.S_mono (Kd.S_far (p := ⟨gb186, 1, none⟩) (Kd.S_far (p := ⟨gb186, 0, none⟩) (Kd.S_types HO_190001.out BK186.out (by decide)) (fun _ hk => hk.2) (.int .i64 a2)) (fun _ hk => hk.2) (.slice Ao65 x190001_2.length co65)) (fun _ hk => trivial), by repeat (first | (with_reducible first | exact HB.out | apply below_alloc | apply pw_below_drewN | apply below_drew1 | refine below_set ?_ GE185.out | refine below_set ?_ GE186.out | refine below_set ?_ GE189.out) | exact HB.out)⟩

/-! ### impl_from: function 87 -/
def impl_from.f (a0 : Int) (a1 : Int) (a2 : Int) : Option (Bool) := if a0 ≥ a1 then (some (decide (a0 ≤ a2))) else (some false)
set_option maxHeartbeats 8000000 in
set_option maxRecDepth 100000 in
theorem impl_from.calls (a0 : Int) (a1 : Int) (a2 : Int) (r : Bool) (w : World) (h : impl_from.f a0 a1 a2 = some r) :
    Calls Try.prog 87 #[.int .i64 a0, .int .i64 a1, .int .i64 a2] w fun e w' => e = .returned (.bool r) ∧ Drawn0 w w' := by
  have H : (if a0 ≥ a1 then (some (decide (a0 ≤ a2))) else (some false)) = some r := h; clear h
  by_cases c4 : a0 ≥ a1
  · rw [if_pos c4] at H; have c4b0 := decide_eq_true c4; clear c4; obtain rfl := Option.some.inj H
    go_enter Try.func87, Try.ntmps87
    go_wp2
    go_ret
    exact ⟨by first | rfl | (simp; done) | (simp [*]; done), by repeat (first | exact Drawn0.refl _ | apply Drawn0.step)⟩
  rw [if_neg c4] at H; have c4b0 := decide_eq_false c4; clear c4; obtain rfl := Option.some.inj H
  go_enter Try.func87, Try.ntmps87
  go_wp2
  go_ret
  exact ⟨by first | rfl | (simp; done) | (simp [*]; done), by repeat (first | exact Drawn0.refl _ | apply Drawn0.step)⟩

/-! ### impl_isSmall: function 169 -/
def impl_isSmall.f (a0 : Int) : Option (Bool) := if a0 ≥ 97 then (some (decide (a0 ≤ 122))) else (some false)
set_option maxHeartbeats 8000000 in
set_option maxRecDepth 100000 in
theorem impl_isSmall.calls (a0 : Int) (r : Bool) (w : World) (h : impl_isSmall.f a0 = some r) :
    Calls Try.prog 169 #[.int .u8 a0] w fun e w' => e = .returned (.bool r) ∧ Drawn0 w w' := by
  have H : (if a0 ≥ 97 then (some (decide (a0 ≤ 122))) else (some false)) = some r := h; clear h
  by_cases c2 : a0 ≥ 97
  · rw [if_pos c2] at H; have c2b0 := decide_eq_true c2; clear c2; obtain rfl := Option.some.inj H
    go_enter Try.func169, Try.ntmps169
    go_wp2
    go_ret
    exact ⟨by first | rfl | (simp; done) | (simp [*]; done), by repeat (first | exact Drawn0.refl _ | apply Drawn0.step)⟩
  rw [if_neg c2] at H; have c2b0 := decide_eq_false c2; clear c2; obtain rfl := Option.some.inj H
  go_enter Try.func169, Try.ntmps169
  go_wp2
  go_ret
  exact ⟨by first | rfl | (simp; done) | (simp [*]; done), by repeat (first | exact Drawn0.refl _ | apply Drawn0.step)⟩

/-! ### impl_isDigit: function 170 -/
def impl_isDigit.f (a0 : Int) : Option (Bool) := if a0 ≥ 48 then (some (decide (a0 ≤ 57))) else (some false)
set_option maxHeartbeats 8000000 in
set_option maxRecDepth 100000 in
theorem impl_isDigit.calls (a0 : Int) (r : Bool) (w : World) (h : impl_isDigit.f a0 = some r) :
    Calls Try.prog 170 #[.int .u8 a0] w fun e w' => e = .returned (.bool r) ∧ Drawn0 w w' := by
  have H : (if a0 ≥ 48 then (some (decide (a0 ≤ 57))) else (some false)) = some r := h; clear h
  by_cases c2 : a0 ≥ 48
  · rw [if_pos c2] at H; have c2b0 := decide_eq_true c2; clear c2; obtain rfl := Option.some.inj H
    go_enter Try.func170, Try.ntmps170
    go_wp2
    go_ret
    exact ⟨by first | rfl | (simp; done) | (simp [*]; done), by repeat (first | exact Drawn0.refl _ | apply Drawn0.step)⟩
  rw [if_neg c2] at H; have c2b0 := decide_eq_false c2; clear c2; obtain rfl := Option.some.inj H
  go_enter Try.func170, Try.ntmps170
  go_wp2
  go_ret
  exact ⟨by first | rfl | (simp; done) | (simp [*]; done), by repeat (first | exact Drawn0.refl _ | apply Drawn0.step)⟩

/-! ### impl_NameOk: function 144 -/
def impl_NameOk.l0 : Nat → ByteArray → Int → Int → Option (Bool)
  | 0, _, _, _ => none
  | k + 1, x0, x5, x6 => if x6 < x5 then (if 0 ≤ x6 then (if x6 < (x0.size : Int) then ((impl_isSmall.f (bt x0 x6)).bind fun t208 => (if t208 = true then (impl_NameOk.l0 k x0 x5 (wrap64 (x6 + 1))) else ((impl_isDigit.f (bt x0 x6)).bind fun t209 => (if t209 = true then (impl_NameOk.l0 k x0 x5 (wrap64 (x6 + 1))) else (some false))))) else (none)) else (none)) else ((impl_from.f (x0.size : Int) 1 8).bind fun t206 => (if t206 = true then (if 0 < (x0.size : Int) then ((impl_isSmall.f (bt x0 0)).bind fun t207 => (some t207)) else (none)) else (some false)))
def impl_NameOk.f (k : Nat) (a0 : ByteArray) : Option (Bool) := impl_NameOk.l0 k a0 (a0.size : Int) 0
theorem impl_NameOk.mono_l : ∀ k, (∀ y0 y1 y2, LeO (impl_NameOk.l0 k y0 y1 y2) (impl_NameOk.l0 (k + 1) y0 y1 y2))
  | 0 => fun _ _ _ r h => by simp [impl_NameOk.l0] at h
  | k + 1 => by
    have ih0 := impl_NameOk.mono_l k
    · intro y0 y1 y2
      unfold impl_NameOk.l0
      repeat' first | (with_reducible first | exact ih0 _ _ _ | exact LeO.refl _ | exact LeO.none _ | refine LeO.ite ?_ ?_ | refine LeO.bind ?_ (fun _ => ?_)) | exact ih0 _ _ _ | exact LeO.none _ | refine LeO.ite ?_ ?_ | refine LeO.bind ?_ (fun _ => ?_)
theorem impl_NameOk.mono : ∀ a0 k, LeO (impl_NameOk.f k a0) (impl_NameOk.f (k + 1) a0) := by
  intro a0 k; have ih0 := impl_NameOk.mono_l k
  unfold impl_NameOk.f
  repeat' first
      | (with_reducible exact ih0 _ _ _)
      | (with_reducible exact LeO.refl _)
      | (with_reducible exact LeO.none _)
      | (with_reducible refine LeO.ite ?_ ?_)
      | (with_reducible refine LeO.bind ?_ (fun _ => ?_))
      | exact ih0 _ _ _
      | exact LeO.none _
      | refine LeO.ite ?_ ?_
      | refine LeO.bind ?_ (fun _ => ?_)
set_option maxHeartbeats 8000000 in
set_option maxRecDepth 100000 in
theorem impl_NameOk.calls (k : Nat) (a0 : ByteArray) (r : Bool) (w : World) (h : impl_NameOk.f k a0 = some r) :
    Calls Try.prog 144 #[.string a0] w fun e w' => e = .returned (.bool r) ∧ Drawn0 w w' := by
  have H : (impl_NameOk.l0 k a0 (a0.size : Int) 0) = some r := h; clear h; have H' := ak H; clear H
  go_enter Try.func144, Try.ntmps144
  go_wp2
  go_loopg [6] k (fun kq v6 w' => ∃ (x6_1 : Int), v6 = .int .i64 x6_1 ∧ Aside0 (impl_NameOk.l0 kq a0 (a0.size : Int) x6_1 = some r) ∧ Aside0 (kq ≤ k) ∧ Drawn0 w w')
  case atStart => exact ⟨(0), (by first | rfl | (simp; done) | (simp [*]; done)), H', ⟨Nat.le_refl _⟩, by repeat (first | exact Drawn0.refl _ | apply Drawn0.step)⟩
  case round =>
    clear H'; (try clear c1); obtain ⟨x6_1, rfl, HA, HK1, ⟨m1, rfl⟩⟩ := hrel
    cases gk with
    | zero => exact absurd HA.out (by simp [impl_NameOk.l0])
    | succ k1 =>
      have H := HA.out; clear HA
      simp only [impl_NameOk.l0] at H
      by_cases c2 : x6_1 < (a0.size : Int)
      · rw [if_pos c2] at H; have c2b0 := decide_eq_true c2; clear c2
        by_cases c3 : 0 ≤ x6_1
        · rw [if_pos c3] at H; have c3b0 := decide_eq_true c3; clear c3
          by_cases c4 : x6_1 < (a0.size : Int)
          · rw [if_pos c4] at H; have c4b0 := decide_eq_true c4; clear c4; replace H := Option.bind_eq_some_iff.mp H; obtain ⟨t208, A60, H⟩ := H; have A6 := ak A60; clear A60
            by_cases c7 : t208 = true
            · subst c7; rw [if_pos rfl] at H; have H' := ak H; clear H; have p5 : 0 ≤ (x6_1 : Int) := as_; have q5 : x6_1 < (a0.size : Int) := as_; have hx5 := bt_at a0 x6_1; replace p5 := eq_true p5; replace q5 := eq_true q5
              go_wp2_with (first | ((with_reducible refine gate_callee (f := 169) rfl ?_); refine goesM_ (some 12) rfl rfl Try.func169 (by kernel_rfl) rfl #[.int .u8 (bt a0 x6_1)] rfl ?_; (with_reducible refine (impl_isSmall.calls (bt a0 x6_1) true _ A6.out).mono ?_); rintro e w' ⟨rfl, ⟨nd, rfl⟩⟩; refine ⟨_, rfl, ?_⟩))
              go_roundg k1
              case measure => have := HK1.out; omega
              case rel => exact ⟨(wrap64 (x6_1 + 1)), (by first | rfl | (simp; done) | (simp [*]; done)), H', ⟨by have := HK1.out; omega⟩, by repeat (first | exact Drawn0.refl _ | apply Drawn0.step)⟩
            replace c7 := Bool.eq_false_iff.mpr c7; subst c7; rw [if_neg (show ¬ (false = true) by decide)] at H; replace H := Option.bind_eq_some_iff.mp H; obtain ⟨t209, A90, H⟩ := H; have A9 := ak A90; clear A90
            by_cases c10 : t209 = true
            · subst c10; rw [if_pos rfl] at H; have H' := ak H; clear H; have p5 : 0 ≤ (x6_1 : Int) := as_; have q5 : x6_1 < (a0.size : Int) := as_; have hx5 := bt_at a0 x6_1; replace p5 := eq_true p5; replace q5 := eq_true q5
              go_wp2_with (first | ((with_reducible refine gate_callee (f := 169) rfl ?_); refine goesM_ (some 12) rfl rfl Try.func169 (by kernel_rfl) rfl #[.int .u8 (bt a0 x6_1)] rfl ?_; (with_reducible refine (impl_isSmall.calls (bt a0 x6_1) false _ A6.out).mono ?_); rintro e w' ⟨rfl, ⟨nd, rfl⟩⟩; refine ⟨_, rfl, ?_⟩; have p8 : 0 ≤ (x6_1 : Int) := as_; have q8 : x6_1 < (a0.size : Int) := as_; have hx8 := bt_at a0 x6_1; replace p8 := eq_true p8; replace q8 := eq_true q8) | (go_at_call 170; (with_reducible refine (impl_isDigit.calls (bt a0 x6_1) true _ A9.out).mono ?_); rintro e w' ⟨rfl, ⟨nd, rfl⟩⟩))
              go_roundg k1
              case measure => have := HK1.out; omega
              case rel => exact ⟨(wrap64 (x6_1 + 1)), (by first | rfl | (simp; done) | (simp [*]; done)), H', ⟨by have := HK1.out; omega⟩, by repeat (first | exact Drawn0.refl _ | apply Drawn0.step)⟩
            replace c10 := Bool.eq_false_iff.mpr c10; subst c10; rw [if_neg (show ¬ (false = true) by decide)] at H; obtain rfl := Option.some.inj H; have p5 : 0 ≤ (x6_1 : Int) := as_; have q5 : x6_1 < (a0.size : Int) := as_; have hx5 := bt_at a0 x6_1; replace p5 := eq_true p5; replace q5 := eq_true q5
            go_wp2_with (first | ((with_reducible refine gate_callee (f := 169) rfl ?_); refine goesM_ (some 12) rfl rfl Try.func169 (by kernel_rfl) rfl #[.int .u8 (bt a0 x6_1)] rfl ?_; (with_reducible refine (impl_isSmall.calls (bt a0 x6_1) false _ A6.out).mono ?_); rintro e w' ⟨rfl, ⟨nd, rfl⟩⟩; refine ⟨_, rfl, ?_⟩; have p8 : 0 ≤ (x6_1 : Int) := as_; have q8 : x6_1 < (a0.size : Int) := as_; have hx8 := bt_at a0 x6_1; replace p8 := eq_true p8; replace q8 := eq_true q8) | (go_at_call 170; (with_reducible refine (impl_isDigit.calls (bt a0 x6_1) false _ A9.out).mono ?_); rintro e w' ⟨rfl, ⟨nd, rfl⟩⟩))
            go_ret
            exact ⟨by first | rfl | (simp; done) | (simp [*]; done), by repeat (first | exact Drawn0.refl _ | apply Drawn0.step)⟩
          rw [if_neg c4] at H; exact absurd H (by simp)
        rw [if_neg c3] at H; exact absurd H (by simp)
      rw [if_neg c2] at H; have c2b0 := decide_eq_false c2; clear c2; replace H := Option.bind_eq_some_iff.mp H; obtain ⟨t206, A110, H⟩ := H; have A11 := ak A110; clear A110
      by_cases c12 : t206 = true
      · subst c12; rw [if_pos rfl] at H
        by_cases c13 : 0 < (a0.size : Int)
        · rw [if_pos c13] at H; have c13b0 := decide_eq_true c13; have c13b1 : decide (0 < a0.size) = true := decide_eq_true (by omega); clear c13; replace H := Option.bind_eq_some_iff.mp H; obtain ⟨t207, A150, H⟩ := H; have A15 := ak A150; clear A150; obtain rfl := Option.some.inj H
          go_wp2_with (first | ((with_reducible refine gate_callee (f := 87) rfl ?_); refine goesM_ (some 24) rfl rfl Try.func87 (by kernel_rfl) rfl #[.int .i64 (a0.size : Int), .int .i64 1, .int .i64 8] rfl ?_; (with_reducible refine (impl_from.calls (a0.size : Int) 1 8 true _ A11.out).mono ?_); rintro e w' ⟨rfl, ⟨nd, rfl⟩⟩; refine ⟨_, rfl, ?_⟩; have p14 : 0 ≤ (0 : Int) := (by omega); have q14 : 0 < a0.size := (by have : (0 : Int) < (a0.size : Int) := as_; omega); have hx14 : ∀ h : 0 < a0.size, ((a0[0]'h).toNat : Int) = bt a0 0 := bt_at a0 0; clear p14; have qi14 : (0 < (a0.size : Int)) = True := eq_true (as_); replace q14 := eq_true q14) | (go_at_call 169; (with_reducible refine (impl_isSmall.calls (bt a0 0) t207 _ A15.out).mono ?_); rintro e w' ⟨rfl, ⟨nd, rfl⟩⟩))
          go_ret
          exact ⟨by first | rfl | (simp; done) | (simp [*]; done), by repeat (first | exact Drawn0.refl _ | apply Drawn0.step)⟩
        rw [if_neg c13] at H; exact absurd H (by simp)
      replace c12 := Bool.eq_false_iff.mpr c12; subst c12; rw [if_neg (show ¬ (false = true) by decide)] at H; obtain rfl := Option.some.inj H
      go_wp2_with (first | ((with_reducible refine gate_callee (f := 87) rfl ?_); refine goesM_ (some 24) rfl rfl Try.func87 (by kernel_rfl) rfl #[.int .i64 (a0.size : Int), .int .i64 1, .int .i64 8] rfl ?_; (with_reducible refine (impl_from.calls (a0.size : Int) 1 8 false _ A11.out).mono ?_); rintro e w' ⟨rfl, ⟨nd, rfl⟩⟩; refine ⟨_, rfl, ?_⟩))
      go_ret
      exact ⟨by first | rfl | (simp; done) | (simp [*]; done), by repeat (first | exact Drawn0.refl _ | apply Drawn0.step)⟩

/-! ### impl_SymOf_1: function 172 -/
def impl_SymOf_1.f (a0_0 : ByteArray) (a0_1 : Int) (a0_2 : Bool) (a1_0 : ByteArray) : Option (Bool) := some (a0_0.toList == a1_0.toList)
set_option maxHeartbeats 8000000 in
set_option maxRecDepth 100000 in
theorem impl_SymOf_1.calls (a0_0 : ByteArray) (a0_1 : Int) (a0_2 : Bool) (G1 : Nat) (a1_0 : ByteArray) (r : Bool) (w : World) (hG1 : w.heap[G1]? = some (.cells #[.string a1_0] 9 (0, 0))) (h : impl_SymOf_1.f a0_0 a0_1 a0_2 a1_0 = some r) :
    Calls Try.prog 172 #[.agg #[.string a0_0, .int .i64 a0_1, .bool a0_2], .pointer (some ⟨G1, 0, none⟩)] w fun e w' => e = .returned (.bool r) ∧ Below w.heap.size w w' := by
  have hu99 := Try.underlying99; have BK1 := ak hG1; clear hG1; have HB := ak (Below.refl w.heap.size w); have H : (some (a0_0.toList == a1_0.toList)) = some r := h; clear h; obtain rfl := Option.some.inj H
  go_enter Try.func172, Try.ntmps172
  go_wp2_with (first | ((with_reducible refine gate_dst (N := 2) rfl ?_); refine bxe_ (N := 2) (cs := #[.string a0_0, .int .i64 a0_1, .bool a0_2]) (t := 99) ?_; intro gb210 hg w3 hbox hb; have BK210 := ak (hbox); have GW210 := ak (lg_ hg (bl_ HB.out)); have GE210 := ak (lg_ hg (bl_ HB.out)); replace HB := ak (below_step (bl_ HB.out) hb); have NB1_210 := ak (nl_ hg (bk_ BK1.out)); have NB210_1 := ak (ng_ hg (bk_ BK1.out)); replace BK1 := ak (blk_below (bk_ BK1.out) hb); clear hb hbox hg; have hnb4 := NB210_1.out; have hnc4 := NB1_210.out; have hcz5_0 := bc_ BK210.out 0; have hcz5_1 := bc_ BK210.out 1; have hcz5_2 := bc_ BK210.out 2; have hfz5_0 := blk_frozen BK210.out 0; have hfz5_1 := blk_frozen BK210.out 1; have hfz5_2 := blk_frozen BK210.out 2; have hcz6_0 := bc_ BK1.out 0; have hfz6_0 := blk_frozen BK1.out 0))
  go_ret
  exact fin_ (bs1_ HB.out GE210.out)

/-! ### impl_Sym__with_impl_SymOf_1: function 192 -/
def impl_Sym__with_impl_SymOf_1.l0 : Nat → List (I_Sym) → Int → Int → ByteArray → Option (Int)
  | 0, _, _, _, _ => none
  | k + 1, x0, x7, x8, x3000 => if x8 < x7 then (if 0 ≤ x8 then (if x8 < (x0.length : Int) then ((impl_SymOf_1.f ((rd_I_Sym x0 x8).f0) ((rd_I_Sym x0 x8).f1) ((rd_I_Sym x0 x8).f2) x3000).bind fun t212 => (if t212 = true then (some x8) else (impl_Sym__with_impl_SymOf_1.l0 k x0 x7 (wrap64 (x8 + 1)) x3000))) else (none)) else (none)) else (some (-1))
def impl_Sym__with_impl_SymOf_1.f (k : Nat) (l0 : List (I_Sym))  (a2_0 : ByteArray) : Option (Int) := impl_Sym__with_impl_SymOf_1.l0 k l0 (l0.length : Int) 0 a2_0
theorem impl_Sym__with_impl_SymOf_1.mono_l : ∀ k, (∀ y0 y1 y2 y3, LeO (impl_Sym__with_impl_SymOf_1.l0 k y0 y1 y2 y3) (impl_Sym__with_impl_SymOf_1.l0 (k + 1) y0 y1 y2 y3))
  | 0 => fun _ _ _ _ r h => by simp [impl_Sym__with_impl_SymOf_1.l0] at h
  | k + 1 => by
    have ih0 := impl_Sym__with_impl_SymOf_1.mono_l k
    · intro y0 y1 y2 y3
      unfold impl_Sym__with_impl_SymOf_1.l0
      repeat' first | (with_reducible first | exact ih0 _ _ _ _ | exact LeO.refl _ | exact LeO.none _ | refine LeO.ite ?_ ?_ | refine LeO.bind ?_ (fun _ => ?_)) | exact ih0 _ _ _ _ | exact LeO.none _ | refine LeO.ite ?_ ?_ | refine LeO.bind ?_ (fun _ => ?_)
theorem impl_Sym__with_impl_SymOf_1.mono : ∀ a0 a1 k, LeO (impl_Sym__with_impl_SymOf_1.f k a0 a1) (impl_Sym__with_impl_SymOf_1.f (k + 1) a0 a1) := by
  intro a0 a1 k; have ih0 := impl_Sym__with_impl_SymOf_1.mono_l k
  unfold impl_Sym__with_impl_SymOf_1.f
  repeat' first
      | (with_reducible exact ih0 _ _ _ _)
      | (with_reducible exact LeO.refl _)
      | (with_reducible exact LeO.none _)
      | (with_reducible refine LeO.ite ?_ ?_)
      | (with_reducible refine LeO.bind ?_ (fun _ => ?_))
      | exact ih0 _ _ _ _
      | exact LeO.none _
      | refine LeO.ite ?_ ?_
      | refine LeO.bind ?_ (fun _ => ?_)
set_option maxHeartbeats 8000000 in
set_option maxRecDepth 100000 in
theorem impl_Sym__with_impl_SymOf_1.calls (k : Nat) (A0 : Option Addr) (c0 : Nat) (l0 : List (I_Sym))  (G2 : Nat) (a2_0 : ByteArray) (r : Int) (w : World) (hr0 : Kd.C k99 w A0 l0.length l0) (hc0 : l0.length ≤ c0) (hG2 : w.heap[G2]? = some (.cells #[.string a2_0] 9 (0, 0))) (h : impl_Sym__with_impl_SymOf_1.f k l0 a2_0 = some r) :
    Calls Try.prog 171 #[.slice A0 l0.length c0, .func (.func 172) #[] #[.pointer (some ⟨G2, 0, none⟩)]] w fun e w' => e = .returned (.int .i64 r) ∧ Below w.heap.size w w' := by
  have hu99 := Try.underlying99; have HR0 := ak hr0; have HC0 := ak hc0; clear hr0 hc0; have BK2 := ak hG2; clear hG2; have HB := ak (Below.refl w.heap.size w); have H : (impl_Sym__with_impl_SymOf_1.l0 k l0 (l0.length : Int) 0 a2_0) = some r := h; clear h; have H' := ak H; clear H
  go_enter Try.func171, Try.ntmps171
  go_wp2
  go_loopg [8] k (fun kq v8 w' => ∃ (x8_1 : Int), v8 = .int .i64 x8_1 ∧ Aside0 (impl_Sym__with_impl_SymOf_1.l0 kq l0 (l0.length : Int) x8_1 a2_0 = some r) ∧ Aside0 (kq ≤ k) ∧ Aside0 (w'.heap[G2]? = some (.cells #[.string a2_0] 9 (0, 0))) ∧ Aside0 (Below w.heap.size w w'))
  case atStart => exact ⟨(0), (by first | rfl | (simp; done) | (simp [*]; done)), H', ⟨Nat.le_refl _⟩, ⟨bk_ BK2.out⟩, ⟨bl_ HB.out⟩⟩
  case round =>
    clear H'; (try clear c1); (try clear p2); obtain ⟨x8_1, rfl, HA, HK1, BK2, HB⟩ := hrel
    cases gk with
    | zero => exact absurd HA.out (by simp [impl_Sym__with_impl_SymOf_1.l0])
    | succ k1 =>
      have H := HA.out; clear HA
      simp only [impl_Sym__with_impl_SymOf_1.l0] at H
      by_cases c4 : x8_1 < (l0.length : Int)
      · rw [if_pos c4] at H; have c4b0 := decide_eq_true c4; clear c4
        by_cases c5 : 0 ≤ x8_1
        · rw [if_pos c5] at H; have c5b0 := decide_eq_true c5; clear c5
          by_cases c6 : x8_1 < (l0.length : Int)
          · rw [if_pos c6] at H; have c6b0 := decide_eq_true c6; clear c6; replace H := Option.bind_eq_some_iff.mp H; obtain ⟨t212, A70, H⟩ := H; have A7 := ak A70; clear A70
            by_cases c8 : t212 = true
            · subst c8; rw [if_pos rfl] at H; obtain rfl := Option.some.inj H; have p211 : 0 ≤ (x8_1 : Int) := as_; have q211 : x8_1 < (l0.length : Int) := as_; obtain ⟨ad211, e211, hx211_0, hx211_1, hx211_2⟩ := at_T99 HR0.out x8_1 p211 q211
              cases e211
              replace hx211_0 := hbc_ HB.out hx211_0; replace hx211_1 := hbc_ HB.out hx211_1; replace hx211_2 := hbc_ HB.out hx211_2; replace p211 := eq_true p211; replace q211 := eq_true q211
              go_wp2_with (first | ((with_reducible refine Go.Proofs.Ytcboagkbcoihjaa.XOpens.gate_calleeV (t := 11) rfl ?_); refine Go.Proofs.Ytcboagkbcoihjaa.XOpens.goesV_ (some 16) rfl rfl Try.func172 (by kernel_rfl) rfl #[.agg #[.string ((rd_I_Sym l0 x8_1).f0), .int .i64 ((rd_I_Sym l0 x8_1).f1), .bool ((rd_I_Sym l0 x8_1).f2)], .pointer (some ⟨G2, 0, none⟩)] rfl rfl (by (try simp only [List.map_toArray, List.map_cons, List.map_nil]); first | done | rfl | (simp only [List.length_drop, List.length_take]; rfl)) ?_; (with_reducible refine (impl_SymOf_1.calls ((rd_I_Sym l0 x8_1).f0) ((rd_I_Sym l0 x8_1).f1) ((rd_I_Sym l0 x8_1).f2) G2 a2_0 true _ ?side1 A7.out).mono ?_); (case side1 => exact (bk_ BK2.out)); rintro e w9 ⟨rfl, hb⟩; refine ⟨_, rfl, ?_⟩; replace BK2 := ak (blk_below (bk_ BK2.out) hb); replace HB := ak (below_step (bl_ HB.out) hb); (try clear hb); (try clear hb2); (try clear hk); (try clear hi)))
              go_ret
              exact fin_ (bl_ HB.out)
            replace c8 := Bool.eq_false_iff.mpr c8; subst c8; rw [if_neg (show ¬ (false = true) by decide)] at H; have H' := ak H; clear H; have p211 : 0 ≤ (x8_1 : Int) := as_; have q211 : x8_1 < (l0.length : Int) := as_; obtain ⟨ad211, e211, hx211_0, hx211_1, hx211_2⟩ := at_T99 HR0.out x8_1 p211 q211
            cases e211
            replace hx211_0 := hbc_ HB.out hx211_0; replace hx211_1 := hbc_ HB.out hx211_1; replace hx211_2 := hbc_ HB.out hx211_2; replace p211 := eq_true p211; replace q211 := eq_true q211
            go_wp2_with (first | ((with_reducible refine Go.Proofs.Ytcboagkbcoihjaa.XOpens.gate_calleeV (t := 11) rfl ?_); refine Go.Proofs.Ytcboagkbcoihjaa.XOpens.goesV_ (some 16) rfl rfl Try.func172 (by kernel_rfl) rfl #[.agg #[.string ((rd_I_Sym l0 x8_1).f0), .int .i64 ((rd_I_Sym l0 x8_1).f1), .bool ((rd_I_Sym l0 x8_1).f2)], .pointer (some ⟨G2, 0, none⟩)] rfl rfl (by (try simp only [List.map_toArray, List.map_cons, List.map_nil]); first | done | rfl | (simp only [List.length_drop, List.length_take]; rfl)) ?_; (with_reducible refine (impl_SymOf_1.calls ((rd_I_Sym l0 x8_1).f0) ((rd_I_Sym l0 x8_1).f1) ((rd_I_Sym l0 x8_1).f2) G2 a2_0 false _ ?side1 A7.out).mono ?_); (case side1 => exact (bk_ BK2.out)); rintro e w10 ⟨rfl, hb⟩; refine ⟨_, rfl, ?_⟩; replace BK2 := ak (blk_below (bk_ BK2.out) hb); replace HB := ak (below_step (bl_ HB.out) hb); (try clear hb); (try clear hb2); (try clear hk); (try clear hi)))
            go_roundg k1
            case measure => have := HK1.out; omega
            case rel => exact ⟨(wrap64 (x8_1 + 1)), (by first | rfl | (simp; done) | (simp [*]; done)), H', ⟨by have := HK1.out; omega⟩, ⟨bk_ BK2.out⟩, ⟨bl_ HB.out⟩⟩
          rw [if_neg c6] at H; exact absurd H (by simp)
        rw [if_neg c5] at H; exact absurd H (by simp)
      rw [if_neg c4] at H; have c4b0 := decide_eq_false c4; clear c4; obtain rfl := Option.some.inj H
      go_wp2
      go_ret
      exact fin_ (bl_ HB.out)

/-! ### impl_SymOf: function 145 -/
def impl_SymOf.f (k : Nat) (l0 : List (I_Sym)) (a1 : ByteArray) : Option (Int) := (impl_Sym__with_impl_SymOf_1.f k l0 a1).bind fun t214 => (some t214)
theorem impl_SymOf.mono : ∀ a0 a1 k, LeO (impl_SymOf.f k a0 a1) (impl_SymOf.f (k + 1) a0 a1) := by
  intro a0 a1 k
  unfold impl_SymOf.f
  repeat' first
      | (with_reducible exact impl_Sym__with_impl_SymOf_1.mono _ _ _)
      | (with_reducible exact LeO.refl _)
      | (with_reducible exact LeO.none _)
      | (with_reducible refine LeO.ite ?_ ?_)
      | (with_reducible refine LeO.bind ?_ (fun _ => ?_))
      | exact impl_Sym__with_impl_SymOf_1.mono _ _ _
      | exact LeO.none _
      | refine LeO.ite ?_ ?_
      | refine LeO.bind ?_ (fun _ => ?_)
set_option maxHeartbeats 8000000 in
set_option maxRecDepth 100000 in
theorem impl_SymOf.calls (k : Nat) (A0 : Option Addr) (c0 : Nat) (l0 : List (I_Sym)) (a1 : ByteArray) (r : Int) (w : World) (hr0 : Kd.C k99 w A0 l0.length l0) (hc0 : l0.length ≤ c0) (h : impl_SymOf.f k l0 a1 = some r) :
    Calls Try.prog 145 #[.slice A0 l0.length c0, .string a1] w fun e w' => e = .returned (.int .i64 r) ∧ Below w.heap.size w w' := by
  have HR0 := ak hr0; have HC0 := ak hc0; clear hr0 hc0; have HB := ak (Below.refl w.heap.size w); have H : ((impl_Sym__with_impl_SymOf_1.f k l0 a1).bind fun t214 => (some t214)) = some r := h; clear h; replace H := Option.bind_eq_some_iff.mp H; obtain ⟨t214, A30, H⟩ := H; have A3 := ak A30; clear A30; obtain rfl := Option.some.inj H
  go_enter Try.func145, Try.ntmps145
  go_wp2_with (first | ((with_reducible refine gate_dst (N := 3) rfl ?_); refine bxe_ (N := 3) (cs := #[.string a1]) (t := 9) ?_; intro gb213 hg w4 hbox hb; have BK213 := ak (hbox); have GW213 := ak (lg_ hg (bl_ HB.out)); have GE213 := ak (lg_ hg (bl_ HB.out)); replace HB := ak (below_step (bl_ HB.out) hb); clear hb hbox hg) | ((with_reducible refine gate_callee (f := 171) rfl ?_); refine goesM_ (some 7) rfl rfl Try.func171 (by kernel_rfl) rfl #[.slice A0 l0.length c0, .func (.func 172) #[] #[.pointer (some ⟨gb213, 0, none⟩)]] rfl ?_; (with_reducible refine (impl_Sym__with_impl_SymOf_1.calls k _ _ l0  gb213 a1 t214 _ ?side1 ?side2 ?side3 A3.out).mono ?_); (case side1 => exact cb_ HR0.out HB.out); (case side2 => exact HC0.out); (case side3 => exact (bk_ BK213.out)); rintro e w5 ⟨rfl, hb⟩; refine ⟨_, rfl, ?_⟩; replace BK213 := ak (blk_below (bk_ BK213.out) hb); replace HB := ak (below_step (bs1_ HB.out GE213.out) hb); (try clear hb); (try clear hb2); (try clear hk); (try clear hi)))
  go_ret
  exact fin_ (bs1_ HB.out GE213.out)

end Go.Proofs.Ytcboagkbcoihjaa.XSubworld
