-- printed by a program of this session (xprint, turned from the kit's print) for this claim
import Derived.Test.YtcboagkbcoihjaaXRenamedx0
import Derived.Test.YtcboagkbcoihjaaXRenamedx5
namespace Go.Proofs.Ytcboagkbcoihjaa.XRenamed
open Go.RowKit Go.Proofs.Ytcboagkbcoihjaa.XOpens Go.Proofs.YtcboagkbcoihjaaW.PrintWords Go.Proofs.YtcboagkbcoihjaaW.PrintLast Go.Proofs.YtcboagkbcoihjaaW.PrintMore
attribute [local go_sem] max2_int min2_int max_two min_two max_three min_three max_four min_four   -- for this text's walks alone
set_option linter.unusedVariables false
set_option linter.unusedSimpArgs false

/-! ### spec_Renamed: function 54 -/
mutual
def spec_Renamed.j0 : Nat → List (I_Sym) → List Int → Bool → Int → List (List Int) → Option (Int × (List (List Int)) × Bool)
  | 0, _, _, _, _, _ => none
  | k + 1, x0, x2, x26, x208000, x208001 => if x26 = true then (some (0, ([] : List (List Int)), false)) else (spec_Renamed.l0 k x0 x2 0 x208000 x208001 x208000 ([] : List (List Int)))
def spec_Renamed.l0 : Nat → List (I_Sym) → List Int → Int → Int → List (List Int) → Int → List (List Int) → Option (Int × (List (List Int)) × Bool)
  | 0, _, _, _, _, _, _, _ => none
  | k + 1, x0, x2, x9, x208000, x208001, x212000, x212001 => if x9 < (x0.length : Int) then (if 0 ≤ x9 then (if x9 < (x208001.length : Int) then (if 0 ≤ ((rd_Ls_i64 x208001 x9).length : Int) then (if (((rd_Ls_i64 x208001 x9).length : Int) : Int).toNat ≤ 35184372088832 then (spec_Renamed.l1 k x0 x2 x9 (List.replicate (((rd_Ls_i64 x208001 x9).length : Int) : Int).toNat 0) 0 x208000 x208001 x212000 x212001) else (none)) else (none)) else (none)) else (none)) else (some (x212000, x212001, true))
def spec_Renamed.l1 : Nat → List (I_Sym) → List Int → Int → List Int → Int → Int → List (List Int) → Int → List (List Int) → Option (Int × (List (List Int)) × Bool)
  | 0, _, _, _, _, _, _, _, _, _ => none
  | k + 1, x0, x2, x9, x10, x11, x208000, x208001, x212000, x212001 => if x11 < (x10.length : Int) then (spec_Renamed.l2 k x0 x2 x9 x10 x11 0 x11 1 0 x208000 x208001 x212000 x212001) else (if x212001.length < 5864062014805 then (spec_Renamed.l0 k x0 x2 (wrap64 (x9 + 1)) x208000 x208001 x212000 (x212001 ++ [x10])) else (none))
def spec_Renamed.l2 : Nat → List (I_Sym) → List Int → Int → List Int → Int → Int → Int → Int → Int → Int → List (List Int) → Int → List (List Int) → Option (Int × (List (List Int)) × Bool)
  | 0, _, _, _, _, _, _, _, _, _, _, _, _, _ => none
  | k + 1, x0, x2, x9, x10, x11, x12, x13, x14, x15, x208000, x208001, x212000, x212001 => if 0 ≤ x9 then (if x9 < (x0.length : Int) then (if x15 < ((rd_I_Sym x0 x9).f1) then (if x208000 = 0 then (none) else (if 0 ≤ (Int.tmod x13 x208000) then (if (Int.tmod x13 x208000) < (x2.length : Int) then (spec_Renamed.l2 k x0 x2 x9 x10 x11 (wrap64 (x12 + (wrap64 (x14 * (rd x2 (Int.tmod x13 x208000)))))) (wrap64 (Int.tdiv x13 x208000)) (wrap64 (x14 * x208000)) (wrap64 (x15 + 1)) x208000 x208001 x212000 x212001) else (none)) else (none))) else (if x9 < (x208001.length : Int) then (if 0 ≤ x11 then (if x11 < ((rd_Ls_i64 x208001 x9).length : Int) then (if 0 ≤ (rd (rd_Ls_i64 x208001 x9) x11) then (if (rd (rd_Ls_i64 x208001 x9) x11) < (x2.length : Int) then (if 0 ≤ x12 then (if x12 < (x10.length : Int) then (spec_Renamed.l1 k x0 x2 x9 (x10.set (x12 : Int).toNat (rd x2 (rd (rd_Ls_i64 x208001 x9) x11))) (wrap64 (x11 + 1)) x208000 x208001 x212000 x212001) else (none)) else (none)) else (none)) else (none)) else (none)) else (none)) else (none))) else (none)) else (none)
end
def spec_Renamed.f (k : Nat) (l0 : List (I_Sym)) (a1_0 : Int) (l1_1 : List (List Int)) (l2 : List Int) : Option (Int × (List (List Int)) × Bool) := (spec_WorldOk.f k l0 a1_0 l1_1).bind fun t209 => (if t209 = true then ((spec_l25Once.f k l2 a1_0).bind fun t210 => (spec_Renamed.j0 k l0 l2 (!t210) a1_0 l1_1)) else (spec_Renamed.j0 k l0 l2 true a1_0 l1_1))
theorem spec_Renamed.mono_l : ∀ k, (∀ y0 y1 y2 y3 y4, LeO (spec_Renamed.j0 k y0 y1 y2 y3 y4) (spec_Renamed.j0 (k + 1) y0 y1 y2 y3 y4)) ∧ (∀ y0 y1 y2 y3 y4 y5 y6, LeO (spec_Renamed.l0 k y0 y1 y2 y3 y4 y5 y6) (spec_Renamed.l0 (k + 1) y0 y1 y2 y3 y4 y5 y6)) ∧ (∀ y0 y1 y2 y3 y4 y5 y6 y7 y8, LeO (spec_Renamed.l1 k y0 y1 y2 y3 y4 y5 y6 y7 y8) (spec_Renamed.l1 (k + 1) y0 y1 y2 y3 y4 y5 y6 y7 y8)) ∧ (∀ y0 y1 y2 y3 y4 y5 y6 y7 y8 y9 y10 y11 y12, LeO (spec_Renamed.l2 k y0 y1 y2 y3 y4 y5 y6 y7 y8 y9 y10 y11 y12) (spec_Renamed.l2 (k + 1) y0 y1 y2 y3 y4 y5 y6 y7 y8 y9 y10 y11 y12))
  | 0 => ⟨fun _ _ _ _ _ r h => by simp [spec_Renamed.j0] at h, fun _ _ _ _ _ _ _ r h => by simp [spec_Renamed.l0] at h, fun _ _ _ _ _ _ _ _ _ r h => by simp [spec_Renamed.l1] at h, fun _ _ _ _ _ _ _ _ _ _ _ _ _ r h => by simp [spec_Renamed.l2] at h⟩
  | k + 1 => by
    obtain ⟨ih0, ih1, ih2, ih3⟩ := spec_Renamed.mono_l k; refine ⟨?_, ?_, ?_, ?_⟩
    · intro y0 y1 y2 y3 y4
      unfold spec_Renamed.j0
      repeat' first | (with_reducible first | exact ih0 _ _ _ _ _ | exact ih1 _ _ _ _ _ _ _ | exact ih2 _ _ _ _ _ _ _ _ _ | exact ih3 _ _ _ _ _ _ _ _ _ _ _ _ _ | exact spec_WorldOk.mono _ _ _ _ | exact spec_l25Once.mono _ _ _ | exact LeO.refl _ | exact LeO.none _ | refine LeO.ite ?_ ?_ | refine LeO.bind ?_ (fun _ => ?_)) | exact ih0 _ _ _ _ _ | exact ih1 _ _ _ _ _ _ _ | exact ih2 _ _ _ _ _ _ _ _ _ | exact ih3 _ _ _ _ _ _ _ _ _ _ _ _ _ | exact spec_WorldOk.mono _ _ _ _ | exact spec_l25Once.mono _ _ _ | exact LeO.none _ | refine LeO.ite ?_ ?_ | refine LeO.bind ?_ (fun _ => ?_)
    · intro y0 y1 y2 y3 y4 y5 y6
      unfold spec_Renamed.l0
      repeat' first | (with_reducible first | exact ih0 _ _ _ _ _ | exact ih1 _ _ _ _ _ _ _ | exact ih2 _ _ _ _ _ _ _ _ _ | exact ih3 _ _ _ _ _ _ _ _ _ _ _ _ _ | exact spec_WorldOk.mono _ _ _ _ | exact spec_l25Once.mono _ _ _ | exact LeO.refl _ | exact LeO.none _ | refine LeO.ite ?_ ?_ | refine LeO.bind ?_ (fun _ => ?_)) | exact ih0 _ _ _ _ _ | exact ih1 _ _ _ _ _ _ _ | exact ih2 _ _ _ _ _ _ _ _ _ | exact ih3 _ _ _ _ _ _ _ _ _ _ _ _ _ | exact spec_WorldOk.mono _ _ _ _ | exact spec_l25Once.mono _ _ _ | exact LeO.none _ | refine LeO.ite ?_ ?_ | refine LeO.bind ?_ (fun _ => ?_)
    · intro y0 y1 y2 y3 y4 y5 y6 y7 y8
      unfold spec_Renamed.l1
      repeat' first | (with_reducible first | exact ih0 _ _ _ _ _ | exact ih1 _ _ _ _ _ _ _ | exact ih2 _ _ _ _ _ _ _ _ _ | exact ih3 _ _ _ _ _ _ _ _ _ _ _ _ _ | exact spec_WorldOk.mono _ _ _ _ | exact spec_l25Once.mono _ _ _ | exact LeO.refl _ | exact LeO.none _ | refine LeO.ite ?_ ?_ | refine LeO.bind ?_ (fun _ => ?_)) | exact ih0 _ _ _ _ _ | exact ih1 _ _ _ _ _ _ _ | exact ih2 _ _ _ _ _ _ _ _ _ | exact ih3 _ _ _ _ _ _ _ _ _ _ _ _ _ | exact spec_WorldOk.mono _ _ _ _ | exact spec_l25Once.mono _ _ _ | exact LeO.none _ | refine LeO.ite ?_ ?_ | refine LeO.bind ?_ (fun _ => ?_)
    · intro y0 y1 y2 y3 y4 y5 y6 y7 y8 y9 y10 y11 y12
      unfold spec_Renamed.l2
      repeat' first | (with_reducible first | exact ih0 _ _ _ _ _ | exact ih1 _ _ _ _ _ _ _ | exact ih2 _ _ _ _ _ _ _ _ _ | exact ih3 _ _ _ _ _ _ _ _ _ _ _ _ _ | exact spec_WorldOk.mono _ _ _ _ | exact spec_l25Once.mono _ _ _ | exact LeO.refl _ | exact LeO.none _ | refine LeO.ite ?_ ?_ | refine LeO.bind ?_ (fun _ => ?_)) | exact ih0 _ _ _ _ _ | exact ih1 _ _ _ _ _ _ _ | exact ih2 _ _ _ _ _ _ _ _ _ | exact ih3 _ _ _ _ _ _ _ _ _ _ _ _ _ | exact spec_WorldOk.mono _ _ _ _ | exact spec_l25Once.mono _ _ _ | exact LeO.none _ | refine LeO.ite ?_ ?_ | refine LeO.bind ?_ (fun _ => ?_)
theorem spec_Renamed.mono : ∀ a0 a1 a2 a3 k, LeO (spec_Renamed.f k a0 a1 a2 a3) (spec_Renamed.f (k + 1) a0 a1 a2 a3) := by
  intro a0 a1 a2 a3 k; obtain ⟨ih0, ih1, ih2, ih3⟩ := spec_Renamed.mono_l k
  unfold spec_Renamed.f
  repeat' first
      | (with_reducible exact ih0 _ _ _ _ _)
      | (with_reducible exact ih1 _ _ _ _ _ _ _)
      | (with_reducible exact ih2 _ _ _ _ _ _ _ _ _)
      | (with_reducible exact ih3 _ _ _ _ _ _ _ _ _ _ _ _ _)
      | (with_reducible exact spec_WorldOk.mono _ _ _ _)
      | (with_reducible exact spec_l25Once.mono _ _ _)
      | (with_reducible exact LeO.refl _)
      | (with_reducible exact LeO.none _)
      | (with_reducible refine LeO.ite ?_ ?_)
      | (with_reducible refine LeO.bind ?_ (fun _ => ?_))
      | exact ih0 _ _ _ _ _
      | exact ih1 _ _ _ _ _ _ _
      | exact ih2 _ _ _ _ _ _ _ _ _
      | exact ih3 _ _ _ _ _ _ _ _ _ _ _ _ _
      | exact spec_WorldOk.mono _ _ _ _
      | exact spec_l25Once.mono _ _ _
      | exact LeO.none _
      | refine LeO.ite ?_ ?_
      | refine LeO.bind ?_ (fun _ => ?_)
set_option maxHeartbeats 8000000 in
set_option maxRecDepth 100000 in
theorem spec_Renamed.calls (k : Nat) (A0 : Option Addr) (c0 : Nat) (l0 : List (I_Sym)) (a1_0 : Int) (A1_1 : Option Addr) (c1_1 : Nat) (l1_1 : List (List Int)) (A2 : Option Addr) (c2 : Nat) (l2 : List Int) (r1 : Int) (r2 : List (List Int)) (r3 : Bool) (w : World) (hr0 : Kd.C k99 w A0 l0.length l0) (hc0 : l0.length ≤ c0) (hr1_1 : Kd.C (Kd.slice 3 (Kd.int .i64)) w A1_1 l1_1.length l1_1) (hc1_1 : l1_1.length ≤ c1_1) (hr2 : Kd.C (Kd.int .i64) w A2 l2.length l2) (hc2 : l2.length ≤ c2) (h : spec_Renamed.f k l0 a1_0 l1_1 l2 = some (r1, r2, r3)) :
    Calls Try.prog 54 #[.slice A0 l0.length c0, .agg #[.int .i64 a1_0, .slice A1_1 l1_1.length c1_1], .slice A2 l2.length c2] w fun e w' => ∃ v1_ : Value, e = .returned (.tuple #[.agg #[.int .i64 r1, v1_], .bool r3]) ∧ Kd.S (Kd.slice 3 (Kd.int .i64)) 75 w' w.heap.size (fun _ => True) v1_ r2 ∧ Below w.heap.size w w' := by
  have hu51 := Try.underlying51; have HR0 := ak hr0; have HC0 := ak hc0; clear hr0 hc0; have HR1_1 := ak hr1_1; have HC1_1 := ak hc1_1; clear hr1_1 hc1_1; have HR2 := ak hr2; have HC2 := ak hc2; clear hr2 hc2; have HB := ak (Below.refl w.heap.size w); have H : ((spec_WorldOk.f k l0 a1_0 l1_1).bind fun t209 => (if t209 = true then ((spec_l25Once.f k l2 a1_0).bind fun t210 => (spec_Renamed.j0 k l0 l2 (!t210) a1_0 l1_1)) else (spec_Renamed.j0 k l0 l2 true a1_0 l1_1))) = some (r1, r2, r3) := h; clear h; have HC4 := ak H; clear H
  go_enter Try.func54, Try.ntmps54
  go_upto_region 1 with (first | ((with_reducible refine gate_dst (N := 4) rfl ?_); refine bxe_ (N := 4) (cs := #[.int .i64 a1_0, .slice A1_1 l1_1.length c1_1]) (t := 51) ?_; intro gb207 hg w5 hbox hb; have BK207 := ak (hbox); have GW207 := ak (lg_ hg (bl_ HB.out)); have GE207 := ak (lg_ hg (bl_ HB.out)); replace HB := ak (below_step (bl_ HB.out) hb); clear hb hbox hg) | ((with_reducible refine gate_dst (N := 6) rfl ?_); refine bxe_ (N := 6) (cs := #[.int .i64 0, .slice none 0 0]) (t := 51) ?_; intro gb208 hg w6 hbox hb; have BK208 := ak (hbox); have GW208 := ak (lg_ hg (bs1_ HB.out GE207.out)); have GE208 := ak (lg_ hg (bs1_ HB.out GE207.out)); replace HB := ak (below_step (bs1_ HB.out GE207.out) hb); have NB207_208 := ak (nl_ hg (bk_ BK207.out)); have NB208_207 := ak (ng_ hg (bk_ BK207.out)); replace BK207 := ak (blk_below (bk_ BK207.out) hb); clear hb hbox hg))
  (try simp only [Act.put, List.setIfInBounds_toArray, List.set_cons_zero, List.set_cons_succ])
  go_cut [26] (fun v26 wc => ∃ (kq : Nat) (x26_3 : Bool), v26 = .bool x26_3 ∧ Aside0 (spec_Renamed.j0 kq l0 l2 x26_3 a1_0 l1_1 = some (r1, r2, r3)) ∧ Aside0 (kq ≤ k) ∧ Aside0 (wc.heap[gb207]? = some (.cells #[.int .i64 a1_0, (.slice A1_1 l1_1.length c1_1)] 51 (0, 0))) ∧ Aside0 (wc.heap[gb208]? = some (.cells #[.int .i64 0, (.slice none 0 0)] 51 (0, 0))) ∧ Aside0 (Below w.heap.size w wc))
  case first =>
    have H := HC4.out; clear HC4; replace H := Option.bind_eq_some_iff.mp H; obtain ⟨t209, A70, H⟩ := H; have A7 := ak A70; clear A70
    by_cases c8 : t209 = true
    · subst c8; rw [if_pos rfl] at H; replace H := Option.bind_eq_some_iff.mp H; obtain ⟨t210, A90, H⟩ := H; have A9 := ak A90; clear A90; have H' := ak H; clear H; have hnb10 := NB207_208.out; have hnc10 := NB208_207.out; have hcz11_0 := bc_ BK207.out 0; have hcz11_1 := bc_ BK207.out 1; have hfz11_0 := blk_frozen BK207.out 0; have hfz11_1 := blk_frozen BK207.out 1
      go_wp2_with (first | ((with_reducible refine gate_callee (f := 31) rfl ?_); refine goesM_ (some 18) rfl rfl Try.func31 (by kernel_rfl) rfl #[.slice A0 l0.length c0, .agg #[.int .i64 a1_0, .slice A1_1 l1_1.length c1_1]] rfl ?_; (with_reducible refine (spec_WorldOk.calls k _ _ l0 a1_0 _ _ l1_1 true _ ?side1 ?side2 ?side3 ?side4 A7.out).mono ?_); (case side1 => exact cb_ HR0.out HB.out); (case side2 => exact HC0.out); (case side3 => exact cb_ HR1_1.out HB.out); (case side4 => exact HC1_1.out); rintro e w12 ⟨rfl, hb⟩; refine ⟨_, rfl, ?_⟩; replace BK207 := ak (blk_below (bk_ BK207.out) hb); replace BK208 := ak (blk_below (bk_ BK208.out) hb); replace HB := ak (below_step (bs2_ HB.out GE207.out GE208.out) hb); (try clear hb); (try clear hb2); (try clear hk); (try clear hi); have hcz13_0 := bc_ BK207.out 0; have hcz13_1 := bc_ BK207.out 1; have hfz13_0 := blk_frozen BK207.out 0; have hfz13_1 := blk_frozen BK207.out 1) | (go_at_call 116; (with_reducible refine (spec_l25Once.calls k _ _ l2 a1_0 t210 _ ?side1 ?side2 A9.out).mono ?_); (case side1 => exact cb_ HR2.out HB.out); (case side2 => exact HC2.out); rintro e w14 ⟨rfl, hb⟩; replace BK207 := ak (blk_below (bk_ BK207.out) hb); replace BK208 := ak (blk_below (bk_ BK208.out) hb); replace HB := ak (below_step (bs2_ HB.out GE207.out GE208.out) hb); (try clear hb); (try clear hb2); (try clear hk); (try clear hi)))
      go_meet
      case rel => exact ⟨_, (!t210), (by first | rfl | (simp; done) | (simp [*]; done)), H', ⟨by first | omega | exact Nat.le_refl _⟩, ⟨bk_ BK207.out⟩, ⟨bk_ BK208.out⟩, ⟨bs2_ HB.out GE207.out GE208.out⟩⟩
    replace c8 := Bool.eq_false_iff.mpr c8; subst c8; rw [if_neg (show ¬ (false = true) by decide)] at H; have H' := ak H; clear H; have hnb15 := NB207_208.out; have hnc15 := NB208_207.out; have hcz16_0 := bc_ BK207.out 0; have hcz16_1 := bc_ BK207.out 1; have hfz16_0 := blk_frozen BK207.out 0; have hfz16_1 := blk_frozen BK207.out 1
    go_wp2_with (first | ((with_reducible refine gate_callee (f := 31) rfl ?_); refine goesM_ (some 18) rfl rfl Try.func31 (by kernel_rfl) rfl #[.slice A0 l0.length c0, .agg #[.int .i64 a1_0, .slice A1_1 l1_1.length c1_1]] rfl ?_; (with_reducible refine (spec_WorldOk.calls k _ _ l0 a1_0 _ _ l1_1 false _ ?side1 ?side2 ?side3 ?side4 A7.out).mono ?_); (case side1 => exact cb_ HR0.out HB.out); (case side2 => exact HC0.out); (case side3 => exact cb_ HR1_1.out HB.out); (case side4 => exact HC1_1.out); rintro e w17 ⟨rfl, hb⟩; refine ⟨_, rfl, ?_⟩; replace BK207 := ak (blk_below (bk_ BK207.out) hb); replace BK208 := ak (blk_below (bk_ BK208.out) hb); replace HB := ak (below_step (bs2_ HB.out GE207.out GE208.out) hb); (try clear hb); (try clear hb2); (try clear hk); (try clear hi)))
    go_meet
    case rel => exact ⟨_, (true), (by first | rfl | (simp; done) | (simp [*]; done)), H', ⟨by first | omega | exact Nat.le_refl _⟩, ⟨bk_ BK207.out⟩, ⟨bk_ BK208.out⟩, ⟨bs2_ HB.out GE207.out GE208.out⟩⟩
  case rest =>
    clear HC4; (try clear c1); (try clear c2); (try clear p2); (try clear c3); (try clear c5); (try clear c8); (try clear c10); (try clear c15); (try clear hcz11_0); (try clear hcz11_1); (try clear hcz13_0); (try clear hcz13_1); (try clear hcz16_0); (try clear hcz16_1); (try clear hfz11_0); (try clear hfz11_1); (try clear hfz13_0); (try clear hfz13_1); (try clear hfz16_0); (try clear hfz16_1); obtain ⟨kq, x26_3, rfl, HA, HJ3, BK207, BK208, HB⟩ := hcut
    cases kq with
    | zero => exact absurd HA.out (by simp [spec_Renamed.j0])
    | succ kj3 =>
      have H := HA.out; clear HA
      simp only [spec_Renamed.j0] at H
      by_cases c18 : x26_3 = true
      · subst c18; rw [if_pos rfl] at H
        simp only [Option.some.injEq, Prod.mk.injEq] at H
        obtain ⟨rfl, rfl, rfl⟩ := H; have hnb19 := NB208_207.out; have hnc19 := NB207_208.out; have hcz20_0 := bc_ BK208.out 0; have hcz20_1 := bc_ BK208.out 1; have hfz20_0 := blk_frozen BK208.out 0; have hfz20_1 := blk_frozen BK208.out 1
        go_wp2
        refine bodyPost_ret (results_ct rfl _ _ gb208 51 #[.int .i64 0, .slice none 0 0] (0, 0) _ rfl (by (with_reducible repeat (first | refine blk_drewN ?_ _ | refine blk_drew ?_ | refine blk_alloc ?_ _)); refine blk_put (cs := #[.int .i64 0, .slice none 0 0]) ?_ 1 _ rfl; (with_reducible repeat (first | refine blk_drewN ?_ _ | refine blk_drew ?_ | refine blk_alloc ?_ _)); refine blk_put (cs := #[.int .i64 0, .slice none 0 0]) ?_ 0 _ rfl; (with_reducible repeat (first | refine blk_drewN ?_ _ | refine blk_drew ?_ | refine blk_alloc ?_ _)); exact BK208.out) Try.underlying51 rfl (by kernel_rfl)) rfl ?_; exact ⟨_, by first | rfl | (simp [errW_none, errW_some] <;> rfl) | (simp [*, errW_none, errW_some] <;> rfl), by first | exact Kd.S_nil _ _ _ _ _ | exact Kd.N_nil _ _ _ _ _ | exact Kd.V_nil _ _ _ _ _ | exact Kd.Q_nil _ _ _ _ _ | exact Kd.R_nil _ _ _ _ _, by repeat (first | (with_reducible first | exact HB.out | apply below_alloc | apply pw_below_drewN | apply below_drew1 | refine below_set ?_ GE207.out | refine below_set ?_ GE208.out) | exact HB.out)⟩
      replace c18 := Bool.eq_false_iff.mpr c18; subst c18; rw [if_neg (show ¬ (false = true) by decide)] at H; have H' := ak H; clear H; have hnb21 := NB207_208.out; have hnc21 := NB208_207.out; have hcz22_0 := bc_ BK207.out 0; have hcz22_1 := bc_ BK207.out 1; have hfz22_0 := blk_frozen BK207.out 0; have hfz22_1 := blk_frozen BK207.out 1
      go_wp2_with (first | ((with_reducible refine gate_dst (N := 8) rfl ?_); refine bxe_ (N := 8) (cs := #[.int .i64 0, .slice none 0 0]) (t := 51) ?_; intro gb211 hg w23 hbox hb; have BK211 := ak (hbox); have GW211 := ak (lg_ hg (bs2_ HB.out GE207.out GE208.out)); have GE211 := ak (lg_ hg (bs2_ HB.out GE207.out GE208.out)); replace HB := ak (below_step (bs2_ HB.out GE207.out GE208.out) hb); have NB207_211 := ak (nl_ hg (bk_ BK207.out)); have NB211_207 := ak (ng_ hg (bk_ BK207.out)); replace BK207 := ak (blk_below (bk_ BK207.out) hb); have NB208_211 := ak (nl_ hg (bk_ BK208.out)); have NB211_208 := ak (ng_ hg (bk_ BK208.out)); replace BK208 := ak (blk_below (bk_ BK208.out) hb); clear hb hbox hg; have hnb24 := NB211_207.out; have hnc24 := NB207_211.out; have hnb25 := NB211_208.out; have hnc25 := NB208_211.out; have hcz26_0 := bc_ BK211.out 0; have hcz26_1 := bc_ BK211.out 1; have hfz26_0 := blk_frozen BK211.out 0; have hfz26_1 := blk_frozen BK211.out 1))
      go_loopg [9] kj3 (fun kq v9 w' => ∃ (x9_2 : Int) (x212001_2 : List (List Int)) (u212001 : Value), v9 = .int .i64 x9_2 ∧ Aside0 (spec_Renamed.l0 kq l0 l2 x9_2 a1_0 l1_1 a1_0 x212001_2 = some (r1, r2, r3)) ∧ Aside0 (kq ≤ kj3) ∧ Aside0 (Kd.S (Kd.slice 3 (Kd.int .i64)) 75 w' w.heap.size (fun _ => True) u212001 x212001_2) ∧ Aside0 (w'.heap[gb207]? = some (.cells #[.int .i64 a1_0, (.slice A1_1 l1_1.length c1_1)] 51 (0, 0))) ∧ Aside0 (w'.heap[gb208]? = some (.cells #[.int .i64 0, (.slice none 0 0)] 51 (0, 0))) ∧ Aside0 (w'.heap[gb211]? = some (.cells #[.int .i64 a1_0, u212001] 51 (0, 0))) ∧ Aside0 (Below w.heap.size w w'))
      case atStart => exact ⟨(0), (([] : List (List Int))), (.slice none 0 0), (by first | rfl | (simp; done) | (simp [*]; done)), H', ⟨Nat.le_refl _⟩, ⟨by first | exact Kd.S_nil _ _ _ _ _ | exact Kd.N_nil _ _ _ _ _ | exact Kd.V_nil _ _ _ _ _ | exact Kd.Q_nil _ _ _ _ _ | exact Kd.R_nil _ _ _ _ _⟩, ⟨by (with_reducible repeat (first | refine blk_drewN ?_ _ | refine blk_drew ?_ | refine blk_alloc ?_ _)); refine blk_far ?_ NB207_211.out _; (with_reducible repeat (first | refine blk_drewN ?_ _ | refine blk_drew ?_ | refine blk_alloc ?_ _)); refine blk_far ?_ NB207_211.out _; (with_reducible repeat (first | refine blk_drewN ?_ _ | refine blk_drew ?_ | refine blk_alloc ?_ _)); exact BK207.out⟩, ⟨by (with_reducible repeat (first | refine blk_drewN ?_ _ | refine blk_drew ?_ | refine blk_alloc ?_ _)); refine blk_far ?_ NB208_211.out _; (with_reducible repeat (first | refine blk_drewN ?_ _ | refine blk_drew ?_ | refine blk_alloc ?_ _)); refine blk_far ?_ NB208_211.out _; (with_reducible repeat (first | refine blk_drewN ?_ _ | refine blk_drew ?_ | refine blk_alloc ?_ _)); exact BK208.out⟩, ⟨by (with_reducible repeat (first | refine blk_drewN ?_ _ | refine blk_drew ?_ | refine blk_alloc ?_ _)); refine blk_put (cs := #[.int .i64 a1_0, .slice none 0 0]) ?_ 1 _ rfl; (with_reducible repeat (first | refine blk_drewN ?_ _ | refine blk_drew ?_ | refine blk_alloc ?_ _)); refine blk_put (cs := #[.int .i64 0, .slice none 0 0]) ?_ 0 _ rfl; (with_reducible repeat (first | refine blk_drewN ?_ _ | refine blk_drew ?_ | refine blk_alloc ?_ _)); exact BK211.out⟩, ⟨bs3_ HB.out GE207.out GE208.out GE211.out⟩⟩
      case round =>
        clear H'; (try clear c1); (try clear c2); (try clear p2); (try clear c3); (try clear c5); (try clear c8); (try clear c10); (try clear c15); (try clear c18); (try clear c19); (try clear c21); (try clear c24); (try clear c25); (try clear hcz11_0); (try clear hcz11_1); (try clear hcz13_0); (try clear hcz13_1); (try clear hcz16_0); (try clear hcz16_1); (try clear hcz20_0); (try clear hcz20_1); (try clear hcz22_0); (try clear hcz22_1); (try clear hcz26_0); (try clear hcz26_1); (try clear hfz11_0); (try clear hfz11_1); (try clear hfz13_0); (try clear hfz13_1); (try clear hfz16_0); (try clear hfz16_1); (try clear hfz20_0); (try clear hfz20_1); (try clear hfz22_0); (try clear hfz22_1); (try clear hfz26_0); (try clear hfz26_1); (try clear p2); obtain ⟨x9_2, x212001_2, u212001, rfl, HA, HK2, HO_212001, BK207, BK208, BK211, HB⟩ := hrel
        cases gk with
        | zero => exact absurd HA.out (by simp [spec_Renamed.l0])
        | succ k2 =>
          have H := HA.out; clear HA
          simp only [spec_Renamed.l0] at H
          by_cases c27 : x9_2 < (l0.length : Int)
          · rw [if_pos c27] at H; have c27b0 := decide_eq_true c27; clear c27
            by_cases c28 : 0 ≤ x9_2
            · rw [if_pos c28] at H; have c28b0 := decide_eq_true c28; clear c28
              by_cases c29 : x9_2 < (l1_1.length : Int)
              · rw [if_pos c29] at H; have c29b0 := decide_eq_true c29; clear c29
                by_cases c30 : 0 ≤ ((rd_Ls_i64 l1_1 x9_2).length : Int)
                · rw [if_pos c30] at H; have c30b0 := eq_true c30; have c30b1 := decide_eq_true c30; clear c30
                  by_cases c31 : (((rd_Ls_i64 l1_1 x9_2).length : Int) : Int).toNat ≤ 35184372088832
                  · rw [if_pos c31] at H; have c31b0 := eq_true c31; have c31b1 := decide_eq_true c31; clear c31; obtain ⟨y213, hy213⟩ : ∃ y_ : List Int, y_ = (List.replicate (((rd_Ls_i64 l1_1 x9_2).length : Int) : Int).toNat 0) := ⟨_, rfl⟩; replace H : (spec_Renamed.l1 k2 l0 l2 x9_2 y213 0 a1_0 l1_1 a1_0 x212001_2) = some (r1, r2, r3) := by first | (rw [hy213]; with_reducible exact H) | (have H2_ := (Option.bind_some _ _).symm.trans H; rw [hy213]; with_reducible exact H2_) | (have H2_ := (Option.bind_some _ _).symm.trans H; with_reducible exact H2_) | with_reducible exact H | (rw [hy213]; exact H) | exact H
                    have Ny213 := ak hy213; clear hy213; have H' := ak H; clear H; have hnb32 := NB207_208.out; have hnc32 := NB208_207.out; have hnb33 := NB207_211.out; have hnc33 := NB211_207.out; have hcz34_0 := bc_ BK207.out 0; have hcz34_1 := bc_ BK207.out 1; have hfz34_0 := blk_frozen BK207.out 0; have hfz34_1 := blk_frozen BK207.out 1; have p212 : 0 ≤ (x9_2 : Int) := as_; have q212 : x9_2 < (l1_1.length : Int) := as_; obtain ⟨ad212, A212_0, c212_0, e212, hx212_0, hl212_0, hi212_0⟩ := at_L5 HR1_1.out x9_2 p212 q212
                    cases e212
                    replace hx212_0 := hbc_ HB.out hx212_0; have HR212_0 := ak hi212_0; have HC212_0 := ak hl212_0; clear hi212_0 hl212_0; replace p212 := eq_true p212; replace q212 := eq_true q212
                    go_wp2_with (first | ((with_reducible refine gate_dst (N := 43) rfl ?_); refine Kd.R_make (Kd.int .i64) _ 3 rfl (N := 43) rfl 75 _ _ rfl ((rd_Ls_i64 l1_1 x9_2).length : Int) rfl rfl Try.underlying75 (.int .i64 0) 8 info3 rfl (by decide) (by omega) 0 (ok := fun _ => True) (okp := fun _ => True) rfl (fun _ hk => hk) trivial (as_) (Nat.le_trans (Nat.mul_le_mul_right _ (as_ : ((rd_Ls_i64 l1_1 x9_2).length : Int).toNat ≤ 35184372088832)) (by omega)) (Below.refl _ _) (Nat.le_refl _) ?_; intro v214 w35 ho36 hb hg_ hnew_; clear hg_ hnew_; (first | rw [← Ny213.out] at ho36 | (simp only [Int.reduceToNat] at ho36; rw [← Ny213.out] at ho36)); replace HO_212001 := ak (Kd.S_elder' (sa_ HO_212001.out) (Kd.R_base ho36) hb); have HO215 := ak (Kd.R_lower ho36 (below_size (bs3_ HB.out GE207.out GE208.out GE211.out))); replace BK207 := ak (blk_below (bk_ BK207.out) hb); replace BK208 := ak (blk_below (bk_ BK208.out) hb); replace BK211 := ak (blk_below (bk_ BK211.out) hb); replace HB := ak (below_step (bs3_ HB.out GE207.out GE208.out GE211.out) hb); clear hb ho36))
                    go_loopg [11] k2 (fun kq v11 w' => ∃ (x10_3 : List Int) (x11_3 : Int), v11 = .int .i64 x11_3 ∧ Aside0 (spec_Renamed.l1 kq l0 l2 x9_2 x10_3 x11_3 a1_0 l1_1 a1_0 x212001_2 = some (r1, r2, r3)) ∧ Aside0 (kq ≤ k2) ∧ Aside0 (Kd.R (Kd.int .i64) 3 w' w.heap.size (fun _ => True) v214 x10_3) ∧ Aside0 (Kd.S (Kd.slice 3 (Kd.int .i64)) 75 w' w.heap.size (fun k_ => some k_ ≠ (v214 : Value).ownBlock) u212001 x212001_2) ∧ Aside0 (w'.heap[gb207]? = some (.cells #[.int .i64 a1_0, (.slice (some ad212) l1_1.length c1_1)] 51 (0, 0))) ∧ Aside0 (w'.heap[gb208]? = some (.cells #[.int .i64 0, (.slice none 0 0)] 51 (0, 0))) ∧ Aside0 (w'.heap[gb211]? = some (.cells #[.int .i64 a1_0, u212001] 51 (0, 0))) ∧ Aside0 (Below w.heap.size w w'))
                    case atStart => exact ⟨(y213), (0), (by first | rfl | (simp; done) | (simp [*]; done)), H', ⟨Nat.le_refl _⟩, ⟨by (with_reducible repeat (first | apply Kd.R_alloc | apply Kd.R_drewN | apply Kd.R_drew)); exact HO215.out⟩, ⟨by (with_reducible repeat (first | apply Kd.S_alloc | apply Kd.S_drewN | apply Kd.S_drew)); exact Kd.S_mono HO_212001.out (fun _ hk => hk.2)⟩, ⟨bk_ BK207.out⟩, ⟨bk_ BK208.out⟩, ⟨bk_ BK211.out⟩, ⟨bs3_ HB.out GE207.out GE208.out GE211.out⟩⟩
                    case round =>
                      clear H'; (try clear c1); (try clear c2); (try clear p2); (try clear q2); (try clear hx2); (try clear c3); (try clear c5); (try clear c8); (try clear c10); (try clear c15); (try clear c18); (try clear c19); (try clear c21); (try clear p21); (try clear q21); (try clear hx21); (try clear c24); (try clear c25); (try clear c27); (try clear c27b0); (try clear c28); (try clear c28b0); (try clear c29); (try clear c29b0); (try clear c30); (try clear c30b0); (try clear c30b1); (try clear c31); (try clear c31b0); (try clear c31b1); (try clear c32); (try clear c33); (try clear hcz11_0); (try clear hcz11_1); (try clear hcz13_0); (try clear hcz13_1); (try clear hcz16_0); (try clear hcz16_1); (try clear hcz20_0); (try clear hcz20_1); (try clear hcz22_0); (try clear hcz22_1); (try clear hcz26_0); (try clear hcz26_1); (try clear hcz34_0); (try clear hcz34_1); (try clear hfz11_0); (try clear hfz11_1); (try clear hfz13_0); (try clear hfz13_1); (try clear hfz16_0); (try clear hfz16_1); (try clear hfz20_0); (try clear hfz20_1); (try clear hfz22_0); (try clear hfz22_1); (try clear hfz26_0); (try clear hfz26_1); (try clear hfz34_0); (try clear hfz34_1); (try clear hx212_0); (try clear p2); (try clear p212); (try clear q212); obtain ⟨x10_3, x11_3, rfl, HA, HK3, HO_10, HO_212001, BK207, BK208, BK211, HB⟩ := hrel
                      cases gk with
                      | zero => exact absurd HA.out (by simp [spec_Renamed.l1])
                      | succ k3 =>
                        have H := HA.out; clear HA
                        simp only [spec_Renamed.l1] at H
                        by_cases c37 : x11_3 < (x10_3.length : Int)
                        · rw [if_pos c37] at H; have c37b0 := decide_eq_true c37; clear c37; have H' := ak H; clear H; obtain ⟨Ao38, co38, eo38⟩ := Kd.R_slice HO_10.out; subst eo38
                          go_wp2
                          go_loopg [12, 13, 14, 15] k3 (fun kq v12 v13 v14 v15 w' => ∃ (x12_4 : Int) (x13_4 : Int) (x14_4 : Int) (x15_4 : Int), v12 = .int .i64 x12_4 ∧ v13 = .int .i64 x13_4 ∧ v14 = .int .i64 x14_4 ∧ v15 = .int .i64 x15_4 ∧ Aside0 (spec_Renamed.l2 kq l0 l2 x9_2 x10_3 x11_3 x12_4 x13_4 x14_4 x15_4 a1_0 l1_1 a1_0 x212001_2 = some (r1, r2, r3)) ∧ Aside0 (kq ≤ k3) ∧ Aside0 (Kd.R (Kd.int .i64) 3 w' w.heap.size (fun _ => True) (.slice Ao38 x10_3.length co38) x10_3) ∧ Aside0 (Kd.S (Kd.slice 3 (Kd.int .i64)) 75 w' w.heap.size (fun k_ => some k_ ≠ ((.slice Ao38 x10_3.length co38) : Value).ownBlock) u212001 x212001_2) ∧ Aside0 (w'.heap[gb207]? = some (.cells #[.int .i64 a1_0, (.slice (some ad212) l1_1.length c1_1)] 51 (0, 0))) ∧ Aside0 (w'.heap[gb208]? = some (.cells #[.int .i64 0, (.slice none 0 0)] 51 (0, 0))) ∧ Aside0 (w'.heap[gb211]? = some (.cells #[.int .i64 a1_0, u212001] 51 (0, 0))) ∧ Aside0 (Below w.heap.size w w'))
                          case atStart => exact ⟨(0), (x11_3), (1), (0), (by first | rfl | (simp; done) | (simp [*]; done)), (by first | rfl | (simp; done) | (simp [*]; done)), (by first | rfl | (simp; done) | (simp [*]; done)), (by first | rfl | (simp; done) | (simp [*]; done)), H', ⟨Nat.le_refl _⟩, ⟨by (with_reducible repeat (first | apply Kd.R_alloc | apply Kd.R_drewN | apply Kd.R_drew)); exact HO_10.out⟩, ⟨by (with_reducible repeat (first | apply Kd.S_alloc | apply Kd.S_drewN | apply Kd.S_drew)); exact HO_212001.out⟩, ⟨bk_ BK207.out⟩, ⟨bk_ BK208.out⟩, ⟨bk_ BK211.out⟩, ⟨bs3_ HB.out GE207.out GE208.out GE211.out⟩⟩
                          case round =>
                            clear H'; (try clear c1); (try clear c2); (try clear p2); (try clear q2); (try clear hx2); (try clear c3); (try clear c5); (try clear c8); (try clear c10); (try clear c15); (try clear c18); (try clear c19); (try clear c21); (try clear p21); (try clear q21); (try clear hx21); (try clear c24); (try clear c25); (try clear c27); (try clear c27b0); (try clear c28); (try clear c28b0); (try clear c29); (try clear c29b0); (try clear c30); (try clear c30b0); (try clear c30b1); (try clear c31); (try clear c31b0); (try clear c31b1); (try clear c32); (try clear c33); (try clear c37); (try clear c37b0); (try clear hcz11_0); (try clear hcz11_1); (try clear hcz13_0); (try clear hcz13_1); (try clear hcz16_0); (try clear hcz16_1); (try clear hcz20_0); (try clear hcz20_1); (try clear hcz22_0); (try clear hcz22_1); (try clear hcz26_0); (try clear hcz26_1); (try clear hcz34_0); (try clear hcz34_1); (try clear hfz11_0); (try clear hfz11_1); (try clear hfz13_0); (try clear hfz13_1); (try clear hfz16_0); (try clear hfz16_1); (try clear hfz20_0); (try clear hfz20_1); (try clear hfz22_0); (try clear hfz22_1); (try clear hfz26_0); (try clear hfz26_1); (try clear hfz34_0); (try clear hfz34_1); (try clear hx212_0); (try clear p2); (try clear p21); (try clear p212); (try clear q2); (try clear q21); (try clear q212); obtain ⟨x12_4, x13_4, x14_4, x15_4, rfl, rfl, rfl, rfl, HA, HK4, HO_10, HO_212001, BK207, BK208, BK211, HB⟩ := hrel
                            cases gk with
                            | zero => exact absurd HA.out (by simp [spec_Renamed.l2])
                            | succ k4 =>
                              have H := HA.out; clear HA
                              simp only [spec_Renamed.l2] at H
                              by_cases c39 : 0 ≤ x9_2
                              · rw [if_pos c39] at H; have c39b0 := decide_eq_true c39; clear c39
                                by_cases c40 : x9_2 < (l0.length : Int)
                                · rw [if_pos c40] at H; have c40b0 := decide_eq_true c40; clear c40
                                  by_cases c41 : x15_4 < ((rd_I_Sym l0 x9_2).f1)
                                  · rw [if_pos c41] at H; have c41b0 := decide_eq_true c41; clear c41
                                    by_cases c42 : a1_0 = 0
                                    · rw [if_pos c42] at H; exact absurd H (by simp)
                                    rw [if_neg c42] at H; have c42b0 : (a1_0 == 0) = false := beq_eq_false_iff_ne.mpr c42; have c42b1 : (a1_0 != 0) = true := bne_iff_ne.mpr c42; obtain ⟨ji43, hji43⟩ : ∃ j_ : Int, (Int.tmod x13_4 a1_0) = j_ := ⟨_, rfl⟩; replace H : (if 0 ≤ (ji43) then (if (ji43) < (l2.length : Int) then (spec_Renamed.l2 k4 l0 l2 x9_2 x10_3 x11_3 (wrap64 (x12_4 + (wrap64 (x14_4 * (rd l2 (ji43)))))) (wrap64 (Int.tdiv x13_4 a1_0)) (wrap64 (x14_4 * a1_0)) (wrap64 (x15_4 + 1)) a1_0 l1_1 a1_0 x212001_2) else (none)) else (none)) = some (r1, r2, r3) := by first | (rw [hji43] at H; exact H) | (simp only [hji43] at H ⊢; exact H)
                                    by_cases c44 : 0 ≤ (ji43)
                                    · rw [if_pos c44] at H; have c44b0 := decide_eq_true c44; clear c44
                                      by_cases c45 : (ji43) < (l2.length : Int)
                                      · rw [if_pos c45] at H; have c45b0 := decide_eq_true c45; clear c45; have H' := ak H; clear H; have p219 : 0 ≤ (x9_2 : Int) := as_; have q219 : x9_2 < (l0.length : Int) := as_; obtain ⟨ad219, e219, hx219_0, hx219_1, hx219_2⟩ := at_T99 HR0.out x9_2 p219 q219
                                        cases e219
                                        replace hx219_0 := hbc_ HB.out hx219_0; replace hx219_1 := hbc_ HB.out hx219_1; replace hx219_2 := hbc_ HB.out hx219_2; replace p219 := eq_true p219; replace q219 := eq_true q219; have hnb46 := NB207_208.out; have hnc46 := NB208_207.out; have hnb47 := NB207_211.out; have hnc47 := NB211_207.out; have hcz48_0 := bc_ BK207.out 0; have hcz48_1 := bc_ BK207.out 1; have hfz48_0 := blk_frozen BK207.out 0; have hfz48_1 := blk_frozen BK207.out 1; have p220 : 0 ≤ ((ji43) : Int) := as_; have q220 : (ji43) < (l2.length : Int) := as_; obtain ⟨ad220, e220, hx220_0⟩ := Kd.at_int HR2.out (ji43) p220 q220
                                        cases e220
                                        replace hx220_0 := hbc_ HB.out hx220_0; replace p220 := eq_true p220; replace q220 := eq_true q220
                                        go_wp2
                                        go_roundg k4
                                        case measure => have := HJ3.out; have := HK2.out; have := HK3.out; have := HK4.out; omega
                                        case rel => exact ⟨(wrap64 (x12_4 + (wrap64 (x14_4 * (rd l2 (ji43)))))), (wrap64 (Int.tdiv x13_4 a1_0)), (wrap64 (x14_4 * a1_0)), (wrap64 (x15_4 + 1)), (by first | rfl | (simp; done) | (simp only [← hji43] <;> (first | rfl | simp)) | (simp [*]; done)), (by first | rfl | (simp; done) | (simp [*]; done)), (by first | rfl | (simp; done) | (simp [*]; done)), (by first | rfl | (simp; done) | (simp [*]; done)), H', ⟨by have := HJ3.out; have := HK2.out; have := HK3.out; have := HK4.out; omega⟩, ⟨by (with_reducible repeat (first | apply Kd.R_alloc | apply Kd.R_drewN | apply Kd.R_drew)); exact HO_10.out⟩, ⟨by (with_reducible repeat (first | apply Kd.S_alloc | apply Kd.S_drewN | apply Kd.S_drew)); exact HO_212001.out⟩, ⟨bk_ BK207.out⟩, ⟨bk_ BK208.out⟩, ⟨bk_ BK211.out⟩, ⟨bs3_ HB.out GE207.out GE208.out GE211.out⟩⟩
                                      rw [if_neg c45] at H; exact absurd H (by simp)
                                    rw [if_neg c44] at H; exact absurd H (by simp)
                                  rw [if_neg c41] at H; have c41b0 := decide_eq_false c41; clear c41
                                  by_cases c49 : x9_2 < (l1_1.length : Int)
                                  · rw [if_pos c49] at H; have c49b0 := decide_eq_true c49; clear c49
                                    by_cases c50 : 0 ≤ x11_3
                                    · rw [if_pos c50] at H; have c50b0 := decide_eq_true c50; clear c50
                                      by_cases c51 : x11_3 < ((rd_Ls_i64 l1_1 x9_2).length : Int)
                                      · rw [if_pos c51] at H; have c51b0 := decide_eq_true c51; clear c51
                                        by_cases c52 : 0 ≤ (rd (rd_Ls_i64 l1_1 x9_2) x11_3)
                                        · rw [if_pos c52] at H; have c52b0 := decide_eq_true c52; clear c52
                                          by_cases c53 : (rd (rd_Ls_i64 l1_1 x9_2) x11_3) < (l2.length : Int)
                                          · rw [if_pos c53] at H; have c53b0 := decide_eq_true c53; clear c53
                                            by_cases c54 : 0 ≤ x12_4
                                            · rw [if_pos c54] at H; have c54b0 := decide_eq_true c54; clear c54
                                              by_cases c55 : x12_4 < (x10_3.length : Int)
                                              · rw [if_pos c55] at H; have c55b0 := decide_eq_true c55; clear c55; obtain ⟨y224, hy224⟩ : ∃ y_ : List Int, y_ = (x10_3.set (x12_4 : Int).toNat (rd l2 (rd (rd_Ls_i64 l1_1 x9_2) x11_3))) := ⟨_, rfl⟩; replace H : (spec_Renamed.l1 k4 l0 l2 x9_2 y224 (wrap64 (x11_3 + 1)) a1_0 l1_1 a1_0 x212001_2) = some (r1, r2, r3) := by first | (rw [hy224]; with_reducible exact H) | (have H2_ := (Option.bind_some _ _).symm.trans H; rw [hy224]; with_reducible exact H2_) | (have H2_ := (Option.bind_some _ _).symm.trans H; with_reducible exact H2_) | with_reducible exact H | (rw [hy224]; exact H) | exact H
                                                have Ny224 := ak hy224; clear hy224; have H' := ak H; clear H; have p219 : 0 ≤ (x9_2 : Int) := as_; have q219 : x9_2 < (l0.length : Int) := as_; obtain ⟨ad219, e219, hx219_0, hx219_1, hx219_2⟩ := at_T99 HR0.out x9_2 p219 q219
                                                cases e219
                                                replace hx219_0 := hbc_ HB.out hx219_0; replace hx219_1 := hbc_ HB.out hx219_1; replace hx219_2 := hbc_ HB.out hx219_2; replace p219 := eq_true p219; replace q219 := eq_true q219; have hnb57 := NB207_208.out; have hnc57 := NB208_207.out; have hnb58 := NB207_211.out; have hnc58 := NB211_207.out; have hcz59_0 := bc_ BK207.out 0; have hcz59_1 := bc_ BK207.out 1; have hfz59_0 := blk_frozen BK207.out 0; have hfz59_1 := blk_frozen BK207.out 1; have p221 : 0 ≤ (x9_2 : Int) := as_; have q221 : x9_2 < (l1_1.length : Int) := as_; obtain ⟨ad221, A221_0, c221_0, e221, hx221_0, hl221_0, hi221_0⟩ := at_L5 HR1_1.out x9_2 p221 q221; obtain rfl : ad212 = ad221 := (by injection e221); replace hx221_0 := hbc_ HB.out hx221_0; have HR221_0 := ak hi221_0; have HC221_0 := ak hl221_0; clear hi221_0 hl221_0; replace p221 := eq_true p221; replace q221 := eq_true q221; have p222 : 0 ≤ (x11_3 : Int) := as_; have q222 : x11_3 < ((rd_Ls_i64 l1_1 x9_2).length : Int) := as_; obtain ⟨ad222, e222, hx222_0⟩ := Kd.at_int HR221_0.out x11_3 p222 q222
                                                cases e222
                                                replace hx222_0 := hbc_ HB.out hx222_0; replace p222 := eq_true p222; replace q222 := eq_true q222; have p223 : 0 ≤ ((rd (rd_Ls_i64 l1_1 x9_2) x11_3) : Int) := as_; have q223 : (rd (rd_Ls_i64 l1_1 x9_2) x11_3) < (l2.length : Int) := as_; obtain ⟨ad223, e223, hx223_0⟩ := Kd.at_int HR2.out (rd (rd_Ls_i64 l1_1 x9_2) x11_3) p223 q223
                                                cases e223
                                                replace hx223_0 := hbc_ HB.out hx223_0; replace p223 := eq_true p223; replace q223 := eq_true q223; have p56 : 0 ≤ (x12_4 : Int) := as_; have q56 : (x12_4 : Int) < ((x10_3.length : Int) : Int) := as_; obtain ⟨go56, co56, eo56, gb56, gl56, cl56, HG56⟩ := Kd.R_form HO_10.out (by omega); (first | cases eo56 | (injection eo56 with ea_ en_ ec_; (first | subst ea_ | (injection ea_ with ea_; subst ea_)); subst ec_; clear en_)); have GB56 := ak gb56; have GG56 := ak HG56; clear gb56 gl56 HG56; obtain ⟨hx56_0, hf56_0⟩ := Kd.R_celln 0 HO_10.out (x12_4 : Int) p56 q56; replace p56 := eq_true p56; replace q56 := eq_true q56; have HP60 := Kd.R_putg HO_10.out (x12_4 : Int) (rd l2 (rd (rd_Ls_i64 l1_1 x9_2) x11_3))
                                                go_wp2_with (first | ((with_reducible refine gate_store (t := 3) (p := 92) rfl ?_); refine store_event (t := 3) (p := 92) (v := ?vo_w61) (w1 := (wr.setCell ⟨go56, (x12_4 : Int).toNat, none⟩ (.int .i64 (rd l2 (rd (rd_Ls_i64 l1_1 x9_2) x11_3))))) ?hg ?ho ?hn ?hr ?_; (case ho => rfl); (case hg => rfl); (case hn => rfl); (case hr => first | (go_simp; done) | (go_simp; rfl)); intro w61 hw; have hg : wr.grownBy w61 (some go56) := (by rw [hw]; exact HP60.2); have hp_ : Kd.R (Kd.int .i64) 3 w61 w.heap.size (fun _ => True) (.slice (some ⟨go56, 0, none⟩) x10_3.length co38) y224 := (by rw [hw, Ny224.out]; exact HP60.1); clear HP60; replace HO_212001 := ak (Kd.S_after (v := (.slice (some ⟨go56, 0, none⟩) x10_3.length co38)) (v1 := (.slice (some ⟨go56, 0, none⟩) x10_3.length co38)) (ok := (fun _ => True)) (by (with_reducible repeat (first | apply Kd.S_alloc | apply Kd.S_drewN | apply Kd.S_drew)); exact Kd.S_mono HO_212001.out (fun _ hk => ⟨trivial, hk⟩)) hg (.inl rfl)); replace BK207 := ak (blk_grown (g := gb207) (o := .cells #[.int .i64 a1_0, .slice (some ad212) l1_1.length c1_1] 51 (0, 0)) (bk_ BK207.out) hg (Kd.R_ne HO_10.out BK207.out (by decide))); replace BK208 := ak (blk_grown (g := gb208) (o := .cells #[.int .i64 0, .slice none 0 0] 51 (0, 0)) (bk_ BK208.out) hg (Kd.R_ne HO_10.out BK208.out (by decide))); replace BK211 := ak (blk_grown (g := gb211) (o := .cells #[.int .i64 a1_0, u212001] 51 (0, 0)) (bk_ BK211.out) hg (Kd.R_ne HO_10.out BK211.out (by decide))); replace HO_10 := ak (hp_); replace HB := ak (by rw [hw]; exact below_set (HB.out) GB56.out : Below w.heap.size w w61); clear hg hw hp_))
                                                go_roundg k4
                                                case measure => have := HJ3.out; have := HK2.out; have := HK3.out; have := HK4.out; omega
                                                case rel => exact ⟨(y224), (wrap64 (x11_3 + 1)), (by first | rfl | (simp; done) | (simp [*]; done)), H', ⟨by have := HJ3.out; have := HK2.out; have := HK3.out; have := HK4.out; omega⟩, ⟨by (with_reducible repeat (first | apply Kd.R_alloc | apply Kd.R_drewN | apply Kd.R_drew)); exact HO_10.out⟩, ⟨by (with_reducible repeat (first | apply Kd.S_alloc | apply Kd.S_drewN | apply Kd.S_drew)); exact Kd.S_mono HO_212001.out (fun _ hk => hk.2)⟩, ⟨bk_ BK207.out⟩, ⟨bk_ BK208.out⟩, ⟨bk_ BK211.out⟩, ⟨bs3_ HB.out GE207.out GE208.out GE211.out⟩⟩
                                              rw [if_neg c55] at H; exact absurd H (by simp)
                                            rw [if_neg c54] at H; exact absurd H (by simp)
                                          rw [if_neg c53] at H; exact absurd H (by simp)
                                        rw [if_neg c52] at H; exact absurd H (by simp)
                                      rw [if_neg c51] at H; exact absurd H (by simp)
                                    rw [if_neg c50] at H; exact absurd H (by simp)
                                  rw [if_neg c49] at H; exact absurd H (by simp)
                                rw [if_neg c40] at H; exact absurd H (by simp)
                              rw [if_neg c39] at H; exact absurd H (by simp)
                        rw [if_neg c37] at H; have c37b0 := decide_eq_false c37; clear c37
                        by_cases c62 : x212001_2.length < 5864062014805
                        · rw [if_pos c62] at H; have LMc62 := ak c62; clear c62; obtain ⟨y216, hy216⟩ : ∃ y_ : List (List Int), y_ = (x212001_2 ++ [x10_3]) := ⟨_, rfl⟩; replace H : (spec_Renamed.l0 k3 l0 l2 (wrap64 (x9_2 + 1)) a1_0 l1_1 a1_0 y216) = some (r1, r2, r3) := by first | (rw [hy216]; with_reducible exact H) | (have H2_ := (Option.bind_some _ _).symm.trans H; rw [hy216]; with_reducible exact H2_) | (have H2_ := (Option.bind_some _ _).symm.trans H; with_reducible exact H2_) | with_reducible exact H | (rw [hy216]; exact H) | exact H
                          have Ny216 := ak hy216; clear hy216; have H' := ak H; clear H; obtain ⟨Ao63, co63, eo63⟩ := Kd.R_slice HO_10.out; subst eo63; have hnb64 := NB211_207.out; have hnc64 := NB207_211.out; have hnb65 := NB211_208.out; have hnc65 := NB208_211.out; have hcz66_0 := bc_ BK211.out 0; have hcz66_1 := bc_ BK211.out 1; have hfz66_0 := blk_frozen BK211.out 0; have hfz66_1 := blk_frozen BK211.out 1
                          go_wp2_with (first | ((with_reducible refine gate_builtin (b := .append) (xs := #[.tmp 94, .tmp 96]) rfl ?_); at_builtin; refine Kd.S_append (Kd.slice 3 (Kd.int .i64)) (w0 := w) w.heap.size rfl (.tmp 94) (.tmp 96) 38 75 (.slice none 0 0) 24 rfl Try.underlying38 info75 rfl (by decide) (by omega) u212001 x212001_2 x10_3 [.slice Ao63 x10_3.length co63] (fun _ => True) (fun k_ => some k_ = (.slice Ao63 x10_3.length co63 : Value).ownBlock) rfl rfl ?aP (fun k_ hk_ => ((Kd.R_mono (ok' := fun k_ => ((fun _ => True)) k_ ∧ some k_ ≠ (u212001 : Value).ownBlock) (Kd.R_apart' (HO_10.out) (Kd.S_typed HO_212001.out) (by decide)) (fun k_ hk => ⟨trivial, hk.2⟩))).1 k_ hk_.symm) ?aF ?aO ?aB ?aS ?aL ?_; (case aP => exact Kd.M_row (Kd.R_mono (Kd.R_tight rfl (Kd.R_mono (ok' := fun k_ => ((fun _ => True)) k_ ∧ some k_ ≠ (u212001 : Value).ownBlock) (Kd.R_apart' (HO_10.out) (Kd.S_typed HO_212001.out) (by decide)) (fun k_ hk => ⟨trivial, hk.2⟩))) (fun _ h_ => h_))); (case aB => exact (bs3_ HB.out GE207.out GE208.out GE211.out)); (case aF => exact (fun _ _ => trivial)); (case aO => exact (by (with_reducible repeat (first | apply Kd.S_alloc | apply Kd.S_drewN | apply Kd.S_drew)); exact Kd.S_mono HO_212001.out (fun k_ hk => ⟨trivial, fun e_ => hk e_⟩))); (case aS => exact (below_size (bs3_ HB.out GE207.out GE208.out GE211.out))); (case aL => have := LMc62.out; omega); intro v217 w67 ho hb hg hat; rw [← Ny216.out] at ho; replace BK207 := ak (blk_grown (g := gb207) (o := .cells #[.int .i64 a1_0, .slice (some ad212) l1_1.length c1_1] 51 (0, 0)) (bk_ BK207.out) hg (Kd.S_ne HO_212001.out BK207.out (by decide))); replace BK208 := ak (blk_grown (g := gb208) (o := .cells #[.int .i64 0, .slice none 0 0] 51 (0, 0)) (bk_ BK208.out) hg (Kd.S_ne HO_212001.out BK208.out (by decide))); replace BK211 := ak (blk_grown (g := gb211) (o := .cells #[.int .i64 a1_0, u212001] 51 (0, 0)) (bk_ BK211.out) hg (Kd.S_ne HO_212001.out BK211.out (by decide))); replace HB := ak (hb); have HO218 := ak (ho); clear HO_212001 HO_10; clear ho hb hg hat; obtain ⟨Ao68, co68, eo68⟩ := Kd.S_slice HO218.out; subst eo68; have hcz69_0 := bc_ BK211.out 0; have hcz69_1 := bc_ BK211.out 1; have hfz69_0 := blk_frozen BK211.out 0; have hfz69_1 := blk_frozen BK211.out 1))
                          go_roundg k3
                          case measure => have := HJ3.out; have := HK2.out; have := HK3.out; omega
                          case rel => exact ⟨(wrap64 (x9_2 + 1)), (y216), (.slice Ao68 y216.length co68), (by first | rfl | (simp; done) | (simp [*]; done)), H', ⟨by have := HJ3.out; have := HK2.out; have := HK3.out; omega⟩, ⟨by (with_reducible repeat (first | apply Kd.S_alloc | apply Kd.S_drewN | apply Kd.S_drew)); exact Kd.S_mono (Kd.S_far (p := ⟨gb211, 1, none⟩) (Kd.S_types HO218.out BK211.out (by decide)) (fun _ hk => hk.2) (.slice Ao68 y216.length co68)) (fun _ hk => trivial)⟩, ⟨by (with_reducible repeat (first | refine blk_drewN ?_ _ | refine blk_drew ?_ | refine blk_alloc ?_ _)); refine blk_far ?_ NB207_211.out _; (with_reducible repeat (first | refine blk_drewN ?_ _ | refine blk_drew ?_ | refine blk_alloc ?_ _)); exact BK207.out⟩, ⟨by (with_reducible repeat (first | refine blk_drewN ?_ _ | refine blk_drew ?_ | refine blk_alloc ?_ _)); refine blk_far ?_ NB208_211.out _; (with_reducible repeat (first | refine blk_drewN ?_ _ | refine blk_drew ?_ | refine blk_alloc ?_ _)); exact BK208.out⟩, ⟨by (with_reducible repeat (first | refine blk_drewN ?_ _ | refine blk_drew ?_ | refine blk_alloc ?_ _)); refine blk_put (cs := #[.int .i64 a1_0, u212001]) ?_ 1 _ rfl; (with_reducible repeat (first | refine blk_drewN ?_ _ | refine blk_drew ?_ | refine blk_alloc ?_ _)); exact BK211.out⟩, ⟨bs3_ HB.out GE207.out GE208.out GE211.out⟩⟩
                        rw [if_neg c62] at H; exact absurd H (by simp)
                  rw [if_neg c31] at H; exact absurd H (by simp)
                rw [if_neg c30] at H; exact absurd H (by simp)
              rw [if_neg c29] at H; exact absurd H (by simp)
            rw [if_neg c28] at H; exact absurd H (by simp)
          rw [if_neg c27] at H; have c27b0 := decide_eq_false c27; clear c27
          simp only [Option.some.injEq, Prod.mk.injEq] at H
          obtain ⟨rfl, rfl, rfl⟩ := H; have hnb70 := NB211_207.out; have hnc70 := NB207_211.out; have hnb71 := NB211_208.out; have hnc71 := NB208_211.out; have hcz72_0 := bc_ BK211.out 0; have hcz72_1 := bc_ BK211.out 1; have hfz72_0 := blk_frozen BK211.out 0; have hfz72_1 := blk_frozen BK211.out 1; have hnb73 := NB208_207.out; have hnc73 := NB207_208.out; have hcz74_0 := bc_ BK208.out 0; have hcz74_1 := bc_ BK208.out 1; have hfz74_0 := blk_frozen BK208.out 0; have hfz74_1 := blk_frozen BK208.out 1; obtain ⟨Ao75, co75, eo75⟩ := Kd.S_slice HO_212001.out; subst eo75
          go_wp2
          refine bodyPost_ret (results_ct rfl _ _ gb208 51 #[.int .i64 a1_0, .slice Ao75 x212001_2.length co75] (0, 0) _ rfl (by (with_reducible repeat (first | refine blk_drewN ?_ _ | refine blk_drew ?_ | refine blk_alloc ?_ _)); refine blk_put (cs := #[.int .i64 a1_0, .slice none 0 0]) ?_ 1 _ rfl; (with_reducible repeat (first | refine blk_drewN ?_ _ | refine blk_drew ?_ | refine blk_alloc ?_ _)); refine blk_put (cs := #[.int .i64 0, .slice none 0 0]) ?_ 0 _ rfl; (with_reducible repeat (first | refine blk_drewN ?_ _ | refine blk_drew ?_ | refine blk_alloc ?_ _)); exact BK208.out) Try.underlying51 rfl (by kernel_rfl)) rfl ?_; exact ⟨_, by first | rfl | (simp [errW_none, errW_some] <;> rfl) | (simp [*, errW_none, errW_some] <;> rfl), by (with_reducible repeat (first | apply Kd.S_alloc | apply Kd.S_drewN | apply Kd.S_drew)); exact Kd.S_mono (Kd.S_far (p := ⟨gb208, 1, none⟩) (Kd.S_far (p := ⟨gb208, 0, none⟩) (Kd.S_types HO_212001.out BK208.out (by decide)) (fun _ hk => hk.2) (.int .i64 a1_0)) (fun _ hk => hk.2) (.slice Ao75 x212001_2.length co75)) (fun _ hk => trivial), by repeat (first | (with_reducible first | exact HB.out | apply below_alloc | apply pw_below_drewN | apply below_drew1 | refine below_set ?_ GE207.out | refine below_set ?_ GE208.out | refine below_set ?_ GE211.out) | exact HB.out)⟩

/-! ### impl_from: function 87 -/
def impl_from.f (a0 : Int) (a1 : Int) (a2 : Int) : Option (Bool) := if a0 ≥ a1 then (some (decide (a0 ≤ a2))) else (some false)
set_option maxHeartbeats 8000000 in
set_option maxRecDepth 100000 in
theorem impl_from.calls (a0 : Int) (a1 : Int) (a2 : Int) (r : Bool) (w : World) (h : impl_from.f a0 a1 a2 = some r) :
    Calls Try.prog 87 #[.int .i64 a0, .int .i64 a1, .int .i64 a2] w fun e w' => e = .returned (.bool r) ∧ Drawn0 w w' := by
  have H : (if a0 ≥ a1 then (some (decide (a0 ≤ a2))) else (some false)) = some r := h; clear h
  by_cases c4 : a0 ≥ a1
  · rw [if_pos c4] at H; have c4b0 := decide_eq_true c4; clear c4; obtain rfl := Option.some.inj H
    go_enter Try.func87, Try.ntmps87
    go_wp2
    go_ret
    exact ⟨by first | rfl | (simp; done) | (simp [*]; done), by repeat (first | exact Drawn0.refl _ | apply Drawn0.step)⟩
  rw [if_neg c4] at H; have c4b0 := decide_eq_false c4; clear c4; obtain rfl := Option.some.inj H
  go_enter Try.func87, Try.ntmps87
  go_wp2
  go_ret
  exact ⟨by first | rfl | (simp; done) | (simp [*]; done), by repeat (first | exact Drawn0.refl _ | apply Drawn0.step)⟩

/-! ### impl_isSmall: function 169 -/
def impl_isSmall.f (a0 : Int) : Option (Bool) := if a0 ≥ 97 then (some (decide (a0 ≤ 122))) else (some false)
set_option maxHeartbeats 8000000 in
set_option maxRecDepth 100000 in
theorem impl_isSmall.calls (a0 : Int) (r : Bool) (w : World) (h : impl_isSmall.f a0 = some r) :
    Calls Try.prog 169 #[.int .u8 a0] w fun e w' => e = .returned (.bool r) ∧ Drawn0 w w' := by
  have H : (if a0 ≥ 97 then (some (decide (a0 ≤ 122))) else (some false)) = some r := h; clear h
  by_cases c2 : a0 ≥ 97
  · rw [if_pos c2] at H; have c2b0 := decide_eq_true c2; clear c2; obtain rfl := Option.some.inj H
    go_enter Try.func169, Try.ntmps169
    go_wp2
    go_ret
    exact ⟨by first | rfl | (simp; done) | (simp [*]; done), by repeat (first | exact Drawn0.refl _ | apply Drawn0.step)⟩
  rw [if_neg c2] at H; have c2b0 := decide_eq_false c2; clear c2; obtain rfl := Option.some.inj H
  go_enter Try.func169, Try.ntmps169
  go_wp2
  go_ret
  exact ⟨by first | rfl | (simp; done) | (simp [*]; done), by repeat (first | exact Drawn0.refl _ | apply Drawn0.step)⟩

/-! ### impl_isDigit: function 170 -/
def impl_isDigit.f (a0 : Int) : Option (Bool) := if a0 ≥ 48 then (some (decide (a0 ≤ 57))) else (some false)
set_option maxHeartbeats 8000000 in
set_option maxRecDepth 100000 in
theorem impl_isDigit.calls (a0 : Int) (r : Bool) (w : World) (h : impl_isDigit.f a0 = some r) :
    Calls Try.prog 170 #[.int .u8 a0] w fun e w' => e = .returned (.bool r) ∧ Drawn0 w w' := by
  have H : (if a0 ≥ 48 then (some (decide (a0 ≤ 57))) else (some false)) = some r := h; clear h
  by_cases c2 : a0 ≥ 48
  · rw [if_pos c2] at H; have c2b0 := decide_eq_true c2; clear c2; obtain rfl := Option.some.inj H
    go_enter Try.func170, Try.ntmps170
    go_wp2
    go_ret
    exact ⟨by first | rfl | (simp; done) | (simp [*]; done), by repeat (first | exact Drawn0.refl _ | apply Drawn0.step)⟩
  rw [if_neg c2] at H; have c2b0 := decide_eq_false c2; clear c2; obtain rfl := Option.some.inj H
  go_enter Try.func170, Try.ntmps170
  go_wp2
  go_ret
  exact ⟨by first | rfl | (simp; done) | (simp [*]; done), by repeat (first | exact Drawn0.refl _ | apply Drawn0.step)⟩

/-! ### impl_NameOk: function 144 -/
def impl_NameOk.l0 : Nat → ByteArray → Int → Int → Option (Bool)
  | 0, _, _, _ => none
  | k + 1, x0, x5, x6 => if x6 < x5 then (if 0 ≤ x6 then (if x6 < (x0.size : Int) then ((impl_isSmall.f (bt x0 x6)).bind fun t227 => (if t227 = true then (impl_NameOk.l0 k x0 x5 (wrap64 (x6 + 1))) else ((impl_isDigit.f (bt x0 x6)).bind fun t228 => (if t228 = true then (impl_NameOk.l0 k x0 x5 (wrap64 (x6 + 1))) else (some false))))) else (none)) else (none)) else ((impl_from.f (x0.size : Int) 1 8).bind fun t225 => (if t225 = true then (if 0 < (x0.size : Int) then ((impl_isSmall.f (bt x0 0)).bind fun t226 => (some t226)) else (none)) else (some false)))
def impl_NameOk.f (k : Nat) (a0 : ByteArray) : Option (Bool) := impl_NameOk.l0 k a0 (a0.size : Int) 0
theorem impl_NameOk.mono_l : ∀ k, (∀ y0 y1 y2, LeO (impl_NameOk.l0 k y0 y1 y2) (impl_NameOk.l0 (k + 1) y0 y1 y2))
  | 0 => fun _ _ _ r h => by simp [impl_NameOk.l0] at h
  | k + 1 => by
    have ih0 := impl_NameOk.mono_l k
    · intro y0 y1 y2
      unfold impl_NameOk.l0
      repeat' first | (with_reducible first | exact ih0 _ _ _ | exact LeO.refl _ | exact LeO.none _ | refine LeO.ite ?_ ?_ | refine LeO.bind ?_ (fun _ => ?_)) | exact ih0 _ _ _ | exact LeO.none _ | refine LeO.ite ?_ ?_ | refine LeO.bind ?_ (fun _ => ?_)
theorem impl_NameOk.mono : ∀ a0 k, LeO (impl_NameOk.f k a0) (impl_NameOk.f (k + 1) a0) := by
  intro a0 k; have ih0 := impl_NameOk.mono_l k
  unfold impl_NameOk.f
  repeat' first
      | (with_reducible exact ih0 _ _ _)
      | (with_reducible exact LeO.refl _)
      | (with_reducible exact LeO.none _)
      | (with_reducible refine LeO.ite ?_ ?_)
      | (with_reducible refine LeO.bind ?_ (fun _ => ?_))
      | exact ih0 _ _ _
      | exact LeO.none _
      | refine LeO.ite ?_ ?_
      | refine LeO.bind ?_ (fun _ => ?_)
set_option maxHeartbeats 8000000 in
set_option maxRecDepth 100000 in
theorem impl_NameOk.calls (k : Nat) (a0 : ByteArray) (r : Bool) (w : World) (h : impl_NameOk.f k a0 = some r) :
    Calls Try.prog 144 #[.string a0] w fun e w' => e = .returned (.bool r) ∧ Drawn0 w w' := by
  have H : (impl_NameOk.l0 k a0 (a0.size : Int) 0) = some r := h; clear h; have H' := ak H; clear H
  go_enter Try.func144, Try.ntmps144
  go_wp2
  go_loopg [6] k (fun kq v6 w' => ∃ (x6_1 : Int), v6 = .int .i64 x6_1 ∧ Aside0 (impl_NameOk.l0 kq a0 (a0.size : Int) x6_1 = some r) ∧ Aside0 (kq ≤ k) ∧ Drawn0 w w')
  case atStart => exact ⟨(0), (by first | rfl | (simp; done) | (simp [*]; done)), H', ⟨Nat.le_refl _⟩, by repeat (first | exact Drawn0.refl _ | apply Drawn0.step)⟩
  case round =>
    clear H'; (try clear c1); obtain ⟨x6_1, rfl, HA, HK1, ⟨m1, rfl⟩⟩ := hrel
    cases gk with
    | zero => exact absurd HA.out (by simp [impl_NameOk.l0])
    | succ k1 =>
      have H := HA.out; clear HA
      simp only [impl_NameOk.l0] at H
      by_cases c2 : x6_1 < (a0.size : Int)
      · rw [if_pos c2] at H; have c2b0 := decide_eq_true c2; clear c2
        by_cases c3 : 0 ≤ x6_1
        · rw [if_pos c3] at H; have c3b0 := decide_eq_true c3; clear c3
          by_cases c4 : x6_1 < (a0.size : Int)
          · rw [if_pos c4] at H; have c4b0 := decide_eq_true c4; clear c4; replace H := Option.bind_eq_some_iff.mp H; obtain ⟨t227, A60, H⟩ := H; have A6 := ak A60; clear A60
            by_cases c7 : t227 = true
            · subst c7; rw [if_pos rfl] at H; have H' := ak H; clear H; have p5 : 0 ≤ (x6_1 : Int) := as_; have q5 : x6_1 < (a0.size : Int) := as_; have hx5 := bt_at a0 x6_1; replace p5 := eq_true p5; replace q5 := eq_true q5
              go_wp2_with (first | ((with_reducible refine gate_callee (f := 169) rfl ?_); refine goesM_ (some 12) rfl rfl Try.func169 (by kernel_rfl) rfl #[.int .u8 (bt a0 x6_1)] rfl ?_; (with_reducible refine (impl_isSmall.calls (bt a0 x6_1) true _ A6.out).mono ?_); rintro e w' ⟨rfl, ⟨nd, rfl⟩⟩; refine ⟨_, rfl, ?_⟩))
              go_roundg k1
              case measure => have := HK1.out; omega
              case rel => exact ⟨(wrap64 (x6_1 + 1)), (by first | rfl | (simp; done) | (simp [*]; done)), H', ⟨by have := HK1.out; omega⟩, by repeat (first | exact Drawn0.refl _ | apply Drawn0.step)⟩
            replace c7 := Bool.eq_false_iff.mpr c7; subst c7; rw [if_neg (show ¬ (false = true) by decide)] at H; replace H := Option.bind_eq_some_iff.mp H; obtain ⟨t228, A90, H⟩ := H; have A9 := ak A90; clear A90
            by_cases c10 : t228 = true
            · subst c10; rw [if_pos rfl] at H; have H' := ak H; clear H; have p5 : 0 ≤ (x6_1 : Int) := as_; have q5 : x6_1 < (a0.size : Int) := as_; have hx5 := bt_at a0 x6_1; replace p5 := eq_true p5; replace q5 := eq_true q5
              go_wp2_with (first | ((with_reducible refine gate_callee (f := 169) rfl ?_); refine goesM_ (some 12) rfl rfl Try.func169 (by kernel_rfl) rfl #[.int .u8 (bt a0 x6_1)] rfl ?_; (with_reducible refine (impl_isSmall.calls (bt a0 x6_1) false _ A6.out).mono ?_); rintro e w' ⟨rfl, ⟨nd, rfl⟩⟩; refine ⟨_, rfl, ?_⟩; have p8 : 0 ≤ (x6_1 : Int) := as_; have q8 : x6_1 < (a0.size : Int) := as_; have hx8 := bt_at a0 x6_1; replace p8 := eq_true p8; replace q8 := eq_true q8) | (go_at_call 170; (with_reducible refine (impl_isDigit.calls (bt a0 x6_1) true _ A9.out).mono ?_); rintro e w' ⟨rfl, ⟨nd, rfl⟩⟩))
              go_roundg k1
              case measure => have := HK1.out; omega
              case rel => exact ⟨(wrap64 (x6_1 + 1)), (by first | rfl | (simp; done) | (simp [*]; done)), H', ⟨by have := HK1.out; omega⟩, by repeat (first | exact Drawn0.refl _ | apply Drawn0.step)⟩
            replace c10 := Bool.eq_false_iff.mpr c10; subst c10; rw [if_neg (show ¬ (false = true) by decide)] at H; obtain rfl := Option.some.inj H; have p5 : 0 ≤ (x6_1 : Int) := as_; have q5 : x6_1 < (a0.size : Int) := as_; have hx5 := bt_at a0 x6_1; replace p5 := eq_true p5; replace q5 := eq_true q5
            go_wp2_with (first | ((with_reducible refine gate_callee (f := 169) rfl ?_); refine goesM_ (some 12) rfl rfl Try.func169 (by kernel_rfl) rfl #[.int .u8 (bt a0 x6_1)] rfl ?_; (with_reducible refine (impl_isSmall.calls (bt a0 x6_1) false _ A6.out).mono ?_); rintro e w' ⟨rfl, ⟨nd, rfl⟩⟩; refine ⟨_, rfl, ?_⟩; have p8 : 0 ≤ (x6_1 : Int) := as_; have q8 : x6_1 < (a0.size : Int) := as_; have hx8 := bt_at a0 x6_1; replace p8 := eq_true p8; replace q8 := eq_true q8) | (go_at_call 170; (with_reducible refine (impl_isDigit.calls (bt a0 x6_1) false _ A9.out).mono ?_); rintro e w' ⟨rfl, ⟨nd, rfl⟩⟩))
            go_ret
            exact ⟨by first | rfl | (simp; done) | (simp [*]; done), by repeat (first | exact Drawn0.refl _ | apply Drawn0.step)⟩
          rw [if_neg c4] at H; exact absurd H (by simp)
        rw [if_neg c3] at H; exact absurd H (by simp)
      rw [if_neg c2] at H; have c2b0 := decide_eq_false c2; clear c2; replace H := Option.bind_eq_some_iff.mp H; obtain ⟨t225, A110, H⟩ := H; have A11 := ak A110; clear A110
      by_cases c12 : t225 = true
      · subst c12; rw [if_pos rfl] at H
        by_cases c13 : 0 < (a0.size : Int)
        · rw [if_pos c13] at H; have c13b0 := decide_eq_true c13; have c13b1 : decide (0 < a0.size) = true := decide_eq_true (by omega); clear c13; replace H := Option.bind_eq_some_iff.mp H; obtain ⟨t226, A150, H⟩ := H; have A15 := ak A150; clear A150; obtain rfl := Option.some.inj H
          go_wp2_with (first | ((with_reducible refine gate_callee (f := 87) rfl ?_); refine goesM_ (some 24) rfl rfl Try.func87 (by kernel_rfl) rfl #[.int .i64 (a0.size : Int), .int .i64 1, .int .i64 8] rfl ?_; (with_reducible refine (impl_from.calls (a0.size : Int) 1 8 true _ A11.out).mono ?_); rintro e w' ⟨rfl, ⟨nd, rfl⟩⟩; refine ⟨_, rfl, ?_⟩; have p14 : 0 ≤ (0 : Int) := (by omega); have q14 : 0 < a0.size := (by have : (0 : Int) < (a0.size : Int) := as_; omega); have hx14 : ∀ h : 0 < a0.size, ((a0[0]'h).toNat : Int) = bt a0 0 := bt_at a0 0; clear p14; have qi14 : (0 < (a0.size : Int)) = True := eq_true (as_); replace q14 := eq_true q14) | (go_at_call 169; (with_reducible refine (impl_isSmall.calls (bt a0 0) t226 _ A15.out).mono ?_); rintro e w' ⟨rfl, ⟨nd, rfl⟩⟩))
          go_ret
          exact ⟨by first | rfl | (simp; done) | (simp [*]; done), by repeat (first | exact Drawn0.refl _ | apply Drawn0.step)⟩
        rw [if_neg c13] at H; exact absurd H (by simp)
      replace c12 := Bool.eq_false_iff.mpr c12; subst c12; rw [if_neg (show ¬ (false = true) by decide)] at H; obtain rfl := Option.some.inj H
      go_wp2_with (first | ((with_reducible refine gate_callee (f := 87) rfl ?_); refine goesM_ (some 24) rfl rfl Try.func87 (by kernel_rfl) rfl #[.int .i64 (a0.size : Int), .int .i64 1, .int .i64 8] rfl ?_; (with_reducible refine (impl_from.calls (a0.size : Int) 1 8 false _ A11.out).mono ?_); rintro e w' ⟨rfl, ⟨nd, rfl⟩⟩; refine ⟨_, rfl, ?_⟩))
      go_ret
      exact ⟨by first | rfl | (simp; done) | (simp [*]; done), by repeat (first | exact Drawn0.refl _ | apply Drawn0.step)⟩

/-! ### impl_SymOf_1: function 172 -/
def impl_SymOf_1.f (a0_0 : ByteArray) (a0_1 : Int) (a0_2 : Bool) (a1_0 : ByteArray) : Option (Bool) := some (a0_0.toList == a1_0.toList)
set_option maxHeartbeats 8000000 in
set_option maxRecDepth 100000 in
theorem impl_SymOf_1.calls (a0_0 : ByteArray) (a0_1 : Int) (a0_2 : Bool) (G1 : Nat) (a1_0 : ByteArray) (r : Bool) (w : World) (hG1 : w.heap[G1]? = some (.cells #[.string a1_0] 9 (0, 0))) (h : impl_SymOf_1.f a0_0 a0_1 a0_2 a1_0 = some r) :
    Calls Try.prog 172 #[.agg #[.string a0_0, .int .i64 a0_1, .bool a0_2], .pointer (some ⟨G1, 0, none⟩)] w fun e w' => e = .returned (.bool r) ∧ Below w.heap.size w w' := by
  have hu99 := Try.underlying99; have BK1 := ak hG1; clear hG1; have HB := ak (Below.refl w.heap.size w); have H : (some (a0_0.toList == a1_0.toList)) = some r := h; clear h; obtain rfl := Option.some.inj H
  go_enter Try.func172, Try.ntmps172
  go_wp2_with (first | ((with_reducible refine gate_dst (N := 2) rfl ?_); refine bxe_ (N := 2) (cs := #[.string a0_0, .int .i64 a0_1, .bool a0_2]) (t := 99) ?_; intro gb229 hg w3 hbox hb; have BK229 := ak (hbox); have GW229 := ak (lg_ hg (bl_ HB.out)); have GE229 := ak (lg_ hg (bl_ HB.out)); replace HB := ak (below_step (bl_ HB.out) hb); have NB1_229 := ak (nl_ hg (bk_ BK1.out)); have NB229_1 := ak (ng_ hg (bk_ BK1.out)); replace BK1 := ak (blk_below (bk_ BK1.out) hb); clear hb hbox hg; have hnb4 := NB229_1.out; have hnc4 := NB1_229.out; have hcz5_0 := bc_ BK229.out 0; have hcz5_1 := bc_ BK229.out 1; have hcz5_2 := bc_ BK229.out 2; have hfz5_0 := blk_frozen BK229.out 0; have hfz5_1 := blk_frozen BK229.out 1; have hfz5_2 := blk_frozen BK229.out 2; have hcz6_0 := bc_ BK1.out 0; have hfz6_0 := blk_frozen BK1.out 0))
  go_ret
  exact fin_ (bs1_ HB.out GE229.out)

/-! ### impl_Sym__with_impl_SymOf_1: function 192 -/
def impl_Sym__with_impl_SymOf_1.l0 : Nat → List (I_Sym) → Int → Int → ByteArray → Option (Int)
  | 0, _, _, _, _ => none
  | k + 1, x0, x7, x8, x3000 => if x8 < x7 then (if 0 ≤ x8 then (if x8 < (x0.length : Int) then ((impl_SymOf_1.f ((rd_I_Sym x0 x8).f0) ((rd_I_Sym x0 x8).f1) ((rd_I_Sym x0 x8).f2) x3000).bind fun t231 => (if t231 = true then (some x8) else (impl_Sym__with_impl_SymOf_1.l0 k x0 x7 (wrap64 (x8 + 1)) x3000))) else (none)) else (none)) else (some (-1))
def impl_Sym__with_impl_SymOf_1.f (k : Nat) (l0 : List (I_Sym))  (a2_0 : ByteArray) : Option (Int) := impl_Sym__with_impl_SymOf_1.l0 k l0 (l0.length : Int) 0 a2_0
theorem impl_Sym__with_impl_SymOf_1.mono_l : ∀ k, (∀ y0 y1 y2 y3, LeO (impl_Sym__with_impl_SymOf_1.l0 k y0 y1 y2 y3) (impl_Sym__with_impl_SymOf_1.l0 (k + 1) y0 y1 y2 y3))
  | 0 => fun _ _ _ _ r h => by simp [impl_Sym__with_impl_SymOf_1.l0] at h
  | k + 1 => by
    have ih0 := impl_Sym__with_impl_SymOf_1.mono_l k
    · intro y0 y1 y2 y3
      unfold impl_Sym__with_impl_SymOf_1.l0
      repeat' first | (with_reducible first | exact ih0 _ _ _ _ | exact LeO.refl _ | exact LeO.none _ | refine LeO.ite ?_ ?_ | refine LeO.bind ?_ (fun _ => ?_)) | exact ih0 _ _ _ _ | exact LeO.none _ | refine LeO.ite ?_ ?_ | refine LeO.bind ?_ (fun _ => ?_)
theorem impl_Sym__with_impl_SymOf_1.mono : ∀ a0 a1 k, LeO (impl_Sym__with_impl_SymOf_1.f k a0 a1) (impl_Sym__with_impl_SymOf_1.f (k + 1) a0 a1) := by
  intro a0 a1 k; have ih0 := impl_Sym__with_impl_SymOf_1.mono_l k
  unfold impl_Sym__with_impl_SymOf_1.f
  repeat' first
      | (with_reducible exact ih0 _ _ _ _)
      | (with_reducible exact LeO.refl _)
      | (with_reducible exact LeO.none _)
      | (with_reducible refine LeO.ite ?_ ?_)
      | (with_reducible refine LeO.bind ?_ (fun _ => ?_))
      | exact ih0 _ _ _ _
      | exact LeO.none _
      | refine LeO.ite ?_ ?_
      | refine LeO.bind ?_ (fun _ => ?_)
set_option maxHeartbeats 8000000 in
set_option maxRecDepth 100000 in
theorem impl_Sym__with_impl_SymOf_1.calls (k : Nat) (A0 : Option Addr) (c0 : Nat) (l0 : List (I_Sym))  (G2 : Nat) (a2_0 : ByteArray) (r : Int) (w : World) (hr0 : Kd.C k99 w A0 l0.length l0) (hc0 : l0.length ≤ c0) (hG2 : w.heap[G2]? = some (.cells #[.string a2_0] 9 (0, 0))) (h : impl_Sym__with_impl_SymOf_1.f k l0 a2_0 = some r) :
    Calls Try.prog 171 #[.slice A0 l0.length c0, .func (.func 172) #[] #[.pointer (some ⟨G2, 0, none⟩)]] w fun e w' => e = .returned (.int .i64 r) ∧ Below w.heap.size w w' := by
  have hu99 := Try.underlying99; have HR0 := ak hr0; have HC0 := ak hc0; clear hr0 hc0; have BK2 := ak hG2; clear hG2; have HB := ak (Below.refl w.heap.size w); have H : (impl_Sym__with_impl_SymOf_1.l0 k l0 (l0.length : Int) 0 a2_0) = some r := h; clear h; have H' := ak H; clear H
  go_enter Try.func171, Try.ntmps171
  go_wp2
  go_loopg [8] k (fun kq v8 w' => ∃ (x8_1 : Int), v8 = .int .i64 x8_1 ∧ Aside0 (impl_Sym__with_impl_SymOf_1.l0 kq l0 (l0.length : Int) x8_1 a2_0 = some r) ∧ Aside0 (kq ≤ k) ∧ Aside0 (w'.heap[G2]? = some (.cells #[.string a2_0] 9 (0, 0))) ∧ Aside0 (Below w.heap.size w w'))
  case atStart => exact ⟨(0), (by first | rfl | (simp; done) | (simp [*]; done)), H', ⟨Nat.le_refl _⟩, ⟨bk_ BK2.out⟩, ⟨bl_ HB.out⟩⟩
  case round =>
    clear H'; (try clear c1); (try clear p2); obtain ⟨x8_1, rfl, HA, HK1, BK2, HB⟩ := hrel
    cases gk with
    | zero => exact absurd HA.out (by simp [impl_Sym__with_impl_SymOf_1.l0])
    | succ k1 =>
      have H := HA.out; clear HA
      simp only [impl_Sym__with_impl_SymOf_1.l0] at H
      by_cases c4 : x8_1 < (l0.length : Int)
      · rw [if_pos c4] at H; have c4b0 := decide_eq_true c4; clear c4
        by_cases c5 : 0 ≤ x8_1
        · rw [if_pos c5] at H; have c5b0 := decide_eq_true c5; clear c5
          by_cases c6 : x8_1 < (l0.length : Int)
          · rw [if_pos c6] at H; have c6b0 := decide_eq_true c6; clear c6; replace H := Option.bind_eq_some_iff.mp H; obtain ⟨t231, A70, H⟩ := H; have A7 := ak A70; clear A70
            by_cases c8 : t231 = true
            · subst c8; rw [if_pos rfl] at H; obtain rfl := Option.some.inj H; have p230 : 0 ≤ (x8_1 : Int) := as_; have q230 : x8_1 < (l0.length : Int) := as_; obtain ⟨ad230, e230, hx230_0, hx230_1, hx230_2⟩ := at_T99 HR0.out x8_1 p230 q230
              cases e230
              replace hx230_0 := hbc_ HB.out hx230_0; replace hx230_1 := hbc_ HB.out hx230_1; replace hx230_2 := hbc_ HB.out hx230_2; replace p230 := eq_true p230; replace q230 := eq_true q230
              go_wp2_with (first | ((with_reducible refine Go.Proofs.Ytcboagkbcoihjaa.XOpens.gate_calleeV (t := 11) rfl ?_); refine Go.Proofs.Ytcboagkbcoihjaa.XOpens.goesV_ (some 16) rfl rfl Try.func172 (by kernel_rfl) rfl #[.agg #[.string ((rd_I_Sym l0 x8_1).f0), .int .i64 ((rd_I_Sym l0 x8_1).f1), .bool ((rd_I_Sym l0 x8_1).f2)], .pointer (some ⟨G2, 0, none⟩)] rfl rfl (by (try simp only [List.map_toArray, List.map_cons, List.map_nil]); first | done | rfl | (simp only [List.length_drop, List.length_take]; rfl)) ?_; (with_reducible refine (impl_SymOf_1.calls ((rd_I_Sym l0 x8_1).f0) ((rd_I_Sym l0 x8_1).f1) ((rd_I_Sym l0 x8_1).f2) G2 a2_0 true _ ?side1 A7.out).mono ?_); (case side1 => exact (bk_ BK2.out)); rintro e w9 ⟨rfl, hb⟩; refine ⟨_, rfl, ?_⟩; replace BK2 := ak (blk_below (bk_ BK2.out) hb); replace HB := ak (below_step (bl_ HB.out) hb); (try clear hb); (try clear hb2); (try clear hk); (try clear hi)))
              go_ret
              exact fin_ (bl_ HB.out)
            replace c8 := Bool.eq_false_iff.mpr c8; subst c8; rw [if_neg (show ¬ (false = true) by decide)] at H; have H' := ak H; clear H; have p230 : 0 ≤ (x8_1 : Int) := as_; have q230 : x8_1 < (l0.length : Int) := as_; obtain ⟨ad230, e230, hx230_0, hx230_1, hx230_2⟩ := at_T99 HR0.out x8_1 p230 q230
            cases e230
            replace hx230_0 := hbc_ HB.out hx230_0; replace hx230_1 := hbc_ HB.out hx230_1; replace hx230_2 := hbc_ HB.out hx230_2; replace p230 := eq_true p230; replace q230 := eq_true q230
            go_wp2_with (first | ((with_reducible refine Go.Proofs.Ytcboagkbcoihjaa.XOpens.gate_calleeV (t := 11) rfl ?_); refine Go.Proofs.Ytcboagkbcoihjaa.XOpens.goesV_ (some 16) rfl rfl Try.func172 (by kernel_rfl) rfl #[.agg #[.string ((rd_I_Sym l0 x8_1).f0), .int .i64 ((rd_I_Sym l0 x8_1).f1), .bool ((rd_I_Sym l0 x8_1).f2)], .pointer (some ⟨G2, 0, none⟩)] rfl rfl (by (try simp only [List.map_toArray, List.map_cons, List.map_nil]); first | done | rfl | (simp only [List.length_drop, List.length_take]; rfl)) ?_; (with_reducible refine (impl_SymOf_1.calls ((rd_I_Sym l0 x8_1).f0) ((rd_I_Sym l0 x8_1).f1) ((rd_I_Sym l0 x8_1).f2) G2 a2_0 false _ ?side1 A7.out).mono ?_); (case side1 => exact (bk_ BK2.out)); rintro e w10 ⟨rfl, hb⟩; refine ⟨_, rfl, ?_⟩; replace BK2 := ak (blk_below (bk_ BK2.out) hb); replace HB := ak (below_step (bl_ HB.out) hb); (try clear hb); (try clear hb2); (try clear hk); (try clear hi)))
            go_roundg k1
            case measure => have := HK1.out; omega
            case rel => exact ⟨(wrap64 (x8_1 + 1)), (by first | rfl | (simp; done) | (simp [*]; done)), H', ⟨by have := HK1.out; omega⟩, ⟨bk_ BK2.out⟩, ⟨bl_ HB.out⟩⟩
          rw [if_neg c6] at H; exact absurd H (by simp)
        rw [if_neg c5] at H; exact absurd H (by simp)
      rw [if_neg c4] at H; have c4b0 := decide_eq_false c4; clear c4; obtain rfl := Option.some.inj H
      go_wp2
      go_ret
      exact fin_ (bl_ HB.out)

/-! ### impl_SymOf: function 145 -/
def impl_SymOf.f (k : Nat) (l0 : List (I_Sym)) (a1 : ByteArray) : Option (Int) := (impl_Sym__with_impl_SymOf_1.f k l0 a1).bind fun t233 => (some t233)
theorem impl_SymOf.mono : ∀ a0 a1 k, LeO (impl_SymOf.f k a0 a1) (impl_SymOf.f (k + 1) a0 a1) := by
  intro a0 a1 k
  unfold impl_SymOf.f
  repeat' first
      | (with_reducible exact impl_Sym__with_impl_SymOf_1.mono _ _ _)
      | (with_reducible exact LeO.refl _)
      | (with_reducible exact LeO.none _)
      | (with_reducible refine LeO.ite ?_ ?_)
      | (with_reducible refine LeO.bind ?_ (fun _ => ?_))
      | exact impl_Sym__with_impl_SymOf_1.mono _ _ _
      | exact LeO.none _
      | refine LeO.ite ?_ ?_
      | refine LeO.bind ?_ (fun _ => ?_)
set_option maxHeartbeats 8000000 in
set_option maxRecDepth 100000 in
theorem impl_SymOf.calls (k : Nat) (A0 : Option Addr) (c0 : Nat) (l0 : List (I_Sym)) (a1 : ByteArray) (r : Int) (w : World) (hr0 : Kd.C k99 w A0 l0.length l0) (hc0 : l0.length ≤ c0) (h : impl_SymOf.f k l0 a1 = some r) :
    Calls Try.prog 145 #[.slice A0 l0.length c0, .string a1] w fun e w' => e = .returned (.int .i64 r) ∧ Below w.heap.size w w' := by
  have HR0 := ak hr0; have HC0 := ak hc0; clear hr0 hc0; have HB := ak (Below.refl w.heap.size w); have H : ((impl_Sym__with_impl_SymOf_1.f k l0 a1).bind fun t233 => (some t233)) = some r := h; clear h; replace H := Option.bind_eq_some_iff.mp H; obtain ⟨t233, A30, H⟩ := H; have A3 := ak A30; clear A30; obtain rfl := Option.some.inj H
  go_enter Try.func145, Try.ntmps145
  go_wp2_with (first | ((with_reducible refine gate_dst (N := 3) rfl ?_); refine bxe_ (N := 3) (cs := #[.string a1]) (t := 9) ?_; intro gb232 hg w4 hbox hb; have BK232 := ak (hbox); have GW232 := ak (lg_ hg (bl_ HB.out)); have GE232 := ak (lg_ hg (bl_ HB.out)); replace HB := ak (below_step (bl_ HB.out) hb); clear hb hbox hg) | ((with_reducible refine gate_callee (f := 171) rfl ?_); refine goesM_ (some 7) rfl rfl Try.func171 (by kernel_rfl) rfl #[.slice A0 l0.length c0, .func (.func 172) #[] #[.pointer (some ⟨gb232, 0, none⟩)]] rfl ?_; (with_reducible refine (impl_Sym__with_impl_SymOf_1.calls k _ _ l0  gb232 a1 t233 _ ?side1 ?side2 ?side3 A3.out).mono ?_); (case side1 => exact cb_ HR0.out HB.out); (case side2 => exact HC0.out); (case side3 => exact (bk_ BK232.out)); rintro e w5 ⟨rfl, hb⟩; refine ⟨_, rfl, ?_⟩; replace BK232 := ak (blk_below (bk_ BK232.out) hb); replace HB := ak (below_step (bs1_ HB.out GE232.out) hb); (try clear hb); (try clear hb2); (try clear hk); (try clear hi)))
  go_ret
  exact fin_ (bs1_ HB.out GE232.out)

end Go.Proofs.Ytcboagkbcoihjaa.XRenamed
