-- printed by a program of this session (xprint, turned from the kit's print) for this claim
import Derived.Test.YtcboagkbcoihjaaXRenamedx0
import Derived.Test.YtcboagkbcoihjaaXRenamedx4
namespace Go.Proofs.Ytcboagkbcoihjaa.XRenamed
open Go.RowKit Go.Proofs.Ytcboagkbcoihjaa.XOpens Go.Proofs.YtcboagkbcoihjaaW.PrintWords Go.Proofs.YtcboagkbcoihjaaW.PrintLast Go.Proofs.YtcboagkbcoihjaaW.PrintMore
attribute [local go_sem] max2_int min2_int max_two min_two max_three min_three max_four min_four   -- for this text's walks alone
set_option linter.unusedVariables false
set_option linter.unusedSimpArgs false

/-! ### spec_WorldOk: function 31 -/
mutual
def spec_WorldOk.j0 : Nat → List (I_Sym) → Bool → Int → List (List Int) → Option (Bool)
  | 0, _, _, _, _ => none
  | k + 1, x0, x23, x187000, x187001 => if x23 = true then (some false) else (spec_WorldOk.l0 k x0 0 x187000 x187001)
def spec_WorldOk.l0 : Nat → List (I_Sym) → Int → Int → List (List Int) → Option (Bool)
  | 0, _, _, _, _ => none
  | k + 1, x0, x5, x187000, x187001 => if x5 < (x0.length : Int) then (if 0 ≤ x5 then (if x5 < (x187001.length : Int) then ((spec_l24Power.f k x187000 ((rd_I_Sym x0 x5).f1)).bind fun t191 => (if ((rd_Ls_i64 x187001 x5).length : Int) = t191 then (spec_WorldOk.l1 k x0 x5 0 x187000 x187001) else (some false))) else (none)) else (none)) else (some true)
def spec_WorldOk.l1 : Nat → List (I_Sym) → Int → Int → Int → List (List Int) → Option (Bool)
  | 0, _, _, _, _, _ => none
  | k + 1, x0, x5, x6, x187000, x187001 => if 0 ≤ x5 then (if x5 < (x187001.length : Int) then (if x6 < ((rd_Ls_i64 x187001 x5).length : Int) then (if 0 ≤ x6 then ((spec_l1In.f (rd (rd_Ls_i64 x187001 x5) x6) 0 (wrap64 (x187000 - 1))).bind fun t195 => (if t195 = true then (spec_WorldOk.l1 k x0 x5 (wrap64 (x6 + 1)) x187000 x187001) else (some false))) else (none)) else (if x5 < (x0.length : Int) then (if (rd_I_Sym x0 x5).f2 = true then ((spec_l24Blind.f k x187000 x187001 x5).bind fun t197 => (if t197 = true then (spec_WorldOk.l0 k x0 (wrap64 (x5 + 1)) x187000 x187001) else (some false))) else (spec_WorldOk.l0 k x0 (wrap64 (x5 + 1)) x187000 x187001)) else (none))) else (none)) else (none)
end
def spec_WorldOk.f (k : Nat) (l0 : List (I_Sym)) (a1_0 : Int) (l1_1 : List (List Int)) : Option (Bool) := (spec_SigOk.f k l0).bind fun t187 => (if t187 = true then ((spec_l1In.f a1_0 1 4).bind fun t188 => (if t188 = true then (spec_WorldOk.j0 k l0 ((l1_1.length : Int) != (l0.length : Int)) a1_0 l1_1) else (spec_WorldOk.j0 k l0 true a1_0 l1_1))) else (spec_WorldOk.j0 k l0 true a1_0 l1_1))
theorem spec_WorldOk.mono_l : ∀ k, (∀ y0 y1 y2 y3, LeO (spec_WorldOk.j0 k y0 y1 y2 y3) (spec_WorldOk.j0 (k + 1) y0 y1 y2 y3)) ∧ (∀ y0 y1 y2 y3, LeO (spec_WorldOk.l0 k y0 y1 y2 y3) (spec_WorldOk.l0 (k + 1) y0 y1 y2 y3)) ∧ (∀ y0 y1 y2 y3 y4, LeO (spec_WorldOk.l1 k y0 y1 y2 y3 y4) (spec_WorldOk.l1 (k + 1) y0 y1 y2 y3 y4))
  | 0 => ⟨fun _ _ _ _ r h => by simp [spec_WorldOk.j0] at h, fun _ _ _ _ r h => by simp [spec_WorldOk.l0] at h, fun _ _ _ _ _ r h => by simp [spec_WorldOk.l1] at h⟩
  | k + 1 => by
    obtain ⟨ih0, ih1, ih2⟩ := spec_WorldOk.mono_l k; refine ⟨?_, ?_, ?_⟩
    · intro y0 y1 y2 y3
      unfold spec_WorldOk.j0
      repeat' first | (with_reducible first | exact ih0 _ _ _ _ | exact ih1 _ _ _ _ | exact ih2 _ _ _ _ _ | exact spec_SigOk.mono _ _ | exact spec_l24Blind.mono _ _ _ _ | exact spec_l24Power.mono _ _ _ | exact LeO.refl _ | exact LeO.none _ | refine LeO.ite ?_ ?_ | refine LeO.bind ?_ (fun _ => ?_)) | exact ih0 _ _ _ _ | exact ih1 _ _ _ _ | exact ih2 _ _ _ _ _ | exact spec_SigOk.mono _ _ | exact spec_l24Blind.mono _ _ _ _ | exact spec_l24Power.mono _ _ _ | exact LeO.none _ | refine LeO.ite ?_ ?_ | refine LeO.bind ?_ (fun _ => ?_)
    · intro y0 y1 y2 y3
      unfold spec_WorldOk.l0
      repeat' first | (with_reducible first | exact ih0 _ _ _ _ | exact ih1 _ _ _ _ | exact ih2 _ _ _ _ _ | exact spec_SigOk.mono _ _ | exact spec_l24Blind.mono _ _ _ _ | exact spec_l24Power.mono _ _ _ | exact LeO.refl _ | exact LeO.none _ | refine LeO.ite ?_ ?_ | refine LeO.bind ?_ (fun _ => ?_)) | exact ih0 _ _ _ _ | exact ih1 _ _ _ _ | exact ih2 _ _ _ _ _ | exact spec_SigOk.mono _ _ | exact spec_l24Blind.mono _ _ _ _ | exact spec_l24Power.mono _ _ _ | exact LeO.none _ | refine LeO.ite ?_ ?_ | refine LeO.bind ?_ (fun _ => ?_)
    · intro y0 y1 y2 y3 y4
      unfold spec_WorldOk.l1
      repeat' first | (with_reducible first | exact ih0 _ _ _ _ | exact ih1 _ _ _ _ | exact ih2 _ _ _ _ _ | exact spec_SigOk.mono _ _ | exact spec_l24Blind.mono _ _ _ _ | exact spec_l24Power.mono _ _ _ | exact LeO.refl _ | exact LeO.none _ | refine LeO.ite ?_ ?_ | refine LeO.bind ?_ (fun _ => ?_)) | exact ih0 _ _ _ _ | exact ih1 _ _ _ _ | exact ih2 _ _ _ _ _ | exact spec_SigOk.mono _ _ | exact spec_l24Blind.mono _ _ _ _ | exact spec_l24Power.mono _ _ _ | exact LeO.none _ | refine LeO.ite ?_ ?_ | refine LeO.bind ?_ (fun _ => ?_)
theorem spec_WorldOk.mono : ∀ a0 a1 a2 k, LeO (spec_WorldOk.f k a0 a1 a2) (spec_WorldOk.f (k + 1) a0 a1 a2) := by
  intro a0 a1 a2 k; obtain ⟨ih0, ih1, ih2⟩ := spec_WorldOk.mono_l k
  unfold spec_WorldOk.f
  repeat' first
      | (with_reducible exact ih0 _ _ _ _)
      | (with_reducible exact ih1 _ _ _ _)
      | (with_reducible exact ih2 _ _ _ _ _)
      | (with_reducible exact spec_SigOk.mono _ _)
      | (with_reducible exact spec_l24Blind.mono _ _ _ _)
      | (with_reducible exact spec_l24Power.mono _ _ _)
      | (with_reducible exact LeO.refl _)
      | (with_reducible exact LeO.none _)
      | (with_reducible refine LeO.ite ?_ ?_)
      | (with_reducible refine LeO.bind ?_ (fun _ => ?_))
      | exact ih0 _ _ _ _
      | exact ih1 _ _ _ _
      | exact ih2 _ _ _ _ _
      | exact spec_SigOk.mono _ _
      | exact spec_l24Blind.mono _ _ _ _
      | exact spec_l24Power.mono _ _ _
      | exact LeO.none _
      | refine LeO.ite ?_ ?_
      | refine LeO.bind ?_ (fun _ => ?_)
set_option maxHeartbeats 8000000 in
set_option maxRecDepth 100000 in
theorem spec_WorldOk.calls (k : Nat) (A0 : Option Addr) (c0 : Nat) (l0 : List (I_Sym)) (a1_0 : Int) (A1_1 : Option Addr) (c1_1 : Nat) (l1_1 : List (List Int)) (r : Bool) (w : World) (hr0 : Kd.C k99 w A0 l0.length l0) (hc0 : l0.length ≤ c0) (hr1_1 : Kd.C (Kd.slice 3 (Kd.int .i64)) w A1_1 l1_1.length l1_1) (hc1_1 : l1_1.length ≤ c1_1) (h : spec_WorldOk.f k l0 a1_0 l1_1 = some r) :
    Calls Try.prog 31 #[.slice A0 l0.length c0, .agg #[.int .i64 a1_0, .slice A1_1 l1_1.length c1_1]] w fun e w' => e = .returned (.bool r) ∧ Below w.heap.size w w' := by
  have hu51 := Try.underlying51; have HR0 := ak hr0; have HC0 := ak hc0; clear hr0 hc0; have HR1_1 := ak hr1_1; have HC1_1 := ak hc1_1; clear hr1_1 hc1_1; have HB := ak (Below.refl w.heap.size w); have H : ((spec_SigOk.f k l0).bind fun t187 => (if t187 = true then ((spec_l1In.f a1_0 1 4).bind fun t188 => (if t188 = true then (spec_WorldOk.j0 k l0 ((l1_1.length : Int) != (l0.length : Int)) a1_0 l1_1) else (spec_WorldOk.j0 k l0 true a1_0 l1_1))) else (spec_WorldOk.j0 k l0 true a1_0 l1_1))) = some r := h; clear h; have HC3 := ak H; clear H
  go_enter Try.func31, Try.ntmps31
  go_upto_region 1 with (first | ((with_reducible refine gate_dst (N := 3) rfl ?_); (try (refine gate_guard (by rfl) ?_; dsimp only)); refine bxe_ (N := 3) (cs := #[.int .i64 a1_0, .slice A1_1 l1_1.length c1_1]) (t := 51) ?_; intro gb186 hg w4 hbox hb; have BK186 := ak (hbox); have GW186 := ak (lg_ hg (bl_ HB.out)); have GE186 := ak (lg_ hg (bl_ HB.out)); replace HB := ak (below_step (bl_ HB.out) hb); clear hb hbox hg))
  repeat (go_quiet (first | ((with_reducible refine gate_dst (N := 3) rfl ?_); (try (refine gate_guard (by rfl) ?_; dsimp only)); refine bxe_ (N := 3) (cs := #[.int .i64 a1_0, .slice A1_1 l1_1.length c1_1]) (t := 51) ?_; intro gb186 hg w4 hbox hb; have BK186 := ak (hbox); have GW186 := ak (lg_ hg (bl_ HB.out)); have GE186 := ak (lg_ hg (bl_ HB.out)); replace HB := ak (below_step (bl_ HB.out) hb); clear hb hbox hg)); go_upto_region 1 with (first | ((with_reducible refine gate_dst (N := 3) rfl ?_); (try (refine gate_guard (by rfl) ?_; dsimp only)); refine bxe_ (N := 3) (cs := #[.int .i64 a1_0, .slice A1_1 l1_1.length c1_1]) (t := 51) ?_; intro gb186 hg w4 hbox hb; have BK186 := ak (hbox); have GW186 := ak (lg_ hg (bl_ HB.out)); have GE186 := ak (lg_ hg (bl_ HB.out)); replace HB := ak (below_step (bl_ HB.out) hb); clear hb hbox hg)))
  (try simp only [Act.put, List.setIfInBounds_toArray, List.set_cons_zero, List.set_cons_succ])
  go_cut [23] (fun v23 wc => ∃ (kq : Nat) (x23_2 : Bool), v23 = .bool x23_2 ∧ Aside0 (spec_WorldOk.j0 kq l0 x23_2 a1_0 l1_1 = some r) ∧ Aside0 (kq ≤ k) ∧ Aside0 (wc.heap[gb186]? = some (.cells #[.int .i64 a1_0, (.slice A1_1 l1_1.length c1_1)] 51 (0, 0))) ∧ Aside0 (Below w.heap.size w wc))
  case first =>
    have H := HC3.out; clear HC3; replace H := Option.bind_eq_some_iff.mp H; obtain ⟨t187, A50, H⟩ := H; have A5 := ak A50; clear A50
    by_cases c6 : t187 = true
    · subst c6; rw [if_pos rfl] at H; replace H := Option.bind_eq_some_iff.mp H; obtain ⟨t188, A70, H⟩ := H; have A7 := ak A70; clear A70
      by_cases c8 : t188 = true
      · subst c8; rw [if_pos rfl] at H; have H' := ak H; clear H
        go_wp2_with (first | (go_at_call 78; (with_reducible refine (spec_SigOk.calls k _ _ l0 true _ ?side1 ?side2 A5.out).mono ?_); (case side1 => exact cb_ HR0.out HB.out); (case side2 => exact HC0.out); rintro e w' ⟨rfl, ⟨nd, rfl⟩⟩; (try first | exact ⟨rfl, _, World.drewN_drewN _ _ _⟩ | exact ⟨rfl, _, Eq.trans (World.drewN_drewN _ _ _) (congrArg (World.drewN _) (Nat.add_assoc _ _ _))⟩); have hcz9_0 := bc_ BK186.out 0; have hcz9_1 := bc_ BK186.out 1; have hfz9_0 := blk_frozen BK186.out 0; have hfz9_1 := blk_frozen BK186.out 1) | (go_at_call 79; (with_reducible refine (spec_l1In.calls a1_0 1 4 true _ A7.out).mono ?_); rintro e w' ⟨rfl, ⟨nd, rfl⟩⟩; (try first | exact ⟨rfl, _, World.drewN_drewN _ _ _⟩ | exact ⟨rfl, _, Eq.trans (World.drewN_drewN _ _ _) (congrArg (World.drewN _) (Nat.add_assoc _ _ _))⟩)))
        repeat (go_quiet (first | (go_at_call 78; (with_reducible refine (spec_SigOk.calls k _ _ l0 true _ ?side1 ?side2 A5.out).mono ?_); (case side1 => exact cb_ HR0.out HB.out); (case side2 => exact HC0.out); rintro e w' ⟨rfl, ⟨nd, rfl⟩⟩; (try first | exact ⟨rfl, _, World.drewN_drewN _ _ _⟩ | exact ⟨rfl, _, Eq.trans (World.drewN_drewN _ _ _) (congrArg (World.drewN _) (Nat.add_assoc _ _ _))⟩); have hcz9_0 := bc_ BK186.out 0; have hcz9_1 := bc_ BK186.out 1; have hfz9_0 := blk_frozen BK186.out 0; have hfz9_1 := blk_frozen BK186.out 1) | (go_at_call 79; (with_reducible refine (spec_l1In.calls a1_0 1 4 true _ A7.out).mono ?_); rintro e w' ⟨rfl, ⟨nd, rfl⟩⟩; (try first | exact ⟨rfl, _, World.drewN_drewN _ _ _⟩ | exact ⟨rfl, _, Eq.trans (World.drewN_drewN _ _ _) (congrArg (World.drewN _) (Nat.add_assoc _ _ _))⟩))); try go_wp2_with (first | (go_at_call 78; (with_reducible refine (spec_SigOk.calls k _ _ l0 true _ ?side1 ?side2 A5.out).mono ?_); (case side1 => exact cb_ HR0.out HB.out); (case side2 => exact HC0.out); rintro e w' ⟨rfl, ⟨nd, rfl⟩⟩; (try first | exact ⟨rfl, _, World.drewN_drewN _ _ _⟩ | exact ⟨rfl, _, Eq.trans (World.drewN_drewN _ _ _) (congrArg (World.drewN _) (Nat.add_assoc _ _ _))⟩); have hcz9_0 := bc_ BK186.out 0; have hcz9_1 := bc_ BK186.out 1; have hfz9_0 := blk_frozen BK186.out 0; have hfz9_1 := blk_frozen BK186.out 1) | (go_at_call 79; (with_reducible refine (spec_l1In.calls a1_0 1 4 true _ A7.out).mono ?_); rintro e w' ⟨rfl, ⟨nd, rfl⟩⟩; (try first | exact ⟨rfl, _, World.drewN_drewN _ _ _⟩ | exact ⟨rfl, _, Eq.trans (World.drewN_drewN _ _ _) (congrArg (World.drewN _) (Nat.add_assoc _ _ _))⟩))))
        go_meet
        case rel => exact ⟨_, (((l1_1.length : Int) != (l0.length : Int))), (by first | rfl | (simp; done) | (simp [*]; done)), H', ⟨by first | omega | exact Nat.le_refl _⟩, ⟨bk_ BK186.out⟩, ⟨bs1_ HB.out GE186.out⟩⟩
      replace c8 := Bool.eq_false_iff.mpr c8; subst c8; rw [if_neg (show ¬ (false = true) by decide)] at H; have H' := ak H; clear H
      go_wp2_with (first | (go_at_call 78; (with_reducible refine (spec_SigOk.calls k _ _ l0 true _ ?side1 ?side2 A5.out).mono ?_); (case side1 => exact cb_ HR0.out HB.out); (case side2 => exact HC0.out); rintro e w' ⟨rfl, ⟨nd, rfl⟩⟩; (try first | exact ⟨rfl, _, World.drewN_drewN _ _ _⟩ | exact ⟨rfl, _, Eq.trans (World.drewN_drewN _ _ _) (congrArg (World.drewN _) (Nat.add_assoc _ _ _))⟩); have hcz10_0 := bc_ BK186.out 0; have hcz10_1 := bc_ BK186.out 1; have hfz10_0 := blk_frozen BK186.out 0; have hfz10_1 := blk_frozen BK186.out 1) | (go_at_call 79; (with_reducible refine (spec_l1In.calls a1_0 1 4 false _ A7.out).mono ?_); rintro e w' ⟨rfl, ⟨nd, rfl⟩⟩; (try first | exact ⟨rfl, _, World.drewN_drewN _ _ _⟩ | exact ⟨rfl, _, Eq.trans (World.drewN_drewN _ _ _) (congrArg (World.drewN _) (Nat.add_assoc _ _ _))⟩)))
      repeat (go_quiet (first | (go_at_call 78; (with_reducible refine (spec_SigOk.calls k _ _ l0 true _ ?side1 ?side2 A5.out).mono ?_); (case side1 => exact cb_ HR0.out HB.out); (case side2 => exact HC0.out); rintro e w' ⟨rfl, ⟨nd, rfl⟩⟩; (try first | exact ⟨rfl, _, World.drewN_drewN _ _ _⟩ | exact ⟨rfl, _, Eq.trans (World.drewN_drewN _ _ _) (congrArg (World.drewN _) (Nat.add_assoc _ _ _))⟩); have hcz10_0 := bc_ BK186.out 0; have hcz10_1 := bc_ BK186.out 1; have hfz10_0 := blk_frozen BK186.out 0; have hfz10_1 := blk_frozen BK186.out 1) | (go_at_call 79; (with_reducible refine (spec_l1In.calls a1_0 1 4 false _ A7.out).mono ?_); rintro e w' ⟨rfl, ⟨nd, rfl⟩⟩; (try first | exact ⟨rfl, _, World.drewN_drewN _ _ _⟩ | exact ⟨rfl, _, Eq.trans (World.drewN_drewN _ _ _) (congrArg (World.drewN _) (Nat.add_assoc _ _ _))⟩))); try go_wp2_with (first | (go_at_call 78; (with_reducible refine (spec_SigOk.calls k _ _ l0 true _ ?side1 ?side2 A5.out).mono ?_); (case side1 => exact cb_ HR0.out HB.out); (case side2 => exact HC0.out); rintro e w' ⟨rfl, ⟨nd, rfl⟩⟩; (try first | exact ⟨rfl, _, World.drewN_drewN _ _ _⟩ | exact ⟨rfl, _, Eq.trans (World.drewN_drewN _ _ _) (congrArg (World.drewN _) (Nat.add_assoc _ _ _))⟩); have hcz10_0 := bc_ BK186.out 0; have hcz10_1 := bc_ BK186.out 1; have hfz10_0 := blk_frozen BK186.out 0; have hfz10_1 := blk_frozen BK186.out 1) | (go_at_call 79; (with_reducible refine (spec_l1In.calls a1_0 1 4 false _ A7.out).mono ?_); rintro e w' ⟨rfl, ⟨nd, rfl⟩⟩; (try first | exact ⟨rfl, _, World.drewN_drewN _ _ _⟩ | exact ⟨rfl, _, Eq.trans (World.drewN_drewN _ _ _) (congrArg (World.drewN _) (Nat.add_assoc _ _ _))⟩))))
      go_meet
      case rel => exact ⟨_, (true), (by first | rfl | (simp; done) | (simp [*]; done)), H', ⟨by first | omega | exact Nat.le_refl _⟩, ⟨bk_ BK186.out⟩, ⟨bs1_ HB.out GE186.out⟩⟩
    replace c6 := Bool.eq_false_iff.mpr c6; subst c6; rw [if_neg (show ¬ (false = true) by decide)] at H; have H' := ak H; clear H
    go_wp2_with (first | (go_at_call 78; (with_reducible refine (spec_SigOk.calls k _ _ l0 false _ ?side1 ?side2 A5.out).mono ?_); (case side1 => exact cb_ HR0.out HB.out); (case side2 => exact HC0.out); rintro e w' ⟨rfl, ⟨nd, rfl⟩⟩; (try first | exact ⟨rfl, _, World.drewN_drewN _ _ _⟩ | exact ⟨rfl, _, Eq.trans (World.drewN_drewN _ _ _) (congrArg (World.drewN _) (Nat.add_assoc _ _ _))⟩)))
    repeat (go_quiet (first | (go_at_call 78; (with_reducible refine (spec_SigOk.calls k _ _ l0 false _ ?side1 ?side2 A5.out).mono ?_); (case side1 => exact cb_ HR0.out HB.out); (case side2 => exact HC0.out); rintro e w' ⟨rfl, ⟨nd, rfl⟩⟩; (try first | exact ⟨rfl, _, World.drewN_drewN _ _ _⟩ | exact ⟨rfl, _, Eq.trans (World.drewN_drewN _ _ _) (congrArg (World.drewN _) (Nat.add_assoc _ _ _))⟩))); try go_wp2_with (first | (go_at_call 78; (with_reducible refine (spec_SigOk.calls k _ _ l0 false _ ?side1 ?side2 A5.out).mono ?_); (case side1 => exact cb_ HR0.out HB.out); (case side2 => exact HC0.out); rintro e w' ⟨rfl, ⟨nd, rfl⟩⟩; (try first | exact ⟨rfl, _, World.drewN_drewN _ _ _⟩ | exact ⟨rfl, _, Eq.trans (World.drewN_drewN _ _ _) (congrArg (World.drewN _) (Nat.add_assoc _ _ _))⟩))))
    go_meet
    case rel => exact ⟨_, (true), (by first | rfl | (simp; done) | (simp [*]; done)), H', ⟨by first | omega | exact Nat.le_refl _⟩, ⟨bk_ BK186.out⟩, ⟨bs1_ HB.out GE186.out⟩⟩
  case rest =>
    clear HC3; (try clear c1); (try clear p2); (try clear c3); (try clear c6); (try clear c8); (try clear hcz10_0); (try clear hcz10_1); (try clear hcz9_0); (try clear hcz9_1); (try clear hfz10_0); (try clear hfz10_1); (try clear hfz9_0); (try clear hfz9_1); obtain ⟨kq, x23_2, rfl, HA, HJ2, BK186, HB⟩ := hcut
    cases kq with
    | zero => exact absurd HA.out (by simp [spec_WorldOk.j0])
    | succ kj2 =>
      have H := HA.out; clear HA
      simp only [spec_WorldOk.j0] at H
      by_cases c11 : x23_2 = true
      · subst c11; rw [if_pos rfl] at H; obtain rfl := Option.some.inj H
        go_wp2
        repeat (go_quiet (fail); try go_wp2)
        go_ret
        exact fin_ (bs1_ HB.out GE186.out)
      replace c11 := Bool.eq_false_iff.mpr c11; subst c11; rw [if_neg (show ¬ (false = true) by decide)] at H; have H' := ak H; clear H
      go_wp2
      repeat (go_quiet (fail); try go_wp2)
      go_loopg [5] kj2 (fun kq v5 w' => ∃ (x5_2 : Int), v5 = .int .i64 x5_2 ∧ Aside0 (spec_WorldOk.l0 kq l0 x5_2 a1_0 l1_1 = some r) ∧ Aside0 (kq ≤ kj2) ∧ Aside0 (w'.heap[gb186]? = some (.cells #[.int .i64 a1_0, (.slice A1_1 l1_1.length c1_1)] 51 (0, 0))) ∧ Aside0 (Below w.heap.size w w'))
      case atStart => exact ⟨(0), (by first | rfl | (simp; done) | (simp [*]; done)), H', ⟨Nat.le_refl _⟩, ⟨bk_ BK186.out⟩, ⟨bs1_ HB.out GE186.out⟩⟩
      case round =>
        clear H'; (try clear c1); (try clear p2); (try clear c3); (try clear c6); (try clear c8); (try clear c11); (try clear hcz10_0); (try clear hcz10_1); (try clear hcz9_0); (try clear hcz9_1); (try clear hfz10_0); (try clear hfz10_1); (try clear hfz9_0); (try clear hfz9_1); (try clear p2); obtain ⟨x5_2, rfl, HA, HK2, BK186, HB⟩ := hrel
        cases gk with
        | zero => exact absurd HA.out (by simp [spec_WorldOk.l0])
        | succ k2 =>
          have H := HA.out; clear HA
          simp only [spec_WorldOk.l0] at H
          by_cases c12 : x5_2 < (l0.length : Int)
          · rw [if_pos c12] at H; have c12b0 := decide_eq_true c12; clear c12
            by_cases c13 : 0 ≤ x5_2
            · rw [if_pos c13] at H; have c13b0 := decide_eq_true c13; clear c13
              by_cases c14 : x5_2 < (l1_1.length : Int)
              · rw [if_pos c14] at H; have c14b0 := decide_eq_true c14; clear c14; replace H := Option.bind_eq_some_iff.mp H; obtain ⟨t191, A150, H⟩ := H; have A15 := ak A150; clear A150
                by_cases c16 : ((rd_Ls_i64 l1_1 x5_2).length : Int) = t191
                · rw [if_pos c16] at H; have c16b0 : (((rd_Ls_i64 l1_1 x5_2).length : Int) == t191) = true := beq_iff_eq.mpr c16; have c16b1 : (((rd_Ls_i64 l1_1 x5_2).length : Int) != t191) = false := bne_eq_false_iff_eq.mpr c16; clear c16; have H' := ak H; clear H; have hcz17_0 := bc_ BK186.out 0; have hcz17_1 := bc_ BK186.out 1; have hfz17_0 := blk_frozen BK186.out 0; have hfz17_1 := blk_frozen BK186.out 1; have p189 : 0 ≤ (x5_2 : Int) := as_; have q189 : x5_2 < (l1_1.length : Int) := as_; obtain ⟨ad189, A189_0, c189_0, e189, hx189_0, hl189_0, hi189_0⟩ := at_L5 HR1_1.out x5_2 p189 q189
                  cases e189
                  replace hx189_0 := hbc_ HB.out hx189_0; have HR189_0 := ak hi189_0; have HC189_0 := ak hl189_0; clear hi189_0 hl189_0; replace p189 := eq_true p189; replace q189 := eq_true q189; have p190 : 0 ≤ (x5_2 : Int) := as_; have q190 : x5_2 < (l0.length : Int) := as_; obtain ⟨ad190, e190, hx190_0, hx190_1, hx190_2⟩ := at_T99 HR0.out x5_2 p190 q190
                  cases e190
                  replace hx190_0 := hbc_ HB.out hx190_0; replace hx190_1 := hbc_ HB.out hx190_1; replace hx190_2 := hbc_ HB.out hx190_2; replace p190 := eq_true p190; replace q190 := eq_true q190
                  go_wp2_with (first | (go_at_call 84; (with_reducible refine (spec_l24Power.calls k2 a1_0 ((rd_I_Sym l0 x5_2).f1) t191 _ A15.out).mono ?_); rintro e w' ⟨rfl, ⟨nd, rfl⟩⟩; (try first | exact ⟨rfl, _, World.drewN_drewN _ _ _⟩ | exact ⟨rfl, _, Eq.trans (World.drewN_drewN _ _ _) (congrArg (World.drewN _) (Nat.add_assoc _ _ _))⟩)))
                  repeat (go_quiet (first | (go_at_call 84; (with_reducible refine (spec_l24Power.calls k2 a1_0 ((rd_I_Sym l0 x5_2).f1) t191 _ A15.out).mono ?_); rintro e w' ⟨rfl, ⟨nd, rfl⟩⟩; (try first | exact ⟨rfl, _, World.drewN_drewN _ _ _⟩ | exact ⟨rfl, _, Eq.trans (World.drewN_drewN _ _ _) (congrArg (World.drewN _) (Nat.add_assoc _ _ _))⟩))); try go_wp2_with (first | (go_at_call 84; (with_reducible refine (spec_l24Power.calls k2 a1_0 ((rd_I_Sym l0 x5_2).f1) t191 _ A15.out).mono ?_); rintro e w' ⟨rfl, ⟨nd, rfl⟩⟩; (try first | exact ⟨rfl, _, World.drewN_drewN _ _ _⟩ | exact ⟨rfl, _, Eq.trans (World.drewN_drewN _ _ _) (congrArg (World.drewN _) (Nat.add_assoc _ _ _))⟩))))
                  go_loopg [6] k2 (fun kq v6 w' => ∃ (x6_3 : Int), v6 = .int .i64 x6_3 ∧ Aside0 (spec_WorldOk.l1 kq l0 x5_2 x6_3 a1_0 l1_1 = some r) ∧ Aside0 (kq ≤ k2) ∧ Aside0 (w'.heap[gb186]? = some (.cells #[.int .i64 a1_0, (.slice (some ad189) l1_1.length c1_1)] 51 (0, 0))) ∧ Aside0 (Below w.heap.size w w'))
                  case atStart => exact ⟨(0), (by first | rfl | (simp; done) | (simp [*]; done)), H', ⟨Nat.le_refl _⟩, ⟨bk_ BK186.out⟩, ⟨bs1_ HB.out GE186.out⟩⟩
                  case round =>
                    clear H'; (try clear c1); (try clear p1); (try clear q1); (try clear hx1); (try clear p2); (try clear c3); (try clear c6); (try clear c8); (try clear c11); (try clear c12); (try clear c12b0); (try clear c13); (try clear c13b0); (try clear c14); (try clear c14b0); (try clear c16); (try clear c16b0); (try clear c16b1); (try clear hcz10_0); (try clear hcz10_1); (try clear hcz17_0); (try clear hcz17_1); (try clear hcz9_0); (try clear hcz9_1); (try clear hfz10_0); (try clear hfz10_1); (try clear hfz17_0); (try clear hfz17_1); (try clear hfz9_0); (try clear hfz9_1); (try clear hx189_0); (try clear hx190_0); (try clear hx190_1); (try clear hx190_2); (try clear p189); (try clear p190); (try clear p2); (try clear q189); (try clear q190); obtain ⟨x6_3, rfl, HA, HK3, BK186, HB⟩ := hrel
                    cases gk with
                    | zero => exact absurd HA.out (by simp [spec_WorldOk.l1])
                    | succ k3 =>
                      have H := HA.out; clear HA
                      simp only [spec_WorldOk.l1] at H
                      by_cases c18 : 0 ≤ x5_2
                      · rw [if_pos c18] at H; have c18b0 := decide_eq_true c18; clear c18
                        by_cases c19 : x5_2 < (l1_1.length : Int)
                        · rw [if_pos c19] at H; have c19b0 := decide_eq_true c19; clear c19
                          by_cases c20 : x6_3 < ((rd_Ls_i64 l1_1 x5_2).length : Int)
                          · rw [if_pos c20] at H; have c20b0 := decide_eq_true c20; clear c20
                            by_cases c21 : 0 ≤ x6_3
                            · rw [if_pos c21] at H; have c21b0 := decide_eq_true c21; clear c21; replace H := Option.bind_eq_some_iff.mp H; obtain ⟨t195, A220, H⟩ := H; have A22 := ak A220; clear A220
                              by_cases c23 : t195 = true
                              · subst c23; rw [if_pos rfl] at H; have H' := ak H; clear H; have hcz24_0 := bc_ BK186.out 0; have hcz24_1 := bc_ BK186.out 1; have hfz24_0 := blk_frozen BK186.out 0; have hfz24_1 := blk_frozen BK186.out 1; have p192 : 0 ≤ (x5_2 : Int) := as_; have q192 : x5_2 < (l1_1.length : Int) := as_; obtain ⟨ad192, A192_0, c192_0, e192, hx192_0, hl192_0, hi192_0⟩ := at_L5 HR1_1.out x5_2 p192 q192; obtain rfl : ad189 = ad192 := (by injection e192); replace hx192_0 := hbc_ HB.out hx192_0; have HR192_0 := ak hi192_0; have HC192_0 := ak hl192_0; clear hi192_0 hl192_0; replace p192 := eq_true p192; replace q192 := eq_true q192; have p193 : 0 ≤ (x5_2 : Int) := as_; have q193 : x5_2 < (l1_1.length : Int) := as_; obtain ⟨ad193, A193_0, c193_0, e193, hx193_0, hl193_0, hi193_0⟩ := at_L5 HR1_1.out x5_2 p193 q193; obtain rfl : ad189 = ad193 := (by injection e193); replace hx193_0 := hbc_ HB.out hx193_0; have HR193_0 := ak hi193_0; have HC193_0 := ak hl193_0; clear hi193_0 hl193_0; replace p193 := eq_true p193; replace q193 := eq_true q193; have ea_ := Option.some.inj (hx192_0.symm.trans hx193_0)
                                injection ea_ with ea_ en_ ec_
                                subst ea_; subst ec_; clear en_; have p194 : 0 ≤ (x6_3 : Int) := as_; have q194 : x6_3 < ((rd_Ls_i64 l1_1 x5_2).length : Int) := as_; obtain ⟨ad194, e194, hx194_0⟩ := Kd.at_int HR193_0.out x6_3 p194 q194
                                cases e194
                                replace hx194_0 := hbc_ HB.out hx194_0; replace p194 := eq_true p194; replace q194 := eq_true q194
                                go_wp2_with (first | (go_at_call 79; (with_reducible refine (spec_l1In.calls (rd (rd_Ls_i64 l1_1 x5_2) x6_3) 0 (wrap64 (a1_0 - 1)) true _ A22.out).mono ?_); rintro e w' ⟨rfl, ⟨nd, rfl⟩⟩; (try first | exact ⟨rfl, _, World.drewN_drewN _ _ _⟩ | exact ⟨rfl, _, Eq.trans (World.drewN_drewN _ _ _) (congrArg (World.drewN _) (Nat.add_assoc _ _ _))⟩)))
                                repeat (go_quiet (first | (go_at_call 79; (with_reducible refine (spec_l1In.calls (rd (rd_Ls_i64 l1_1 x5_2) x6_3) 0 (wrap64 (a1_0 - 1)) true _ A22.out).mono ?_); rintro e w' ⟨rfl, ⟨nd, rfl⟩⟩; (try first | exact ⟨rfl, _, World.drewN_drewN _ _ _⟩ | exact ⟨rfl, _, Eq.trans (World.drewN_drewN _ _ _) (congrArg (World.drewN _) (Nat.add_assoc _ _ _))⟩))); try go_wp2_with (first | (go_at_call 79; (with_reducible refine (spec_l1In.calls (rd (rd_Ls_i64 l1_1 x5_2) x6_3) 0 (wrap64 (a1_0 - 1)) true _ A22.out).mono ?_); rintro e w' ⟨rfl, ⟨nd, rfl⟩⟩; (try first | exact ⟨rfl, _, World.drewN_drewN _ _ _⟩ | exact ⟨rfl, _, Eq.trans (World.drewN_drewN _ _ _) (congrArg (World.drewN _) (Nat.add_assoc _ _ _))⟩))))
                                go_roundg k3
                                case measure => have := HJ2.out; have := HK2.out; have := HK3.out; omega
                                case rel => exact ⟨(wrap64 (x6_3 + 1)), (by first | rfl | (simp; done) | (simp [*]; done)), H', ⟨by have := HJ2.out; have := HK2.out; have := HK3.out; omega⟩, ⟨bk_ BK186.out⟩, ⟨bs1_ HB.out GE186.out⟩⟩
                              replace c23 := Bool.eq_false_iff.mpr c23; subst c23; rw [if_neg (show ¬ (false = true) by decide)] at H; obtain rfl := Option.some.inj H; have hcz25_0 := bc_ BK186.out 0; have hcz25_1 := bc_ BK186.out 1; have hfz25_0 := blk_frozen BK186.out 0; have hfz25_1 := blk_frozen BK186.out 1; have p192 : 0 ≤ (x5_2 : Int) := as_; have q192 : x5_2 < (l1_1.length : Int) := as_; obtain ⟨ad192, A192_0, c192_0, e192, hx192_0, hl192_0, hi192_0⟩ := at_L5 HR1_1.out x5_2 p192 q192; obtain rfl : ad189 = ad192 := (by injection e192); replace hx192_0 := hbc_ HB.out hx192_0; have HR192_0 := ak hi192_0; have HC192_0 := ak hl192_0; clear hi192_0 hl192_0; replace p192 := eq_true p192; replace q192 := eq_true q192; have p193 : 0 ≤ (x5_2 : Int) := as_; have q193 : x5_2 < (l1_1.length : Int) := as_; obtain ⟨ad193, A193_0, c193_0, e193, hx193_0, hl193_0, hi193_0⟩ := at_L5 HR1_1.out x5_2 p193 q193; obtain rfl : ad189 = ad193 := (by injection e193); replace hx193_0 := hbc_ HB.out hx193_0; have HR193_0 := ak hi193_0; have HC193_0 := ak hl193_0; clear hi193_0 hl193_0; replace p193 := eq_true p193; replace q193 := eq_true q193; have ea_ := Option.some.inj (hx192_0.symm.trans hx193_0)
                              injection ea_ with ea_ en_ ec_
                              subst ea_; subst ec_; clear en_; have p194 : 0 ≤ (x6_3 : Int) := as_; have q194 : x6_3 < ((rd_Ls_i64 l1_1 x5_2).length : Int) := as_; obtain ⟨ad194, e194, hx194_0⟩ := Kd.at_int HR193_0.out x6_3 p194 q194
                              cases e194
                              replace hx194_0 := hbc_ HB.out hx194_0; replace p194 := eq_true p194; replace q194 := eq_true q194
                              go_wp2_with (first | (go_at_call 79; (with_reducible refine (spec_l1In.calls (rd (rd_Ls_i64 l1_1 x5_2) x6_3) 0 (wrap64 (a1_0 - 1)) false _ A22.out).mono ?_); rintro e w' ⟨rfl, ⟨nd, rfl⟩⟩; (try first | exact ⟨rfl, _, World.drewN_drewN _ _ _⟩ | exact ⟨rfl, _, Eq.trans (World.drewN_drewN _ _ _) (congrArg (World.drewN _) (Nat.add_assoc _ _ _))⟩)))
                              repeat (go_quiet (first | (go_at_call 79; (with_reducible refine (spec_l1In.calls (rd (rd_Ls_i64 l1_1 x5_2) x6_3) 0 (wrap64 (a1_0 - 1)) false _ A22.out).mono ?_); rintro e w' ⟨rfl, ⟨nd, rfl⟩⟩; (try first | exact ⟨rfl, _, World.drewN_drewN _ _ _⟩ | exact ⟨rfl, _, Eq.trans (World.drewN_drewN _ _ _) (congrArg (World.drewN _) (Nat.add_assoc _ _ _))⟩))); try go_wp2_with (first | (go_at_call 79; (with_reducible refine (spec_l1In.calls (rd (rd_Ls_i64 l1_1 x5_2) x6_3) 0 (wrap64 (a1_0 - 1)) false _ A22.out).mono ?_); rintro e w' ⟨rfl, ⟨nd, rfl⟩⟩; (try first | exact ⟨rfl, _, World.drewN_drewN _ _ _⟩ | exact ⟨rfl, _, Eq.trans (World.drewN_drewN _ _ _) (congrArg (World.drewN _) (Nat.add_assoc _ _ _))⟩))))
                              go_ret
                              exact fin_ (bs1_ HB.out GE186.out)
                            rw [if_neg c21] at H; exact absurd H (by simp)
                          rw [if_neg c20] at H; have c20b0 := decide_eq_false c20; clear c20
                          by_cases c26 : x5_2 < (l0.length : Int)
                          · rw [if_pos c26] at H; have c26b0 := decide_eq_true c26; clear c26; obtain ⟨bq27, hbq27⟩ : ∃ b_ : Bool, b_ = ((rd_I_Sym l0 x5_2).f2) := ⟨_, rfl⟩; replace H : (if bq27 = true then ((spec_l24Blind.f k3 a1_0 l1_1 x5_2).bind fun t197 => (if t197 = true then (spec_WorldOk.l0 k3 l0 (wrap64 (x5_2 + 1)) a1_0 l1_1) else (some false))) else (spec_WorldOk.l0 k3 l0 (wrap64 (x5_2 + 1)) a1_0 l1_1)) = some r := by rw [← hbq27] at H; exact H
                            have Nbq27 := ak hbq27; clear hbq27
                            by_cases c28 : bq27 = true
                            · subst c28; rw [if_pos rfl] at H; replace H := Option.bind_eq_some_iff.mp H; obtain ⟨t197, A290, H⟩ := H; have A29 := ak A290; clear A290
                              by_cases c30 : t197 = true
                              · subst c30; rw [if_pos rfl] at H; have H' := ak H; clear H; have hcz31_0 := bc_ BK186.out 0; have hcz31_1 := bc_ BK186.out 1; have hfz31_0 := blk_frozen BK186.out 0; have hfz31_1 := blk_frozen BK186.out 1; have p192 : 0 ≤ (x5_2 : Int) := as_; have q192 : x5_2 < (l1_1.length : Int) := as_; obtain ⟨ad192, A192_0, c192_0, e192, hx192_0, hl192_0, hi192_0⟩ := at_L5 HR1_1.out x5_2 p192 q192; obtain rfl : ad189 = ad192 := (by injection e192); replace hx192_0 := hbc_ HB.out hx192_0; have HR192_0 := ak hi192_0; have HC192_0 := ak hl192_0; clear hi192_0 hl192_0; replace p192 := eq_true p192; replace q192 := eq_true q192; have p196 : 0 ≤ (x5_2 : Int) := as_; have q196 : x5_2 < (l0.length : Int) := as_; obtain ⟨ad196, e196, hx196_0, hx196_1, hx196_2⟩ := at_T99 HR0.out x5_2 p196 q196; (try rw [← Nbq27.out] at hx196_2); (try rw [← Nbq27.out] at hw196_2); obtain rfl : ad190 = ad196 := (by injection e196); replace hx196_0 := hbc_ HB.out hx196_0; replace hx196_1 := hbc_ HB.out hx196_1; replace hx196_2 := hbc_ HB.out hx196_2; replace p196 := eq_true p196; replace q196 := eq_true q196
                                go_wp2_with (first | (go_at_call 85; (with_reducible refine (spec_l24Blind.calls k3 a1_0 _ _ l1_1 x5_2 true _ ?side1 ?side2 A29.out).mono ?_); (case side1 => exact cb_ HR1_1.out HB.out); (case side2 => exact HC1_1.out); rintro e w32 ⟨rfl, hb⟩; replace BK186 := ak (blk_below (bk_ BK186.out) hb); replace HB := ak (below_step (bs1_ HB.out GE186.out) hb); (try clear hb); (try clear hb2); (try clear hk); (try clear hi)))
                                repeat (go_quiet (first | (go_at_call 85; (with_reducible refine (spec_l24Blind.calls k3 a1_0 _ _ l1_1 x5_2 true _ ?side1 ?side2 A29.out).mono ?_); (case side1 => exact cb_ HR1_1.out HB.out); (case side2 => exact HC1_1.out); rintro e w32 ⟨rfl, hb⟩; replace BK186 := ak (blk_below (bk_ BK186.out) hb); replace HB := ak (below_step (bs1_ HB.out GE186.out) hb); (try clear hb); (try clear hb2); (try clear hk); (try clear hi))); try go_wp2_with (first | (go_at_call 85; (with_reducible refine (spec_l24Blind.calls k3 a1_0 _ _ l1_1 x5_2 true _ ?side1 ?side2 A29.out).mono ?_); (case side1 => exact cb_ HR1_1.out HB.out); (case side2 => exact HC1_1.out); rintro e w32 ⟨rfl, hb⟩; replace BK186 := ak (blk_below (bk_ BK186.out) hb); replace HB := ak (below_step (bs1_ HB.out GE186.out) hb); (try clear hb); (try clear hb2); (try clear hk); (try clear hi))))
                                go_roundg k3
                                case measure => have := HJ2.out; have := HK2.out; have := HK3.out; omega
                                case rel => exact ⟨(wrap64 (x5_2 + 1)), (by first | rfl | (simp; done) | (simp [*]; done)), H', ⟨by have := HJ2.out; have := HK2.out; have := HK3.out; omega⟩, ⟨bk_ BK186.out⟩, ⟨bs1_ HB.out GE186.out⟩⟩
                              replace c30 := Bool.eq_false_iff.mpr c30; subst c30; rw [if_neg (show ¬ (false = true) by decide)] at H; obtain rfl := Option.some.inj H; have hcz33_0 := bc_ BK186.out 0; have hcz33_1 := bc_ BK186.out 1; have hfz33_0 := blk_frozen BK186.out 0; have hfz33_1 := blk_frozen BK186.out 1; have p192 : 0 ≤ (x5_2 : Int) := as_; have q192 : x5_2 < (l1_1.length : Int) := as_; obtain ⟨ad192, A192_0, c192_0, e192, hx192_0, hl192_0, hi192_0⟩ := at_L5 HR1_1.out x5_2 p192 q192; obtain rfl : ad189 = ad192 := (by injection e192); replace hx192_0 := hbc_ HB.out hx192_0; have HR192_0 := ak hi192_0; have HC192_0 := ak hl192_0; clear hi192_0 hl192_0; replace p192 := eq_true p192; replace q192 := eq_true q192; have p196 : 0 ≤ (x5_2 : Int) := as_; have q196 : x5_2 < (l0.length : Int) := as_; obtain ⟨ad196, e196, hx196_0, hx196_1, hx196_2⟩ := at_T99 HR0.out x5_2 p196 q196; (try rw [← Nbq27.out] at hx196_2); (try rw [← Nbq27.out] at hw196_2); obtain rfl : ad190 = ad196 := (by injection e196); replace hx196_0 := hbc_ HB.out hx196_0; replace hx196_1 := hbc_ HB.out hx196_1; replace hx196_2 := hbc_ HB.out hx196_2; replace p196 := eq_true p196; replace q196 := eq_true q196
                              go_wp2_with (first | (go_at_call 85; (with_reducible refine (spec_l24Blind.calls k3 a1_0 _ _ l1_1 x5_2 false _ ?side1 ?side2 A29.out).mono ?_); (case side1 => exact cb_ HR1_1.out HB.out); (case side2 => exact HC1_1.out); rintro e w34 ⟨rfl, hb⟩; replace BK186 := ak (blk_below (bk_ BK186.out) hb); replace HB := ak (below_step (bs1_ HB.out GE186.out) hb); (try clear hb); (try clear hb2); (try clear hk); (try clear hi)))
                              repeat (go_quiet (first | (go_at_call 85; (with_reducible refine (spec_l24Blind.calls k3 a1_0 _ _ l1_1 x5_2 false _ ?side1 ?side2 A29.out).mono ?_); (case side1 => exact cb_ HR1_1.out HB.out); (case side2 => exact HC1_1.out); rintro e w34 ⟨rfl, hb⟩; replace BK186 := ak (blk_below (bk_ BK186.out) hb); replace HB := ak (below_step (bs1_ HB.out GE186.out) hb); (try clear hb); (try clear hb2); (try clear hk); (try clear hi))); try go_wp2_with (first | (go_at_call 85; (with_reducible refine (spec_l24Blind.calls k3 a1_0 _ _ l1_1 x5_2 false _ ?side1 ?side2 A29.out).mono ?_); (case side1 => exact cb_ HR1_1.out HB.out); (case side2 => exact HC1_1.out); rintro e w34 ⟨rfl, hb⟩; replace BK186 := ak (blk_below (bk_ BK186.out) hb); replace HB := ak (below_step (bs1_ HB.out GE186.out) hb); (try clear hb); (try clear hb2); (try clear hk); (try clear hi))))
                              go_ret
                              exact fin_ (bs1_ HB.out GE186.out)
                            replace c28 := Bool.eq_false_iff.mpr c28; subst c28; rw [if_neg (show ¬ (false = true) by decide)] at H; have H' := ak H; clear H; have hcz35_0 := bc_ BK186.out 0; have hcz35_1 := bc_ BK186.out 1; have hfz35_0 := blk_frozen BK186.out 0; have hfz35_1 := blk_frozen BK186.out 1; have p192 : 0 ≤ (x5_2 : Int) := as_; have q192 : x5_2 < (l1_1.length : Int) := as_; obtain ⟨ad192, A192_0, c192_0, e192, hx192_0, hl192_0, hi192_0⟩ := at_L5 HR1_1.out x5_2 p192 q192; obtain rfl : ad189 = ad192 := (by injection e192); replace hx192_0 := hbc_ HB.out hx192_0; have HR192_0 := ak hi192_0; have HC192_0 := ak hl192_0; clear hi192_0 hl192_0; replace p192 := eq_true p192; replace q192 := eq_true q192; have p196 : 0 ≤ (x5_2 : Int) := as_; have q196 : x5_2 < (l0.length : Int) := as_; obtain ⟨ad196, e196, hx196_0, hx196_1, hx196_2⟩ := at_T99 HR0.out x5_2 p196 q196; (try rw [← Nbq27.out] at hx196_2); (try rw [← Nbq27.out] at hw196_2); obtain rfl : ad190 = ad196 := (by injection e196); replace hx196_0 := hbc_ HB.out hx196_0; replace hx196_1 := hbc_ HB.out hx196_1; replace hx196_2 := hbc_ HB.out hx196_2; replace p196 := eq_true p196; replace q196 := eq_true q196
                            go_wp2
                            repeat (go_quiet (fail); try go_wp2)
                            go_roundg k3
                            case measure => have := HJ2.out; have := HK2.out; have := HK3.out; omega
                            case rel => exact ⟨(wrap64 (x5_2 + 1)), (by first | rfl | (simp; done) | (simp [*]; done)), H', ⟨by have := HJ2.out; have := HK2.out; have := HK3.out; omega⟩, ⟨bk_ BK186.out⟩, ⟨bs1_ HB.out GE186.out⟩⟩
                          rw [if_neg c26] at H; exact absurd H (by simp)
                        rw [if_neg c19] at H; exact absurd H (by simp)
                      rw [if_neg c18] at H; exact absurd H (by simp)
                rw [if_neg c16] at H; have c16b0 : (((rd_Ls_i64 l1_1 x5_2).length : Int) == t191) = false := beq_eq_false_iff_ne.mpr c16; have c16b1 : (((rd_Ls_i64 l1_1 x5_2).length : Int) != t191) = true := bne_iff_ne.mpr c16; obtain rfl := Option.some.inj H; have hcz36_0 := bc_ BK186.out 0; have hcz36_1 := bc_ BK186.out 1; have hfz36_0 := blk_frozen BK186.out 0; have hfz36_1 := blk_frozen BK186.out 1; have p189 : 0 ≤ (x5_2 : Int) := as_; have q189 : x5_2 < (l1_1.length : Int) := as_; obtain ⟨ad189, A189_0, c189_0, e189, hx189_0, hl189_0, hi189_0⟩ := at_L5 HR1_1.out x5_2 p189 q189
                cases e189
                replace hx189_0 := hbc_ HB.out hx189_0; have HR189_0 := ak hi189_0; have HC189_0 := ak hl189_0; clear hi189_0 hl189_0; replace p189 := eq_true p189; replace q189 := eq_true q189; have p190 : 0 ≤ (x5_2 : Int) := as_; have q190 : x5_2 < (l0.length : Int) := as_; obtain ⟨ad190, e190, hx190_0, hx190_1, hx190_2⟩ := at_T99 HR0.out x5_2 p190 q190
                cases e190
                replace hx190_0 := hbc_ HB.out hx190_0; replace hx190_1 := hbc_ HB.out hx190_1; replace hx190_2 := hbc_ HB.out hx190_2; replace p190 := eq_true p190; replace q190 := eq_true q190
                go_wp2_with (first | (go_at_call 84; (with_reducible refine (spec_l24Power.calls k2 a1_0 ((rd_I_Sym l0 x5_2).f1) t191 _ A15.out).mono ?_); rintro e w' ⟨rfl, ⟨nd, rfl⟩⟩; (try first | exact ⟨rfl, _, World.drewN_drewN _ _ _⟩ | exact ⟨rfl, _, Eq.trans (World.drewN_drewN _ _ _) (congrArg (World.drewN _) (Nat.add_assoc _ _ _))⟩)))
                repeat (go_quiet (first | (go_at_call 84; (with_reducible refine (spec_l24Power.calls k2 a1_0 ((rd_I_Sym l0 x5_2).f1) t191 _ A15.out).mono ?_); rintro e w' ⟨rfl, ⟨nd, rfl⟩⟩; (try first | exact ⟨rfl, _, World.drewN_drewN _ _ _⟩ | exact ⟨rfl, _, Eq.trans (World.drewN_drewN _ _ _) (congrArg (World.drewN _) (Nat.add_assoc _ _ _))⟩))); try go_wp2_with (first | (go_at_call 84; (with_reducible refine (spec_l24Power.calls k2 a1_0 ((rd_I_Sym l0 x5_2).f1) t191 _ A15.out).mono ?_); rintro e w' ⟨rfl, ⟨nd, rfl⟩⟩; (try first | exact ⟨rfl, _, World.drewN_drewN _ _ _⟩ | exact ⟨rfl, _, Eq.trans (World.drewN_drewN _ _ _) (congrArg (World.drewN _) (Nat.add_assoc _ _ _))⟩))))
                go_ret
                exact fin_ (bs1_ HB.out GE186.out)
              rw [if_neg c14] at H; exact absurd H (by simp)
            rw [if_neg c13] at H; exact absurd H (by simp)
          rw [if_neg c12] at H; have c12b0 := decide_eq_false c12; clear c12; obtain rfl := Option.some.inj H
          go_wp2
          repeat (go_quiet (fail); try go_wp2)
          go_ret
          exact fin_ (bs1_ HB.out GE186.out)

/-! ### spec_l25Once: function 116 -/
def spec_l25Once.l0 : Nat → List Int → Int → List Bool → Int → Option (Bool)
  | 0, _, _, _, _ => none
  | k + 1, x0, x1, x5, x6 => if x6 < (x0.length : Int) then (if 0 ≤ x6 then ((spec_l1In.f (rd x0 x6) 0 (wrap64 (x1 - 1))).bind fun t202 => (if t202 = true then (if 0 ≤ (rd x0 x6) then (if (rd x0 x6) < (x5.length : Int) then (if rdOf false x5 (rd x0 x6) = true then (some false) else (spec_l25Once.l0 k x0 x1 (x5.set ((rd x0 x6) : Int).toNat true) (wrap64 (x6 + 1)))) else (none)) else (none)) else (some false))) else (none)) else (some ((x0.length : Int) == x1))
def spec_l25Once.f (k : Nat) (l0 : List Int) (a1 : Int) : Option (Bool) := if 0 ≤ a1 then (if (a1 : Int).toNat ≤ 281474976710656 then (spec_l25Once.l0 k l0 a1 (List.replicate (a1 : Int).toNat false) 0) else (none)) else (none)
theorem spec_l25Once.mono_l : ∀ k, (∀ y0 y1 y2 y3, LeO (spec_l25Once.l0 k y0 y1 y2 y3) (spec_l25Once.l0 (k + 1) y0 y1 y2 y3))
  | 0 => fun _ _ _ _ r h => by simp [spec_l25Once.l0] at h
  | k + 1 => by
    have ih0 := spec_l25Once.mono_l k
    · intro y0 y1 y2 y3
      unfold spec_l25Once.l0
      repeat' first | (with_reducible first | exact ih0 _ _ _ _ | exact LeO.refl _ | exact LeO.none _ | refine LeO.ite ?_ ?_ | refine LeO.bind ?_ (fun _ => ?_)) | exact ih0 _ _ _ _ | exact LeO.none _ | refine LeO.ite ?_ ?_ | refine LeO.bind ?_ (fun _ => ?_)
theorem spec_l25Once.mono : ∀ a0 a1 k, LeO (spec_l25Once.f k a0 a1) (spec_l25Once.f (k + 1) a0 a1) := by
  intro a0 a1 k; have ih0 := spec_l25Once.mono_l k
  unfold spec_l25Once.f
  repeat' first
      | (with_reducible exact ih0 _ _ _ _)
      | (with_reducible exact LeO.refl _)
      | (with_reducible exact LeO.none _)
      | (with_reducible refine LeO.ite ?_ ?_)
      | (with_reducible refine LeO.bind ?_ (fun _ => ?_))
      | exact ih0 _ _ _ _
      | exact LeO.none _
      | refine LeO.ite ?_ ?_
      | refine LeO.bind ?_ (fun _ => ?_)
set_option maxHeartbeats 8000000 in
set_option maxRecDepth 100000 in
theorem spec_l25Once.calls (k : Nat) (A0 : Option Addr) (c0 : Nat) (l0 : List Int) (a1 : Int) (r : Bool) (w : World) (hr0 : Kd.C (Kd.int .i64) w A0 l0.length l0) (hc0 : l0.length ≤ c0) (h : spec_l25Once.f k l0 a1 = some r) :
    Calls Try.prog 116 #[.slice A0 l0.length c0, .int .i64 a1] w fun e w' => e = .returned (.bool r) ∧ Below w.heap.size w w' := by
  have HR0 := ak hr0; have HC0 := ak hc0; clear hr0 hc0; have HB := ak (Below.refl w.heap.size w); have H : (if 0 ≤ a1 then (if (a1 : Int).toNat ≤ 281474976710656 then (spec_l25Once.l0 k l0 a1 (List.replicate (a1 : Int).toNat false) 0) else (none)) else (none)) = some r := h; clear h
  by_cases c3 : 0 ≤ a1
  · rw [if_pos c3] at H; have c3b0 := eq_true c3; have c3b1 := decide_eq_true c3; clear c3
    by_cases c4 : (a1 : Int).toNat ≤ 281474976710656
    · rw [if_pos c4] at H; have c4b0 := eq_true c4; have c4b1 := decide_eq_true c4; clear c4; obtain ⟨y198, hy198⟩ : ∃ y_ : List Bool, y_ = (List.replicate (a1 : Int).toNat false) := ⟨_, rfl⟩; replace H : (spec_l25Once.l0 k l0 a1 y198 0) = some r := by first | (rw [hy198]; with_reducible exact H) | (have H2_ := (Option.bind_some _ _).symm.trans H; rw [hy198]; with_reducible exact H2_) | (have H2_ := (Option.bind_some _ _).symm.trans H; with_reducible exact H2_) | with_reducible exact H | (rw [hy198]; exact H) | exact H
      have Ny198 := ak hy198; clear hy198; have H' := ak H; clear H
      go_enter Try.func116, Try.ntmps116
      go_wp2_with (first | ((with_reducible refine gate_dst (N := 8) rfl ?_); refine Kd.R_make Kd.bool _ 4 rfl (N := 8) rfl 155 _ _ rfl a1 rfl rfl Try.underlying155 (.bool false) 1 info4 rfl (by decide) (by omega) false (ok := fun _ => True) (okp := fun _ => True) rfl (fun _ hk => hk) trivial (as_) (Nat.le_trans (Nat.mul_le_mul_right _ (as_ : a1.toNat ≤ 281474976710656)) (by omega)) (Below.refl _ _) (Nat.le_refl _) ?_; intro v199 w5 ho6 hb hg_ hnew_; clear hg_ hnew_; (first | rw [← Ny198.out] at ho6 | (simp only [Int.reduceToNat] at ho6; rw [← Ny198.out] at ho6)); have HO200 := ak (Kd.R_lower ho6 (below_size (bl_ HB.out))); replace HB := ak (below_step (bl_ HB.out) hb); clear hb ho6))
      go_loopg [6] k (fun kq v6 w' => ∃ (x5_1 : List Bool) (x6_1 : Int), v6 = .int .i64 x6_1 ∧ Aside0 (spec_l25Once.l0 kq l0 a1 x5_1 x6_1 = some r) ∧ Aside0 (kq ≤ k) ∧ Aside0 (Kd.R Kd.bool 4 w' w.heap.size (fun _ => True) v199 x5_1) ∧ Aside0 (Below w.heap.size w w'))
      case atStart => exact ⟨(y198), (0), (by first | rfl | (simp; done) | (simp [*]; done)), H', ⟨Nat.le_refl _⟩, ⟨by (with_reducible repeat (first | apply Kd.R_alloc | apply Kd.R_drewN | apply Kd.R_drew)); exact HO200.out⟩, ⟨by repeat (first | (with_reducible first | exact HB.out | apply below_alloc | apply pw_below_drewN | apply below_drew1) | exact HB.out)⟩⟩
      case round =>
        clear H'; (try clear c1); (try clear p2); (try clear c3); (try clear c3b0); (try clear c3b1); (try clear c4); (try clear c4b0); (try clear c4b1); obtain ⟨x5_1, x6_1, rfl, HA, HK1, HO_5, HB⟩ := hrel
        cases gk with
        | zero => exact absurd HA.out (by simp [spec_l25Once.l0])
        | succ k1 =>
          have H := HA.out; clear HA
          simp only [spec_l25Once.l0] at H
          by_cases c7 : x6_1 < (l0.length : Int)
          · rw [if_pos c7] at H; have c7b0 := decide_eq_true c7; clear c7
            by_cases c8 : 0 ≤ x6_1
            · rw [if_pos c8] at H; have c8b0 := decide_eq_true c8; clear c8; replace H := Option.bind_eq_some_iff.mp H; obtain ⟨t202, A90, H⟩ := H; have A9 := ak A90; clear A90
              by_cases c10 : t202 = true
              · subst c10; rw [if_pos rfl] at H
                by_cases c11 : 0 ≤ (rd l0 x6_1)
                · rw [if_pos c11] at H; have c11b0 := decide_eq_true c11; clear c11
                  by_cases c12 : (rd l0 x6_1) < (x5_1.length : Int)
                  · rw [if_pos c12] at H; have c12b0 := decide_eq_true c12; clear c12; obtain ⟨bq13, hbq13⟩ : ∃ b_ : Bool, b_ = (rdOf false x5_1 (rd l0 x6_1)) := ⟨_, rfl⟩; replace H : (if bq13 = true then (some false) else (spec_l25Once.l0 k1 l0 a1 (x5_1.set ((rd l0 x6_1) : Int).toNat true) (wrap64 (x6_1 + 1)))) = some r := by rw [← hbq13] at H; exact H
                    have Nbq13 := ak hbq13; clear hbq13
                    by_cases c14 : bq13 = true
                    · subst c14; rw [if_pos rfl] at H; obtain rfl := Option.some.inj H; have p201 : 0 ≤ (x6_1 : Int) := as_; have q201 : x6_1 < (l0.length : Int) := as_; obtain ⟨ad201, e201, hx201_0⟩ := Kd.at_int HR0.out x6_1 p201 q201
                      cases e201
                      replace hx201_0 := hbc_ HB.out hx201_0; replace p201 := eq_true p201; replace q201 := eq_true q201
                      go_wp2_with (first | ((with_reducible refine gate_callee (f := 79) rfl ?_); refine goesM_ (some 21) rfl rfl Try.func79 (by kernel_rfl) rfl #[.int .i64 (rd l0 x6_1), .int .i64 0, .int .i64 (wrap64 (a1 - 1))] rfl ?_; (with_reducible refine (spec_l1In.calls (rd l0 x6_1) 0 (wrap64 (a1 - 1)) true _ A9.out).mono ?_); rintro e w' ⟨rfl, ⟨nd, rfl⟩⟩; refine ⟨_, rfl, ?_⟩; have p203 : 0 ≤ (x6_1 : Int) := as_; have q203 : x6_1 < (l0.length : Int) := as_; obtain ⟨ad203, e203, hx203_0⟩ := Kd.at_int HR0.out x6_1 p203 q203; obtain rfl : ad201 = ad203 := (by injection e203); replace hx203_0 := hbc_ HB.out hx203_0; replace p203 := eq_true p203; replace q203 := eq_true q203; obtain ⟨Ao15, co15, eo15⟩ := Kd.R_slice HO_5.out; subst eo15; have p204 : 0 ≤ ((rd l0 x6_1) : Int) := as_; have q204 : (rd l0 x6_1) < (x5_1.length : Int) := as_; obtain ⟨ad204, e204, hx204_0⟩ := Kd.at_bool (Kd.R_reads' HO_5.out).2.2 (rd l0 x6_1) p204 q204; (try rw [← Nbq13.out] at hx204_0); cases e204; replace p204 := eq_true p204; replace q204 := eq_true q204))
                      go_ret
                      exact fin_ (bl_ HB.out)
                    replace c14 := Bool.eq_false_iff.mpr c14; subst c14; rw [if_neg (show ¬ (false = true) by decide)] at H; obtain ⟨y206, hy206⟩ : ∃ y_ : List Bool, y_ = (x5_1.set ((rd l0 x6_1) : Int).toNat true) := ⟨_, rfl⟩; replace H : (spec_l25Once.l0 k1 l0 a1 y206 (wrap64 (x6_1 + 1))) = some r := by first | (rw [hy206]; with_reducible exact H) | (have H2_ := (Option.bind_some _ _).symm.trans H; rw [hy206]; with_reducible exact H2_) | (have H2_ := (Option.bind_some _ _).symm.trans H; with_reducible exact H2_) | with_reducible exact H | (rw [hy206]; exact H) | exact H
                    have Ny206 := ak hy206; clear hy206; have H' := ak H; clear H; have p201 : 0 ≤ (x6_1 : Int) := as_; have q201 : x6_1 < (l0.length : Int) := as_; obtain ⟨ad201, e201, hx201_0⟩ := Kd.at_int HR0.out x6_1 p201 q201
                    cases e201
                    replace hx201_0 := hbc_ HB.out hx201_0; replace p201 := eq_true p201; replace q201 := eq_true q201
                    go_wp2_with (first | ((with_reducible refine gate_callee (f := 79) rfl ?_); refine goesM_ (some 21) rfl rfl Try.func79 (by kernel_rfl) rfl #[.int .i64 (rd l0 x6_1), .int .i64 0, .int .i64 (wrap64 (a1 - 1))] rfl ?_; (with_reducible refine (spec_l1In.calls (rd l0 x6_1) 0 (wrap64 (a1 - 1)) true _ A9.out).mono ?_); rintro e w' ⟨rfl, ⟨nd, rfl⟩⟩; refine ⟨_, rfl, ?_⟩; (try (rw [drewN_self wr]; generalize hq_ : World.drewN wr _ = wr; have n0_ : Aside0 (Kd.R Kd.bool 4 wr w.heap.size (fun _ => True) v199 x5_1) := ⟨by rw [← hq_]; exact (ra_ HO_5.out)⟩; have n1_ : Aside0 (Below w.heap.size w wr) := ⟨by rw [← hq_]; exact (bl_ HB.out)⟩; clear HO_5 HB hq_; have HO_5 := n0_; have HB := n1_; clear n0_ n1_)); have p203 : 0 ≤ (x6_1 : Int) := as_; have q203 : x6_1 < (l0.length : Int) := as_; obtain ⟨ad203, e203, hx203_0⟩ := Kd.at_int HR0.out x6_1 p203 q203; obtain rfl : ad201 = ad203 := (by injection e203); replace hx203_0 := hbc_ HB.out hx203_0; replace p203 := eq_true p203; replace q203 := eq_true q203; obtain ⟨Ao17, co17, eo17⟩ := Kd.R_slice HO_5.out; subst eo17; have p204 : 0 ≤ ((rd l0 x6_1) : Int) := as_; have q204 : (rd l0 x6_1) < (x5_1.length : Int) := as_; obtain ⟨ad204, e204, hx204_0⟩ := Kd.at_bool (Kd.R_reads' HO_5.out).2.2 (rd l0 x6_1) p204 q204; (try rw [← Nbq13.out] at hx204_0); cases e204; replace p204 := eq_true p204; replace q204 := eq_true q204; have p205 : 0 ≤ (x6_1 : Int) := as_; have q205 : x6_1 < (l0.length : Int) := as_; obtain ⟨ad205, e205, hx205_0⟩ := Kd.at_int HR0.out x6_1 p205 q205; obtain rfl : ad201 = ad205 := (by injection e205); replace hx205_0 := hbc_ HB.out hx205_0; replace p205 := eq_true p205; replace q205 := eq_true q205; have p16 : 0 ≤ ((rd l0 x6_1) : Int) := as_; have q16 : ((rd l0 x6_1) : Int) < ((x5_1.length : Int) : Int) := as_; obtain ⟨go16, co16, eo16, gb16, gl16, cl16, HG16⟩ := Kd.R_form HO_5.out (by omega); (first | cases eo16 | (injection eo16 with ea_ en_ ec_; (first | subst ea_ | (injection ea_ with ea_; subst ea_)); subst ec_; clear en_)); have GB16 := ak gb16; have GG16 := ak HG16; clear gb16 gl16 HG16; (first | simp only [add_plain] at hx204_0 | skip); obtain ⟨hx16_0, hf16_0⟩ := Kd.R_celln false HO_5.out ((rd l0 x6_1) : Int) p16 q16; replace p16 := eq_true p16; replace q16 := eq_true q16; obtain ⟨hy18_, hz18_⟩ := Kd.R_celln false HO_5.out ((rd l0 x6_1) : Int) (as_) (as_); have HP18 := Kd.R_putg HO_5.out ((rd l0 x6_1) : Int) true) | ((with_reducible refine gate_store (t := 4) (p := 37) rfl ?_); refine store_event (t := 4) (p := 37) (v := ?vo_w19) (w1 := (wr.setCell ⟨go16, ((rd l0 x6_1) : Int).toNat, none⟩ (.bool true))) ?hg ?ho ?hn ?hr ?_; (case ho => rfl); (case hg => rfl); (case hn => rfl); (case hr => first | (go_simp; done) | (go_simp; rfl)); intro w19 hw; have hg : wr.grownBy w19 (some go16) := (by rw [hw]; exact HP18.2); have hp_ : Kd.R Kd.bool 4 w19 w.heap.size (fun _ => True) (.slice (some ⟨go16, 0, none⟩) x5_1.length co17) y206 := (by rw [hw, Ny206.out]; exact HP18.1); clear HP18; replace HO_5 := ak (hp_); replace HB := ak (by rw [hw]; exact below_set (HB.out) GB16.out : Below w.heap.size w w19); clear hg hw hp_))
                    go_roundg k1
                    case measure => have := HK1.out; omega
                    case rel => exact ⟨(y206), (wrap64 (x6_1 + 1)), (by first | rfl | (simp; done) | (simp [*]; done)), H', ⟨by have := HK1.out; omega⟩, ⟨by (with_reducible repeat (first | apply Kd.R_alloc | apply Kd.R_drewN | apply Kd.R_drew)); exact HO_5.out⟩, ⟨by repeat (first | (with_reducible first | exact HB.out | apply below_alloc | apply pw_below_drewN | apply below_drew1) | exact HB.out)⟩⟩
                  rw [if_neg c12] at H; exact absurd H (by simp)
                rw [if_neg c11] at H; exact absurd H (by simp)
              replace c10 := Bool.eq_false_iff.mpr c10; subst c10; rw [if_neg (show ¬ (false = true) by decide)] at H; obtain rfl := Option.some.inj H; have p201 : 0 ≤ (x6_1 : Int) := as_; have q201 : x6_1 < (l0.length : Int) := as_; obtain ⟨ad201, e201, hx201_0⟩ := Kd.at_int HR0.out x6_1 p201 q201
              cases e201
              replace hx201_0 := hbc_ HB.out hx201_0; replace p201 := eq_true p201; replace q201 := eq_true q201
              go_wp2_with (first | ((with_reducible refine gate_callee (f := 79) rfl ?_); refine goesM_ (some 21) rfl rfl Try.func79 (by kernel_rfl) rfl #[.int .i64 (rd l0 x6_1), .int .i64 0, .int .i64 (wrap64 (a1 - 1))] rfl ?_; (with_reducible refine (spec_l1In.calls (rd l0 x6_1) 0 (wrap64 (a1 - 1)) false _ A9.out).mono ?_); rintro e w' ⟨rfl, ⟨nd, rfl⟩⟩; refine ⟨_, rfl, ?_⟩))
              go_ret
              exact fin_ (bl_ HB.out)
            rw [if_neg c8] at H; exact absurd H (by simp)
          rw [if_neg c7] at H; have c7b0 := decide_eq_false c7; clear c7; obtain rfl := Option.some.inj H
          go_wp2
          go_ret
          exact fin_ (bl_ HB.out)
    rw [if_neg c4] at H; exact absurd H (by simp)
  rw [if_neg c3] at H; exact absurd H (by simp)

end Go.Proofs.Ytcboagkbcoihjaa.XRenamed
