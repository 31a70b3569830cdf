-- printed by a program of this session (xprint, turned from the kit's print) for this claim
import Derived.Test.YtcboagkbcoihjaaXSubworldx0
import Derived.Test.YtcboagkbcoihjaaXSubworldx5
import Derived.Test.YtcboagkbcoihjaaXSubworldx6
namespace Go.Proofs.Ytcboagkbcoihjaa.XSubworld
open Go.RowKit Go.Proofs.Ytcboagkbcoihjaa.XOpens Go.Proofs.YtcboagkbcoihjaaW.PrintWords Go.Proofs.YtcboagkbcoihjaaW.PrintLast Go.Proofs.YtcboagkbcoihjaaW.PrintMore
attribute [local go_sem] max2_int min2_int max_two min_two max_three min_three max_four min_four   -- for this text's walks alone
set_option linter.unusedVariables false
set_option linter.unusedSimpArgs false

/-! ### impl_WorldOk: function 33 -/
mutual
def impl_WorldOk.j0 : Nat → List (I_Sym) → Bool → Int → List (List Int) → Option (Bool)
  | 0, _, _, _, _ => none
  | k + 1, x0, x24, x237000, x237001 => if x24 = true then (some false) else (impl_WorldOk.l0 k x0 (x0.length : Int) 0 x237000 x237001)
def impl_WorldOk.l0 : Nat → List (I_Sym) → Int → Int → Int → List (List Int) → Option (Bool)
  | 0, _, _, _, _, _ => none
  | k + 1, x25, x26, x27, x237000, x237001 => if x27 < x26 then (if 0 ≤ x27 then (if x27 < (x25.length : Int) then (if x27 < (x237001.length : Int) then ((impl_placesOf.f k x237000 ((rd_I_Sym x25 x27).f1)).bind fun t242 => (if ((rd_Ls_i64 x237001 x27).length : Int) = t242 then ((slices_ContainsFunc_int_int__with_impl_WorldOk_1.f k (rd_Ls_i64 x237001 x27) x237000 x237001).bind fun t243 => (if t243 = true then (some false) else (if (rd_I_Sym x25 x27).f2 = true then ((impl_indifferent.f k x237000 (rd_Ls_i64 x237001 x27)).bind fun t244 => (if t244 = true then (impl_WorldOk.l0 k x25 x26 (wrap64 (x27 + 1)) x237000 x237001) else (some false))) else (impl_WorldOk.l0 k x25 x26 (wrap64 (x27 + 1)) x237000 x237001)))) else (some false))) else (none)) else (none)) else (none)) else (some true)
end
def impl_WorldOk.f (k : Nat) (l0 : List (I_Sym)) (a1_0 : Int) (l1_1 : List (List Int)) : Option (Bool) := (impl_SigOk.f k l0).bind fun t237 => (if t237 = true then ((impl_from.f a1_0 1 4).bind fun t238 => (if t238 = true then (impl_WorldOk.j0 k l0 ((l1_1.length : Int) != (l0.length : Int)) a1_0 l1_1) else (impl_WorldOk.j0 k l0 true a1_0 l1_1))) else (impl_WorldOk.j0 k l0 true a1_0 l1_1))
theorem impl_WorldOk.mono_l : ∀ k, (∀ y0 y1 y2 y3, LeO (impl_WorldOk.j0 k y0 y1 y2 y3) (impl_WorldOk.j0 (k + 1) y0 y1 y2 y3)) ∧ (∀ y0 y1 y2 y3 y4, LeO (impl_WorldOk.l0 k y0 y1 y2 y3 y4) (impl_WorldOk.l0 (k + 1) y0 y1 y2 y3 y4))
  | 0 => ⟨fun _ _ _ _ r h => by simp [impl_WorldOk.j0] at h, fun _ _ _ _ _ r h => by simp [impl_WorldOk.l0] at h⟩
  | k + 1 => by
    obtain ⟨ih0, ih1⟩ := impl_WorldOk.mono_l k; refine ⟨?_, ?_⟩
    · intro y0 y1 y2 y3
      unfold impl_WorldOk.j0
      repeat' first | (with_reducible first | exact ih0 _ _ _ _ | exact ih1 _ _ _ _ _ | exact impl_SigOk.mono _ _ | exact impl_indifferent.mono _ _ _ | exact impl_placesOf.mono _ _ _ | exact slices_ContainsFunc_int_int__with_impl_WorldOk_1.mono _ _ _ _ | exact LeO.refl _ | exact LeO.none _ | refine LeO.ite ?_ ?_ | refine LeO.bind ?_ (fun _ => ?_)) | exact ih0 _ _ _ _ | exact ih1 _ _ _ _ _ | exact impl_SigOk.mono _ _ | exact impl_indifferent.mono _ _ _ | exact impl_placesOf.mono _ _ _ | exact slices_ContainsFunc_int_int__with_impl_WorldOk_1.mono _ _ _ _ | exact LeO.none _ | refine LeO.ite ?_ ?_ | refine LeO.bind ?_ (fun _ => ?_)
    · intro y0 y1 y2 y3 y4
      unfold impl_WorldOk.l0
      repeat' first | (with_reducible first | exact ih0 _ _ _ _ | exact ih1 _ _ _ _ _ | exact impl_SigOk.mono _ _ | exact impl_indifferent.mono _ _ _ | exact impl_placesOf.mono _ _ _ | exact slices_ContainsFunc_int_int__with_impl_WorldOk_1.mono _ _ _ _ | exact LeO.refl _ | exact LeO.none _ | refine LeO.ite ?_ ?_ | refine LeO.bind ?_ (fun _ => ?_)) | exact ih0 _ _ _ _ | exact ih1 _ _ _ _ _ | exact impl_SigOk.mono _ _ | exact impl_indifferent.mono _ _ _ | exact impl_placesOf.mono _ _ _ | exact slices_ContainsFunc_int_int__with_impl_WorldOk_1.mono _ _ _ _ | exact LeO.none _ | refine LeO.ite ?_ ?_ | refine LeO.bind ?_ (fun _ => ?_)
theorem impl_WorldOk.mono : ∀ a0 a1 a2 k, LeO (impl_WorldOk.f k a0 a1 a2) (impl_WorldOk.f (k + 1) a0 a1 a2) := by
  intro a0 a1 a2 k; obtain ⟨ih0, ih1⟩ := impl_WorldOk.mono_l k
  unfold impl_WorldOk.f
  repeat' first
      | (with_reducible exact ih0 _ _ _ _)
      | (with_reducible exact ih1 _ _ _ _ _)
      | (with_reducible exact impl_SigOk.mono _ _)
      | (with_reducible exact impl_indifferent.mono _ _ _)
      | (with_reducible exact impl_placesOf.mono _ _ _)
      | (with_reducible exact slices_ContainsFunc_int_int__with_impl_WorldOk_1.mono _ _ _ _)
      | (with_reducible exact LeO.refl _)
      | (with_reducible exact LeO.none _)
      | (with_reducible refine LeO.ite ?_ ?_)
      | (with_reducible refine LeO.bind ?_ (fun _ => ?_))
      | exact ih0 _ _ _ _
      | exact ih1 _ _ _ _ _
      | exact impl_SigOk.mono _ _
      | exact impl_indifferent.mono _ _ _
      | exact impl_placesOf.mono _ _ _
      | exact slices_ContainsFunc_int_int__with_impl_WorldOk_1.mono _ _ _ _
      | exact LeO.none _
      | refine LeO.ite ?_ ?_
      | refine LeO.bind ?_ (fun _ => ?_)
set_option maxHeartbeats 8000000 in
set_option maxRecDepth 100000 in
theorem impl_WorldOk.calls (k : Nat) (A0 : Option Addr) (c0 : Nat) (l0 : List (I_Sym)) (a1_0 : Int) (A1_1 : Option Addr) (c1_1 : Nat) (l1_1 : List (List Int)) (r : Bool) (w : World) (hr0 : Kd.C k99 w A0 l0.length l0) (hc0 : l0.length ≤ c0) (hr1_1 : Kd.C (Kd.slice 3 (Kd.int .i64)) w A1_1 l1_1.length l1_1) (hc1_1 : l1_1.length ≤ c1_1) (h : impl_WorldOk.f k l0 a1_0 l1_1 = some r) :
    Calls Try.prog 33 #[.slice A0 l0.length c0, .agg #[.int .i64 a1_0, .slice A1_1 l1_1.length c1_1]] w fun e w' => e = .returned (.bool r) ∧ Below w.heap.size w w' := by
  have hu51 := Try.underlying51; have hu99 := Try.underlying99; have HR0 := ak hr0; have HC0 := ak hc0; clear hr0 hc0; have HR1_1 := ak hr1_1; have HC1_1 := ak hc1_1; clear hr1_1 hc1_1; have HB := ak (Below.refl w.heap.size w); have H : ((impl_SigOk.f k l0).bind fun t237 => (if t237 = true then ((impl_from.f a1_0 1 4).bind fun t238 => (if t238 = true then (impl_WorldOk.j0 k l0 ((l1_1.length : Int) != (l0.length : Int)) a1_0 l1_1) else (impl_WorldOk.j0 k l0 true a1_0 l1_1))) else (impl_WorldOk.j0 k l0 true a1_0 l1_1))) = some r := h; clear h; have HC3 := ak H; clear H
  go_enter Try.func33, Try.ntmps33
  go_upto_region 1 with (first | ((with_reducible refine gate_dst (N := 3) rfl ?_); (try (refine gate_guard (by rfl) ?_; dsimp only)); refine bxe_ (N := 3) (cs := #[.int .i64 a1_0, .slice A1_1 l1_1.length c1_1]) (t := 51) ?_; intro gb236 hg w4 hbox hb; have BK236 := ak (hbox); have GW236 := ak (lg_ hg (bl_ HB.out)); have GE236 := ak (lg_ hg (bl_ HB.out)); replace HB := ak (below_step (bl_ HB.out) hb); clear hb hbox hg))
  (try simp only [Act.put, List.setIfInBounds_toArray, List.set_cons_zero, List.set_cons_succ])
  go_cut [24] (fun v24 wc => ∃ (kq : Nat) (x24_2 : Bool), v24 = .bool x24_2 ∧ Aside0 (impl_WorldOk.j0 kq l0 x24_2 a1_0 l1_1 = some r) ∧ Aside0 (kq ≤ k) ∧ Aside0 (wc.heap[gb236]? = some (.cells #[.int .i64 a1_0, (.slice A1_1 l1_1.length c1_1)] 51 (0, 0))) ∧ Aside0 (Below w.heap.size w wc))
  case first =>
    have H := HC3.out; clear HC3; replace H := Option.bind_eq_some_iff.mp H; obtain ⟨t237, A50, H⟩ := H; have A5 := ak A50; clear A50
    by_cases c6 : t237 = true
    · subst c6; rw [if_pos rfl] at H; replace H := Option.bind_eq_some_iff.mp H; obtain ⟨t238, A70, H⟩ := H; have A7 := ak A70; clear A70
      by_cases c8 : t238 = true
      · subst c8; rw [if_pos rfl] at H; have H' := ak H; clear H
        go_wp2_with (first | ((with_reducible refine gate_callee (f := 86) rfl ?_); refine goesM_ (some 9) rfl rfl Try.func86 (by kernel_rfl) rfl #[.slice A0 l0.length c0] rfl ?_; (with_reducible refine (impl_SigOk.calls k _ _ l0 true _ ?side1 ?side2 A5.out).mono ?_); (case side1 => exact cb_ HR0.out HB.out); (case side2 => exact HC0.out); rintro e w9 ⟨rfl, hb⟩; refine ⟨_, rfl, ?_⟩; replace BK236 := ak (blk_below (bk_ BK236.out) hb); replace HB := ak (below_step (bs1_ HB.out GE236.out) hb); (try clear hb); (try clear hb2); (try clear hk); (try clear hi); have hcz10_0 := bc_ BK236.out 0; have hcz10_1 := bc_ BK236.out 1; have hfz10_0 := blk_frozen BK236.out 0; have hfz10_1 := blk_frozen BK236.out 1) | (go_at_call 87; (with_reducible refine (impl_from.calls a1_0 1 4 true _ A7.out).mono ?_); rintro e w' ⟨rfl, ⟨nd, rfl⟩⟩))
        go_meet
        case rel => exact ⟨_, (((l1_1.length : Int) != (l0.length : Int))), (by first | rfl | (simp; done) | (simp [*]; done)), H', ⟨by first | omega | exact Nat.le_refl _⟩, ⟨bk_ BK236.out⟩, ⟨bs1_ HB.out GE236.out⟩⟩
      replace c8 := Bool.eq_false_iff.mpr c8; subst c8; rw [if_neg (show ¬ (false = true) by decide)] at H; have H' := ak H; clear H
      go_wp2_with (first | ((with_reducible refine gate_callee (f := 86) rfl ?_); refine goesM_ (some 9) rfl rfl Try.func86 (by kernel_rfl) rfl #[.slice A0 l0.length c0] rfl ?_; (with_reducible refine (impl_SigOk.calls k _ _ l0 true _ ?side1 ?side2 A5.out).mono ?_); (case side1 => exact cb_ HR0.out HB.out); (case side2 => exact HC0.out); rintro e w11 ⟨rfl, hb⟩; refine ⟨_, rfl, ?_⟩; replace BK236 := ak (blk_below (bk_ BK236.out) hb); replace HB := ak (below_step (bs1_ HB.out GE236.out) hb); (try clear hb); (try clear hb2); (try clear hk); (try clear hi); have hcz12_0 := bc_ BK236.out 0; have hcz12_1 := bc_ BK236.out 1; have hfz12_0 := blk_frozen BK236.out 0; have hfz12_1 := blk_frozen BK236.out 1) | (go_at_call 87; (with_reducible refine (impl_from.calls a1_0 1 4 false _ A7.out).mono ?_); rintro e w' ⟨rfl, ⟨nd, rfl⟩⟩))
      go_meet
      case rel => exact ⟨_, (true), (by first | rfl | (simp; done) | (simp [*]; done)), H', ⟨by first | omega | exact Nat.le_refl _⟩, ⟨bk_ BK236.out⟩, ⟨bs1_ HB.out GE236.out⟩⟩
    replace c6 := Bool.eq_false_iff.mpr c6; subst c6; rw [if_neg (show ¬ (false = true) by decide)] at H; have H' := ak H; clear H
    go_wp2_with (first | ((with_reducible refine gate_callee (f := 86) rfl ?_); refine goesM_ (some 9) rfl rfl Try.func86 (by kernel_rfl) rfl #[.slice A0 l0.length c0] rfl ?_; (with_reducible refine (impl_SigOk.calls k _ _ l0 false _ ?side1 ?side2 A5.out).mono ?_); (case side1 => exact cb_ HR0.out HB.out); (case side2 => exact HC0.out); rintro e w13 ⟨rfl, hb⟩; refine ⟨_, rfl, ?_⟩; replace BK236 := ak (blk_below (bk_ BK236.out) hb); replace HB := ak (below_step (bs1_ HB.out GE236.out) hb); (try clear hb); (try clear hb2); (try clear hk); (try clear hi)))
    go_meet
    case rel => exact ⟨_, (true), (by first | rfl | (simp; done) | (simp [*]; done)), H', ⟨by first | omega | exact Nat.le_refl _⟩, ⟨bk_ BK236.out⟩, ⟨bs1_ HB.out GE236.out⟩⟩
  case rest =>
    clear HC3; (try clear c1); (try clear p2); (try clear c3); (try clear c6); (try clear c8); (try clear hcz10_0); (try clear hcz10_1); (try clear hcz12_0); (try clear hcz12_1); (try clear hfz10_0); (try clear hfz10_1); (try clear hfz12_0); (try clear hfz12_1); obtain ⟨kq, x24_2, rfl, HA, HJ2, BK236, HB⟩ := hcut
    cases kq with
    | zero => exact absurd HA.out (by simp [impl_WorldOk.j0])
    | succ kj2 =>
      have H := HA.out; clear HA
      simp only [impl_WorldOk.j0] at H
      by_cases c14 : x24_2 = true
      · subst c14; rw [if_pos rfl] at H; obtain rfl := Option.some.inj H
        go_wp2
        go_ret
        exact fin_ (bs1_ HB.out GE236.out)
      replace c14 := Bool.eq_false_iff.mpr c14; subst c14; rw [if_neg (show ¬ (false = true) by decide)] at H; have H' := ak H; clear H
      go_wp2
      go_loopg [27] kj2 (fun kq v27 w' => ∃ (x27_2 : Int), v27 = .int .i64 x27_2 ∧ Aside0 (impl_WorldOk.l0 kq l0 (l0.length : Int) x27_2 a1_0 l1_1 = some r) ∧ Aside0 (kq ≤ kj2) ∧ Aside0 (w'.heap[gb236]? = some (.cells #[.int .i64 a1_0, (.slice A1_1 l1_1.length c1_1)] 51 (0, 0))) ∧ Aside0 (Below w.heap.size w w'))
      case atStart => exact ⟨(0), (by first | rfl | (simp; done) | (simp [*]; done)), H', ⟨Nat.le_refl _⟩, ⟨bk_ BK236.out⟩, ⟨bs1_ HB.out GE236.out⟩⟩
      case round =>
        clear H'; (try clear c1); (try clear p2); (try clear c3); (try clear c6); (try clear c8); (try clear c14); (try clear hcz10_0); (try clear hcz10_1); (try clear hcz12_0); (try clear hcz12_1); (try clear hfz10_0); (try clear hfz10_1); (try clear hfz12_0); (try clear hfz12_1); (try clear p2); obtain ⟨x27_2, rfl, HA, HK2, BK236, HB⟩ := hrel
        cases gk with
        | zero => exact absurd HA.out (by simp [impl_WorldOk.l0])
        | succ k2 =>
          have H := HA.out; clear HA
          simp only [impl_WorldOk.l0] at H
          by_cases c15 : x27_2 < (l0.length : Int)
          · rw [if_pos c15] at H; have c15b0 := decide_eq_true c15; clear c15
            by_cases c16 : 0 ≤ x27_2
            · rw [if_pos c16] at H; have c16b0 := decide_eq_true c16; clear c16
              by_cases c17 : x27_2 < (l0.length : Int)
              · rw [if_pos c17] at H; have c17b0 := decide_eq_true c17; clear c17
                by_cases c18 : x27_2 < (l1_1.length : Int)
                · rw [if_pos c18] at H; have c18b0 := decide_eq_true c18; clear c18; replace H := Option.bind_eq_some_iff.mp H; obtain ⟨t242, A190, H⟩ := H; have A19 := ak A190; clear A190
                  by_cases c20 : ((rd_Ls_i64 l1_1 x27_2).length : Int) = t242
                  · rw [if_pos c20] at H; have c20b0 : (((rd_Ls_i64 l1_1 x27_2).length : Int) == t242) = true := beq_iff_eq.mpr c20; have c20b1 : (((rd_Ls_i64 l1_1 x27_2).length : Int) != t242) = false := bne_eq_false_iff_eq.mpr c20; clear c20; replace H := Option.bind_eq_some_iff.mp H; obtain ⟨t243, A210, H⟩ := H; have A21 := ak A210; clear A210
                    by_cases c22 : t243 = true
                    · subst c22; rw [if_pos rfl] at H; obtain rfl := Option.some.inj H; have p239 : 0 ≤ (x27_2 : Int) := as_; have q239 : x27_2 < (l0.length : Int) := as_; obtain ⟨ad239, e239, hx239_0, hx239_1, hx239_2⟩ := at_T99 HR0.out x27_2 p239 q239
                      cases e239
                      replace hx239_0 := hbc_ HB.out hx239_0; replace hx239_1 := hbc_ HB.out hx239_1; replace hx239_2 := hbc_ HB.out hx239_2; replace p239 := eq_true p239; replace q239 := eq_true q239
                      go_wp2_with (first | ((with_reducible refine gate_dst (N := 6) rfl ?_); (try (refine gate_guard (by rfl) ?_; dsimp only)); refine bxe_ (N := 6) (cs := #[.string (⟨#[]⟩ : ByteArray), .int .i64 0, .bool false]) (t := 99) ?_; intro gb240 hg w23 hbox hb; have BK240 := ak (hbox); have GW240 := ak (lg_ hg (bs1_ HB.out GE236.out)); have GE240 := ak (lg_ hg (bs1_ HB.out GE236.out)); replace HB := ak (below_step (bs1_ HB.out GE236.out) hb); have NB236_240 := ak (nl_ hg (bk_ BK236.out)); have NB240_236 := ak (ng_ hg (bk_ BK236.out)); replace BK236 := ak (blk_below (bk_ BK236.out) hb); clear hb hbox hg; have hnb24 := NB240_236.out; have hnc24 := NB236_240.out; have hcz25_0 := bc_ BK240.out 0; have hcz25_1 := bc_ BK240.out 1; have hcz25_2 := bc_ BK240.out 2; have hfz25_0 := blk_frozen BK240.out 0; have hfz25_1 := blk_frozen BK240.out 1; have hfz25_2 := blk_frozen BK240.out 2; have hcz26_0 := bc_ BK236.out 0; have hcz26_1 := bc_ BK236.out 1; have hfz26_0 := blk_frozen BK236.out 0; have hfz26_1 := blk_frozen BK236.out 1; have p241 : 0 ≤ (x27_2 : Int) := as_; have q241 : x27_2 < (l1_1.length : Int) := as_; obtain ⟨ad241, A241_0, c241_0, e241, hx241_0, hl241_0, hi241_0⟩ := at_L5 HR1_1.out x27_2 p241 q241; cases e241; have hn241_0 : ad241.block ≠ gb240 := Nat.ne_of_lt (Nat.lt_of_lt_of_le (by have := World.block_lt_of_cell? _ _ hx241_0; first | rwa [add_block] at this | exact this) GW240.out); have hn241_1 : ad241.block ≠ gb240 := Nat.ne_of_lt (Nat.lt_of_lt_of_le (by have := World.block_lt_of_cell? _ _ hx241_0; first | rwa [add_block] at this | exact this) GW240.out); have hn241_2 : ad241.block ≠ gb240 := Nat.ne_of_lt (Nat.lt_of_lt_of_le (by have := World.block_lt_of_cell? _ _ hx241_0; first | rwa [add_block] at this | exact this) GW240.out); replace hx241_0 := hbc_ HB.out hx241_0; have HR241_0 := ak hi241_0; have HC241_0 := ak hl241_0; clear hi241_0 hl241_0; replace hx241_0 := (cell_far (p := ⟨gb240, 0, none⟩) (by first | (rw [add_block]; exact hn241_0) | (show (Addr.add _ _).block ≠ _; rw [add_block]; exact hn241_0) | exact hn241_0) (.string ((rd_I_Sym l0 x27_2).f0))).trans hx241_0; replace hx241_0 := (cell_far (p := ⟨gb240, 1, none⟩) (by first | (rw [add_block]; exact hn241_1) | (show (Addr.add _ _).block ≠ _; rw [add_block]; exact hn241_1) | exact hn241_1) (.int .i64 ((rd_I_Sym l0 x27_2).f1))).trans hx241_0; replace hx241_0 := (cell_far (p := ⟨gb240, 2, none⟩) (by first | (rw [add_block]; exact hn241_2) | (show (Addr.add _ _).block ≠ _; rw [add_block]; exact hn241_2) | exact hn241_2) (.bool ((rd_I_Sym l0 x27_2).f2))).trans hx241_0; clear hn241_0; clear hn241_1; clear hn241_2; replace p241 := eq_true p241; replace q241 := eq_true q241) | ((with_reducible refine gate_callee (f := 88) rfl ?_); refine goesM_ (some 43) rfl rfl Try.func88 (by kernel_rfl) rfl #[.int .i64 a1_0, .int .i64 ((rd_I_Sym l0 x27_2).f1)] rfl ?_; (with_reducible refine (impl_placesOf.calls k2 a1_0 ((rd_I_Sym l0 x27_2).f1) t242 _ A19.out).mono ?_); rintro e w' ⟨rfl, ⟨nd, rfl⟩⟩; refine ⟨_, rfl, ?_⟩) | (go_at_call 89; (with_reducible refine (slices_ContainsFunc_int_int__with_impl_WorldOk_1.calls k2 _ _ (rd_Ls_i64 l1_1 x27_2)  gb236 a1_0 (some ad241) c1_1 l1_1 true _ ?side1 ?side2 ?side3 ?side4 ?side5 A21.out).mono ?_); (case side1 => exact Kd.C_below HR241_0.out (bs2_ HB.out GE236.out GE240.out)); (case side2 => exact HC241_0.out); (case side3 => exact (by (with_reducible repeat (first | refine blk_drewN ?_ _ | refine blk_drew ?_ | refine blk_alloc ?_ _)); refine blk_far ?_ NB236_240.out _; (with_reducible repeat (first | refine blk_drewN ?_ _ | refine blk_drew ?_ | refine blk_alloc ?_ _)); refine blk_far ?_ NB236_240.out _; (with_reducible repeat (first | refine blk_drewN ?_ _ | refine blk_drew ?_ | refine blk_alloc ?_ _)); refine blk_far ?_ NB236_240.out _; (with_reducible repeat (first | refine blk_drewN ?_ _ | refine blk_drew ?_ | refine blk_alloc ?_ _)); exact BK236.out)); (case side4 => exact Kd.C_below HR1_1.out (bs2_ HB.out GE236.out GE240.out)); (case side5 => exact HC1_1.out); rintro e w' ⟨rfl, ⟨nd, rfl⟩⟩))
                      go_ret
                      exact fin_ (bs2_ HB.out GE236.out GE240.out)
                    replace c22 := Bool.eq_false_iff.mpr c22; subst c22; rw [if_neg (show ¬ (false = true) by decide)] at H; obtain ⟨bq27, hbq27⟩ : ∃ b_ : Bool, b_ = ((rd_I_Sym l0 x27_2).f2) := ⟨_, rfl⟩; replace H : (if bq27 = true then ((impl_indifferent.f k2 a1_0 (rd_Ls_i64 l1_1 x27_2)).bind fun t244 => (if t244 = true then (impl_WorldOk.l0 k2 l0 (l0.length : Int) (wrap64 (x27_2 + 1)) a1_0 l1_1) else (some false))) else (impl_WorldOk.l0 k2 l0 (l0.length : Int) (wrap64 (x27_2 + 1)) a1_0 l1_1)) = some r := by rw [← hbq27] at H; exact H
                    have Nbq27 := ak hbq27; clear hbq27
                    by_cases c28 : bq27 = true
                    · subst c28; rw [if_pos rfl] at H; replace H := Option.bind_eq_some_iff.mp H; obtain ⟨t244, A290, H⟩ := H; have A29 := ak A290; clear A290
                      by_cases c30 : t244 = true
                      · subst c30; rw [if_pos rfl] at H; have H' := ak H; clear H; have p239 : 0 ≤ (x27_2 : Int) := as_; have q239 : x27_2 < (l0.length : Int) := as_; obtain ⟨ad239, e239, hx239_0, hx239_1, hx239_2⟩ := at_T99 HR0.out x27_2 p239 q239; (try rw [← Nbq27.out] at hx239_2); (try rw [← Nbq27.out] at hw239_2)
                        cases e239
                        replace hx239_0 := hbc_ HB.out hx239_0; replace hx239_1 := hbc_ HB.out hx239_1; replace hx239_2 := hbc_ HB.out hx239_2; replace p239 := eq_true p239; replace q239 := eq_true q239
                        go_wp2_with (first | ((with_reducible refine gate_dst (N := 6) rfl ?_); (try (refine gate_guard (by rfl) ?_; dsimp only)); refine bxe_ (N := 6) (cs := #[.string (⟨#[]⟩ : ByteArray), .int .i64 0, .bool false]) (t := 99) ?_; intro gb240 hg w31 hbox hb; have BK240 := ak (hbox); have GW240 := ak (lg_ hg (bs1_ HB.out GE236.out)); have GE240 := ak (lg_ hg (bs1_ HB.out GE236.out)); replace HB := ak (below_step (bs1_ HB.out GE236.out) hb); have NB236_240 := ak (nl_ hg (bk_ BK236.out)); have NB240_236 := ak (ng_ hg (bk_ BK236.out)); replace BK236 := ak (blk_below (bk_ BK236.out) hb); clear hb hbox hg; have hnb32 := NB240_236.out; have hnc32 := NB236_240.out; have hcz33_0 := bc_ BK240.out 0; have hcz33_1 := bc_ BK240.out 1; have hcz33_2 := bc_ BK240.out 2; have hfz33_0 := blk_frozen BK240.out 0; have hfz33_1 := blk_frozen BK240.out 1; have hfz33_2 := blk_frozen BK240.out 2; have hcz34_0 := bc_ BK236.out 0; have hcz34_1 := bc_ BK236.out 1; have hfz34_0 := blk_frozen BK236.out 0; have hfz34_1 := blk_frozen BK236.out 1; have p241 : 0 ≤ (x27_2 : Int) := as_; have q241 : x27_2 < (l1_1.length : Int) := as_; obtain ⟨ad241, A241_0, c241_0, e241, hx241_0, hl241_0, hi241_0⟩ := at_L5 HR1_1.out x27_2 p241 q241; cases e241; have hn241_0 : ad241.block ≠ gb240 := Nat.ne_of_lt (Nat.lt_of_lt_of_le (by have := World.block_lt_of_cell? _ _ hx241_0; first | rwa [add_block] at this | exact this) GW240.out); have hn241_1 : ad241.block ≠ gb240 := Nat.ne_of_lt (Nat.lt_of_lt_of_le (by have := World.block_lt_of_cell? _ _ hx241_0; first | rwa [add_block] at this | exact this) GW240.out); have hn241_2 : ad241.block ≠ gb240 := Nat.ne_of_lt (Nat.lt_of_lt_of_le (by have := World.block_lt_of_cell? _ _ hx241_0; first | rwa [add_block] at this | exact this) GW240.out); replace hx241_0 := hbc_ HB.out hx241_0; have HR241_0 := ak hi241_0; have HC241_0 := ak hl241_0; clear hi241_0 hl241_0; replace hx241_0 := (cell_far (p := ⟨gb240, 0, none⟩) (by first | (rw [add_block]; exact hn241_0) | (show (Addr.add _ _).block ≠ _; rw [add_block]; exact hn241_0) | exact hn241_0) (.string ((rd_I_Sym l0 x27_2).f0))).trans hx241_0; replace hx241_0 := (cell_far (p := ⟨gb240, 1, none⟩) (by first | (rw [add_block]; exact hn241_1) | (show (Addr.add _ _).block ≠ _; rw [add_block]; exact hn241_1) | exact hn241_1) (.int .i64 ((rd_I_Sym l0 x27_2).f1))).trans hx241_0; replace hx241_0 := (cell_far (p := ⟨gb240, 2, none⟩) (by first | (rw [add_block]; exact hn241_2) | (show (Addr.add _ _).block ≠ _; rw [add_block]; exact hn241_2) | exact hn241_2) (.bool true)).trans hx241_0; clear hn241_0; clear hn241_1; clear hn241_2; replace p241 := eq_true p241; replace q241 := eq_true q241) | ((with_reducible refine gate_callee (f := 88) rfl ?_); refine goesM_ (some 43) rfl rfl Try.func88 (by kernel_rfl) rfl #[.int .i64 a1_0, .int .i64 ((rd_I_Sym l0 x27_2).f1)] rfl ?_; (with_reducible refine (impl_placesOf.calls k2 a1_0 ((rd_I_Sym l0 x27_2).f1) t242 _ A19.out).mono ?_); rintro e w' ⟨rfl, ⟨nd, rfl⟩⟩; refine ⟨_, rfl, ?_⟩) | (go_at_call 89; (with_reducible refine (slices_ContainsFunc_int_int__with_impl_WorldOk_1.calls k2 _ _ (rd_Ls_i64 l1_1 x27_2)  gb236 a1_0 (some ad241) c1_1 l1_1 false _ ?side1 ?side2 ?side3 ?side4 ?side5 A21.out).mono ?_); (case side1 => exact Kd.C_below HR241_0.out (bs2_ HB.out GE236.out GE240.out)); (case side2 => exact HC241_0.out); (case side3 => exact (by (with_reducible repeat (first | refine blk_drewN ?_ _ | refine blk_drew ?_ | refine blk_alloc ?_ _)); refine blk_far ?_ NB236_240.out _; (with_reducible repeat (first | refine blk_drewN ?_ _ | refine blk_drew ?_ | refine blk_alloc ?_ _)); refine blk_far ?_ NB236_240.out _; (with_reducible repeat (first | refine blk_drewN ?_ _ | refine blk_drew ?_ | refine blk_alloc ?_ _)); refine blk_far ?_ NB236_240.out _; (with_reducible repeat (first | refine blk_drewN ?_ _ | refine blk_drew ?_ | refine blk_alloc ?_ _)); exact BK236.out)); (case side4 => exact Kd.C_below HR1_1.out (bs2_ HB.out GE236.out GE240.out)); (case side5 => exact HC1_1.out); rintro e w' ⟨rfl, ⟨nd, rfl⟩⟩) | (go_at_call 91; (with_reducible refine (impl_indifferent.calls k2 a1_0 _ _ (rd_Ls_i64 l1_1 x27_2) true _ ?side1 ?side2 A29.out).mono ?_); (case side1 => exact Kd.C_below HR241_0.out (bs2_ HB.out GE236.out GE240.out)); (case side2 => exact HC241_0.out); rintro e w35 ⟨rfl, hb⟩; replace BK236 := ak (blk_below (g := gb236) (o := .cells #[.int .i64 a1_0, .slice (some ad241) l1_1.length c1_1] 51 (0, 0)) (by (with_reducible repeat (first | refine blk_drewN ?_ _ | refine blk_drew ?_ | refine blk_alloc ?_ _)); refine blk_far ?_ NB236_240.out _; (with_reducible repeat (first | refine blk_drewN ?_ _ | refine blk_drew ?_ | refine blk_alloc ?_ _)); refine blk_far ?_ NB236_240.out _; (with_reducible repeat (first | refine blk_drewN ?_ _ | refine blk_drew ?_ | refine blk_alloc ?_ _)); refine blk_far ?_ NB236_240.out _; (with_reducible repeat (first | refine blk_drewN ?_ _ | refine blk_drew ?_ | refine blk_alloc ?_ _)); exact BK236.out) hb); replace BK240 := ak (blk_below (g := gb240) (o := .cells #[.string ((rd_I_Sym l0 x27_2).f0), .int .i64 ((rd_I_Sym l0 x27_2).f1), .bool true] 99 (0, 0)) (by (with_reducible repeat (first | refine blk_drewN ?_ _ | refine blk_drew ?_ | refine blk_alloc ?_ _)); refine blk_put (cs := #[.string ((rd_I_Sym l0 x27_2).f0), .int .i64 ((rd_I_Sym l0 x27_2).f1), .bool false]) ?_ 2 _ rfl; (with_reducible repeat (first | refine blk_drewN ?_ _ | refine blk_drew ?_ | refine blk_alloc ?_ _)); refine blk_put (cs := #[.string ((rd_I_Sym l0 x27_2).f0), .int .i64 0, .bool false]) ?_ 1 _ rfl; (with_reducible repeat (first | refine blk_drewN ?_ _ | refine blk_drew ?_ | refine blk_alloc ?_ _)); refine blk_put (cs := #[.string (⟨#[]⟩ : ByteArray), .int .i64 0, .bool false]) ?_ 0 _ rfl; (with_reducible repeat (first | refine blk_drewN ?_ _ | refine blk_drew ?_ | refine blk_alloc ?_ _)); exact BK240.out) hb); replace HB := ak (below_step (bs2_ HB.out GE236.out GE240.out) hb); (try clear hb); (try clear hb2); (try clear hk); (try clear hi)))
                        go_roundg k2
                        case measure => have := HJ2.out; have := HK2.out; omega
                        case rel => exact ⟨(wrap64 (x27_2 + 1)), (by first | rfl | (simp; done) | (simp [*]; done)), H', ⟨by have := HJ2.out; have := HK2.out; omega⟩, ⟨bk_ BK236.out⟩, ⟨bs2_ HB.out GE236.out GE240.out⟩⟩
                      replace c30 := Bool.eq_false_iff.mpr c30; subst c30; rw [if_neg (show ¬ (false = true) by decide)] at H; obtain rfl := Option.some.inj H; have p239 : 0 ≤ (x27_2 : Int) := as_; have q239 : x27_2 < (l0.length : Int) := as_; obtain ⟨ad239, e239, hx239_0, hx239_1, hx239_2⟩ := at_T99 HR0.out x27_2 p239 q239; (try rw [← Nbq27.out] at hx239_2); (try rw [← Nbq27.out] at hw239_2)
                      cases e239
                      replace hx239_0 := hbc_ HB.out hx239_0; replace hx239_1 := hbc_ HB.out hx239_1; replace hx239_2 := hbc_ HB.out hx239_2; replace p239 := eq_true p239; replace q239 := eq_true q239
                      go_wp2_with (first | ((with_reducible refine gate_dst (N := 6) rfl ?_); (try (refine gate_guard (by rfl) ?_; dsimp only)); refine bxe_ (N := 6) (cs := #[.string (⟨#[]⟩ : ByteArray), .int .i64 0, .bool false]) (t := 99) ?_; intro gb240 hg w36 hbox hb; have BK240 := ak (hbox); have GW240 := ak (lg_ hg (bs1_ HB.out GE236.out)); have GE240 := ak (lg_ hg (bs1_ HB.out GE236.out)); replace HB := ak (below_step (bs1_ HB.out GE236.out) hb); have NB236_240 := ak (nl_ hg (bk_ BK236.out)); have NB240_236 := ak (ng_ hg (bk_ BK236.out)); replace BK236 := ak (blk_below (bk_ BK236.out) hb); clear hb hbox hg; have hnb37 := NB240_236.out; have hnc37 := NB236_240.out; have hcz38_0 := bc_ BK240.out 0; have hcz38_1 := bc_ BK240.out 1; have hcz38_2 := bc_ BK240.out 2; have hfz38_0 := blk_frozen BK240.out 0; have hfz38_1 := blk_frozen BK240.out 1; have hfz38_2 := blk_frozen BK240.out 2; have hcz39_0 := bc_ BK236.out 0; have hcz39_1 := bc_ BK236.out 1; have hfz39_0 := blk_frozen BK236.out 0; have hfz39_1 := blk_frozen BK236.out 1; have p241 : 0 ≤ (x27_2 : Int) := as_; have q241 : x27_2 < (l1_1.length : Int) := as_; obtain ⟨ad241, A241_0, c241_0, e241, hx241_0, hl241_0, hi241_0⟩ := at_L5 HR1_1.out x27_2 p241 q241; cases e241; have hn241_0 : ad241.block ≠ gb240 := Nat.ne_of_lt (Nat.lt_of_lt_of_le (by have := World.block_lt_of_cell? _ _ hx241_0; first | rwa [add_block] at this | exact this) GW240.out); have hn241_1 : ad241.block ≠ gb240 := Nat.ne_of_lt (Nat.lt_of_lt_of_le (by have := World.block_lt_of_cell? _ _ hx241_0; first | rwa [add_block] at this | exact this) GW240.out); have hn241_2 : ad241.block ≠ gb240 := Nat.ne_of_lt (Nat.lt_of_lt_of_le (by have := World.block_lt_of_cell? _ _ hx241_0; first | rwa [add_block] at this | exact this) GW240.out); replace hx241_0 := hbc_ HB.out hx241_0; have HR241_0 := ak hi241_0; have HC241_0 := ak hl241_0; clear hi241_0 hl241_0; replace hx241_0 := (cell_far (p := ⟨gb240, 0, none⟩) (by first | (rw [add_block]; exact hn241_0) | (show (Addr.add _ _).block ≠ _; rw [add_block]; exact hn241_0) | exact hn241_0) (.string ((rd_I_Sym l0 x27_2).f0))).trans hx241_0; replace hx241_0 := (cell_far (p := ⟨gb240, 1, none⟩) (by first | (rw [add_block]; exact hn241_1) | (show (Addr.add _ _).block ≠ _; rw [add_block]; exact hn241_1) | exact hn241_1) (.int .i64 ((rd_I_Sym l0 x27_2).f1))).trans hx241_0; replace hx241_0 := (cell_far (p := ⟨gb240, 2, none⟩) (by first | (rw [add_block]; exact hn241_2) | (show (Addr.add _ _).block ≠ _; rw [add_block]; exact hn241_2) | exact hn241_2) (.bool true)).trans hx241_0; clear hn241_0; clear hn241_1; clear hn241_2; replace p241 := eq_true p241; replace q241 := eq_true q241) | ((with_reducible refine gate_callee (f := 88) rfl ?_); refine goesM_ (some 43) rfl rfl Try.func88 (by kernel_rfl) rfl #[.int .i64 a1_0, .int .i64 ((rd_I_Sym l0 x27_2).f1)] rfl ?_; (with_reducible refine (impl_placesOf.calls k2 a1_0 ((rd_I_Sym l0 x27_2).f1) t242 _ A19.out).mono ?_); rintro e w' ⟨rfl, ⟨nd, rfl⟩⟩; refine ⟨_, rfl, ?_⟩) | (go_at_call 89; (with_reducible refine (slices_ContainsFunc_int_int__with_impl_WorldOk_1.calls k2 _ _ (rd_Ls_i64 l1_1 x27_2)  gb236 a1_0 (some ad241) c1_1 l1_1 false _ ?side1 ?side2 ?side3 ?side4 ?side5 A21.out).mono ?_); (case side1 => exact Kd.C_below HR241_0.out (bs2_ HB.out GE236.out GE240.out)); (case side2 => exact HC241_0.out); (case side3 => exact (by (with_reducible repeat (first | refine blk_drewN ?_ _ | refine blk_drew ?_ | refine blk_alloc ?_ _)); refine blk_far ?_ NB236_240.out _; (with_reducible repeat (first | refine blk_drewN ?_ _ | refine blk_drew ?_ | refine blk_alloc ?_ _)); refine blk_far ?_ NB236_240.out _; (with_reducible repeat (first | refine blk_drewN ?_ _ | refine blk_drew ?_ | refine blk_alloc ?_ _)); refine blk_far ?_ NB236_240.out _; (with_reducible repeat (first | refine blk_drewN ?_ _ | refine blk_drew ?_ | refine blk_alloc ?_ _)); exact BK236.out)); (case side4 => exact Kd.C_below HR1_1.out (bs2_ HB.out GE236.out GE240.out)); (case side5 => exact HC1_1.out); rintro e w' ⟨rfl, ⟨nd, rfl⟩⟩) | (go_at_call 91; (with_reducible refine (impl_indifferent.calls k2 a1_0 _ _ (rd_Ls_i64 l1_1 x27_2) false _ ?side1 ?side2 A29.out).mono ?_); (case side1 => exact Kd.C_below HR241_0.out (bs2_ HB.out GE236.out GE240.out)); (case side2 => exact HC241_0.out); rintro e w40 ⟨rfl, hb⟩; replace BK236 := ak (blk_below (g := gb236) (o := .cells #[.int .i64 a1_0, .slice (some ad241) l1_1.length c1_1] 51 (0, 0)) (by (with_reducible repeat (first | refine blk_drewN ?_ _ | refine blk_drew ?_ | refine blk_alloc ?_ _)); refine blk_far ?_ NB236_240.out _; (with_reducible repeat (first | refine blk_drewN ?_ _ | refine blk_drew ?_ | refine blk_alloc ?_ _)); refine blk_far ?_ NB236_240.out _; (with_reducible repeat (first | refine blk_drewN ?_ _ | refine blk_drew ?_ | refine blk_alloc ?_ _)); refine blk_far ?_ NB236_240.out _; (with_reducible repeat (first | refine blk_drewN ?_ _ | refine blk_drew ?_ | refine blk_alloc ?_ _)); exact BK236.out) hb); replace BK240 := ak (blk_below (g := gb240) (o := .cells #[.string ((rd_I_Sym l0 x27_2).f0), .int .i64 ((rd_I_Sym l0 x27_2).f1), .bool true] 99 (0, 0)) (by (with_reducible repeat (first | refine blk_drewN ?_ _ | refine blk_drew ?_ | refine blk_alloc ?_ _)); refine blk_put (cs := #[.string ((rd_I_Sym l0 x27_2).f0), .int .i64 ((rd_I_Sym l0 x27_2).f1), .bool false]) ?_ 2 _ rfl; (with_reducible repeat (first | refine blk_drewN ?_ _ | refine blk_drew ?_ | refine blk_alloc ?_ _)); refine blk_put (cs := #[.string ((rd_I_Sym l0 x27_2).f0), .int .i64 0, .bool false]) ?_ 1 _ rfl; (with_reducible repeat (first | refine blk_drewN ?_ _ | refine blk_drew ?_ | refine blk_alloc ?_ _)); refine blk_put (cs := #[.string (⟨#[]⟩ : ByteArray), .int .i64 0, .bool false]) ?_ 0 _ rfl; (with_reducible repeat (first | refine blk_drewN ?_ _ | refine blk_drew ?_ | refine blk_alloc ?_ _)); exact BK240.out) hb); replace HB := ak (below_step (bs2_ HB.out GE236.out GE240.out) hb); (try clear hb); (try clear hb2); (try clear hk); (try clear hi)))
                      go_ret
                      exact fin_ (bs2_ HB.out GE236.out GE240.out)
                    replace c28 := Bool.eq_false_iff.mpr c28; subst c28; rw [if_neg (show ¬ (false = true) by decide)] at H; have H' := ak H; clear H; have p239 : 0 ≤ (x27_2 : Int) := as_; have q239 : x27_2 < (l0.length : Int) := as_; obtain ⟨ad239, e239, hx239_0, hx239_1, hx239_2⟩ := at_T99 HR0.out x27_2 p239 q239; (try rw [← Nbq27.out] at hx239_2); (try rw [← Nbq27.out] at hw239_2)
                    cases e239
                    replace hx239_0 := hbc_ HB.out hx239_0; replace hx239_1 := hbc_ HB.out hx239_1; replace hx239_2 := hbc_ HB.out hx239_2; replace p239 := eq_true p239; replace q239 := eq_true q239
                    go_wp2_with (first | ((with_reducible refine gate_dst (N := 6) rfl ?_); (try (refine gate_guard (by rfl) ?_; dsimp only)); refine bxe_ (N := 6) (cs := #[.string (⟨#[]⟩ : ByteArray), .int .i64 0, .bool false]) (t := 99) ?_; intro gb240 hg w41 hbox hb; have BK240 := ak (hbox); have GW240 := ak (lg_ hg (bs1_ HB.out GE236.out)); have GE240 := ak (lg_ hg (bs1_ HB.out GE236.out)); replace HB := ak (below_step (bs1_ HB.out GE236.out) hb); have NB236_240 := ak (nl_ hg (bk_ BK236.out)); have NB240_236 := ak (ng_ hg (bk_ BK236.out)); replace BK236 := ak (blk_below (bk_ BK236.out) hb); clear hb hbox hg; have hnb42 := NB240_236.out; have hnc42 := NB236_240.out; have hcz43_0 := bc_ BK240.out 0; have hcz43_1 := bc_ BK240.out 1; have hcz43_2 := bc_ BK240.out 2; have hfz43_0 := blk_frozen BK240.out 0; have hfz43_1 := blk_frozen BK240.out 1; have hfz43_2 := blk_frozen BK240.out 2; have hcz44_0 := bc_ BK236.out 0; have hcz44_1 := bc_ BK236.out 1; have hfz44_0 := blk_frozen BK236.out 0; have hfz44_1 := blk_frozen BK236.out 1; have p241 : 0 ≤ (x27_2 : Int) := as_; have q241 : x27_2 < (l1_1.length : Int) := as_; obtain ⟨ad241, A241_0, c241_0, e241, hx241_0, hl241_0, hi241_0⟩ := at_L5 HR1_1.out x27_2 p241 q241; cases e241; have hn241_0 : ad241.block ≠ gb240 := Nat.ne_of_lt (Nat.lt_of_lt_of_le (by have := World.block_lt_of_cell? _ _ hx241_0; first | rwa [add_block] at this | exact this) GW240.out); have hn241_1 : ad241.block ≠ gb240 := Nat.ne_of_lt (Nat.lt_of_lt_of_le (by have := World.block_lt_of_cell? _ _ hx241_0; first | rwa [add_block] at this | exact this) GW240.out); have hn241_2 : ad241.block ≠ gb240 := Nat.ne_of_lt (Nat.lt_of_lt_of_le (by have := World.block_lt_of_cell? _ _ hx241_0; first | rwa [add_block] at this | exact this) GW240.out); replace hx241_0 := hbc_ HB.out hx241_0; have HR241_0 := ak hi241_0; have HC241_0 := ak hl241_0; clear hi241_0 hl241_0; replace hx241_0 := (cell_far (p := ⟨gb240, 0, none⟩) (by first | (rw [add_block]; exact hn241_0) | (show (Addr.add _ _).block ≠ _; rw [add_block]; exact hn241_0) | exact hn241_0) (.string ((rd_I_Sym l0 x27_2).f0))).trans hx241_0; replace hx241_0 := (cell_far (p := ⟨gb240, 1, none⟩) (by first | (rw [add_block]; exact hn241_1) | (show (Addr.add _ _).block ≠ _; rw [add_block]; exact hn241_1) | exact hn241_1) (.int .i64 ((rd_I_Sym l0 x27_2).f1))).trans hx241_0; replace hx241_0 := (cell_far (p := ⟨gb240, 2, none⟩) (by first | (rw [add_block]; exact hn241_2) | (show (Addr.add _ _).block ≠ _; rw [add_block]; exact hn241_2) | exact hn241_2) (.bool false)).trans hx241_0; clear hn241_0; clear hn241_1; clear hn241_2; replace p241 := eq_true p241; replace q241 := eq_true q241) | ((with_reducible refine gate_callee (f := 88) rfl ?_); refine goesM_ (some 43) rfl rfl Try.func88 (by kernel_rfl) rfl #[.int .i64 a1_0, .int .i64 ((rd_I_Sym l0 x27_2).f1)] rfl ?_; (with_reducible refine (impl_placesOf.calls k2 a1_0 ((rd_I_Sym l0 x27_2).f1) t242 _ A19.out).mono ?_); rintro e w' ⟨rfl, ⟨nd, rfl⟩⟩; refine ⟨_, rfl, ?_⟩) | (go_at_call 89; (with_reducible refine (slices_ContainsFunc_int_int__with_impl_WorldOk_1.calls k2 _ _ (rd_Ls_i64 l1_1 x27_2)  gb236 a1_0 (some ad241) c1_1 l1_1 false _ ?side1 ?side2 ?side3 ?side4 ?side5 A21.out).mono ?_); (case side1 => exact Kd.C_below HR241_0.out (bs2_ HB.out GE236.out GE240.out)); (case side2 => exact HC241_0.out); (case side3 => exact (by (with_reducible repeat (first | refine blk_drewN ?_ _ | refine blk_drew ?_ | refine blk_alloc ?_ _)); refine blk_far ?_ NB236_240.out _; (with_reducible repeat (first | refine blk_drewN ?_ _ | refine blk_drew ?_ | refine blk_alloc ?_ _)); refine blk_far ?_ NB236_240.out _; (with_reducible repeat (first | refine blk_drewN ?_ _ | refine blk_drew ?_ | refine blk_alloc ?_ _)); refine blk_far ?_ NB236_240.out _; (with_reducible repeat (first | refine blk_drewN ?_ _ | refine blk_drew ?_ | refine blk_alloc ?_ _)); exact BK236.out)); (case side4 => exact Kd.C_below HR1_1.out (bs2_ HB.out GE236.out GE240.out)); (case side5 => exact HC1_1.out); rintro e w' ⟨rfl, ⟨nd, rfl⟩⟩))
                    go_roundg k2
                    case measure => have := HJ2.out; have := HK2.out; omega
                    case rel => exact ⟨(wrap64 (x27_2 + 1)), (by first | rfl | (simp; done) | (simp [*]; done)), H', ⟨by have := HJ2.out; have := HK2.out; omega⟩, ⟨by (with_reducible repeat (first | refine blk_drewN ?_ _ | refine blk_drew ?_ | refine blk_alloc ?_ _)); refine blk_far ?_ NB236_240.out _; (with_reducible repeat (first | refine blk_drewN ?_ _ | refine blk_drew ?_ | refine blk_alloc ?_ _)); refine blk_far ?_ NB236_240.out _; (with_reducible repeat (first | refine blk_drewN ?_ _ | refine blk_drew ?_ | refine blk_alloc ?_ _)); refine blk_far ?_ NB236_240.out _; (with_reducible repeat (first | refine blk_drewN ?_ _ | refine blk_drew ?_ | refine blk_alloc ?_ _)); exact BK236.out⟩, ⟨bs2_ HB.out GE236.out GE240.out⟩⟩
                  rw [if_neg c20] at H; have c20b0 : (((rd_Ls_i64 l1_1 x27_2).length : Int) == t242) = false := beq_eq_false_iff_ne.mpr c20; have c20b1 : (((rd_Ls_i64 l1_1 x27_2).length : Int) != t242) = true := bne_iff_ne.mpr c20; obtain rfl := Option.some.inj H; have p239 : 0 ≤ (x27_2 : Int) := as_; have q239 : x27_2 < (l0.length : Int) := as_; obtain ⟨ad239, e239, hx239_0, hx239_1, hx239_2⟩ := at_T99 HR0.out x27_2 p239 q239
                  cases e239
                  replace hx239_0 := hbc_ HB.out hx239_0; replace hx239_1 := hbc_ HB.out hx239_1; replace hx239_2 := hbc_ HB.out hx239_2; replace p239 := eq_true p239; replace q239 := eq_true q239
                  go_wp2_with (first | ((with_reducible refine gate_dst (N := 6) rfl ?_); (try (refine gate_guard (by rfl) ?_; dsimp only)); refine bxe_ (N := 6) (cs := #[.string (⟨#[]⟩ : ByteArray), .int .i64 0, .bool false]) (t := 99) ?_; intro gb240 hg w45 hbox hb; have BK240 := ak (hbox); have GW240 := ak (lg_ hg (bs1_ HB.out GE236.out)); have GE240 := ak (lg_ hg (bs1_ HB.out GE236.out)); replace HB := ak (below_step (bs1_ HB.out GE236.out) hb); have NB236_240 := ak (nl_ hg (bk_ BK236.out)); have NB240_236 := ak (ng_ hg (bk_ BK236.out)); replace BK236 := ak (blk_below (bk_ BK236.out) hb); clear hb hbox hg; have hnb46 := NB240_236.out; have hnc46 := NB236_240.out; have hcz47_0 := bc_ BK240.out 0; have hcz47_1 := bc_ BK240.out 1; have hcz47_2 := bc_ BK240.out 2; have hfz47_0 := blk_frozen BK240.out 0; have hfz47_1 := blk_frozen BK240.out 1; have hfz47_2 := blk_frozen BK240.out 2; have hcz48_0 := bc_ BK236.out 0; have hcz48_1 := bc_ BK236.out 1; have hfz48_0 := blk_frozen BK236.out 0; have hfz48_1 := blk_frozen BK236.out 1; have p241 : 0 ≤ (x27_2 : Int) := as_; have q241 : x27_2 < (l1_1.length : Int) := as_; obtain ⟨ad241, A241_0, c241_0, e241, hx241_0, hl241_0, hi241_0⟩ := at_L5 HR1_1.out x27_2 p241 q241; cases e241; have hn241_0 : ad241.block ≠ gb240 := Nat.ne_of_lt (Nat.lt_of_lt_of_le (by have := World.block_lt_of_cell? _ _ hx241_0; first | rwa [add_block] at this | exact this) GW240.out); have hn241_1 : ad241.block ≠ gb240 := Nat.ne_of_lt (Nat.lt_of_lt_of_le (by have := World.block_lt_of_cell? _ _ hx241_0; first | rwa [add_block] at this | exact this) GW240.out); have hn241_2 : ad241.block ≠ gb240 := Nat.ne_of_lt (Nat.lt_of_lt_of_le (by have := World.block_lt_of_cell? _ _ hx241_0; first | rwa [add_block] at this | exact this) GW240.out); replace hx241_0 := hbc_ HB.out hx241_0; have HR241_0 := ak hi241_0; have HC241_0 := ak hl241_0; clear hi241_0 hl241_0; replace hx241_0 := (cell_far (p := ⟨gb240, 0, none⟩) (by first | (rw [add_block]; exact hn241_0) | (show (Addr.add _ _).block ≠ _; rw [add_block]; exact hn241_0) | exact hn241_0) (.string ((rd_I_Sym l0 x27_2).f0))).trans hx241_0; replace hx241_0 := (cell_far (p := ⟨gb240, 1, none⟩) (by first | (rw [add_block]; exact hn241_1) | (show (Addr.add _ _).block ≠ _; rw [add_block]; exact hn241_1) | exact hn241_1) (.int .i64 ((rd_I_Sym l0 x27_2).f1))).trans hx241_0; replace hx241_0 := (cell_far (p := ⟨gb240, 2, none⟩) (by first | (rw [add_block]; exact hn241_2) | (show (Addr.add _ _).block ≠ _; rw [add_block]; exact hn241_2) | exact hn241_2) (.bool ((rd_I_Sym l0 x27_2).f2))).trans hx241_0; clear hn241_0; clear hn241_1; clear hn241_2; replace p241 := eq_true p241; replace q241 := eq_true q241) | ((with_reducible refine gate_callee (f := 88) rfl ?_); refine goesM_ (some 43) rfl rfl Try.func88 (by kernel_rfl) rfl #[.int .i64 a1_0, .int .i64 ((rd_I_Sym l0 x27_2).f1)] rfl ?_; (with_reducible refine (impl_placesOf.calls k2 a1_0 ((rd_I_Sym l0 x27_2).f1) t242 _ A19.out).mono ?_); rintro e w' ⟨rfl, ⟨nd, rfl⟩⟩; refine ⟨_, rfl, ?_⟩))
                  go_ret
                  exact fin_ (bs2_ HB.out GE236.out GE240.out)
                rw [if_neg c18] at H; exact absurd H (by simp)
              rw [if_neg c17] at H; exact absurd H (by simp)
            rw [if_neg c16] at H; exact absurd H (by simp)
          rw [if_neg c15] at H; have c15b0 := decide_eq_false c15; clear c15; obtain rfl := Option.some.inj H
          go_wp2
          go_ret
          exact fin_ (bs1_ HB.out GE236.out)

/-! ### impl_placeOf: function 108 -/
def impl_placeOf.l0 : Nat → List Int → Int → Int → Int → Option (Int)
  | 0, _, _, _, _ => none
  | k + 1, x0, x1, x5, x6 => if x6 ≥ 0 then (if 0 ≤ x6 then (if x6 < (x0.length : Int) then (impl_placeOf.l0 k x0 x1 (wrap64 ((wrap64 (x5 * x1)) + (rd x0 x6))) (wrap64 (x6 - 1))) else (none)) else (none)) else (some x5)
def impl_placeOf.f (k : Nat) (l0 : List Int) (a1 : Int) : Option (Int) := impl_placeOf.l0 k l0 a1 0 (wrap64 ((l0.length : Int) - 1))
theorem impl_placeOf.mono_l : ∀ k, (∀ y0 y1 y2 y3, LeO (impl_placeOf.l0 k y0 y1 y2 y3) (impl_placeOf.l0 (k + 1) y0 y1 y2 y3))
  | 0 => fun _ _ _ _ r h => by simp [impl_placeOf.l0] at h
  | k + 1 => by
    have ih0 := impl_placeOf.mono_l k
    · intro y0 y1 y2 y3
      unfold impl_placeOf.l0
      repeat' first | (with_reducible first | exact ih0 _ _ _ _ | exact LeO.refl _ | exact LeO.none _ | refine LeO.ite ?_ ?_ | refine LeO.bind ?_ (fun _ => ?_)) | exact ih0 _ _ _ _ | exact LeO.none _ | refine LeO.ite ?_ ?_ | refine LeO.bind ?_ (fun _ => ?_)
theorem impl_placeOf.mono : ∀ a0 a1 k, LeO (impl_placeOf.f k a0 a1) (impl_placeOf.f (k + 1) a0 a1) := by
  intro a0 a1 k; have ih0 := impl_placeOf.mono_l k
  unfold impl_placeOf.f
  repeat' first
      | (with_reducible exact ih0 _ _ _ _)
      | (with_reducible exact LeO.refl _)
      | (with_reducible exact LeO.none _)
      | (with_reducible refine LeO.ite ?_ ?_)
      | (with_reducible refine LeO.bind ?_ (fun _ => ?_))
      | exact ih0 _ _ _ _
      | exact LeO.none _
      | refine LeO.ite ?_ ?_
      | refine LeO.bind ?_ (fun _ => ?_)
set_option maxHeartbeats 8000000 in
set_option maxRecDepth 100000 in
theorem impl_placeOf.calls (k : Nat) (A0 : Option Addr) (c0 : Nat) (l0 : List Int) (a1 : Int) (r : Int) (w : World) (hr0 : Kd.C (Kd.int .i64) w A0 l0.length l0) (hc0 : l0.length ≤ c0) (h : impl_placeOf.f k l0 a1 = some r) :
    Calls Try.prog 108 #[.slice A0 l0.length c0, .int .i64 a1] w fun e w' => e = .returned (.int .i64 r) ∧ Drawn0 w w' := by
  have HR0 := ak hr0; have HC0 := ak hc0; clear hr0 hc0; have H : (impl_placeOf.l0 k l0 a1 0 (wrap64 ((l0.length : Int) - 1))) = some r := h; clear h; have H' := ak H; clear H
  go_enter Try.func108, Try.ntmps108
  go_wp2
  go_loopg [5, 6] k (fun kq v5 v6 w' => ∃ (x5_1 : Int) (x6_1 : Int), v5 = .int .i64 x5_1 ∧ v6 = .int .i64 x6_1 ∧ Aside0 (impl_placeOf.l0 kq l0 a1 x5_1 x6_1 = some r) ∧ Aside0 (kq ≤ k) ∧ Drawn0 w w')
  case atStart => exact ⟨(0), (wrap64 ((l0.length : Int) - 1)), (by first | rfl | (simp; done) | (simp [*]; done)), (by first | rfl | (simp; done) | (simp [*]; done)), H', ⟨Nat.le_refl _⟩, by repeat (first | exact Drawn0.refl _ | apply Drawn0.step)⟩
  case round =>
    clear H'; (try clear c1); (try clear p2); obtain ⟨x5_1, x6_1, rfl, rfl, HA, HK1, ⟨m1, rfl⟩⟩ := hrel
    cases gk with
    | zero => exact absurd HA.out (by simp [impl_placeOf.l0])
    | succ k1 =>
      have H := HA.out; clear HA
      simp only [impl_placeOf.l0] at H
      by_cases c3 : x6_1 ≥ 0
      · rw [if_pos c3] at H; have c3b0 := decide_eq_true c3; clear c3
        by_cases c4 : 0 ≤ x6_1
        · rw [if_pos c4] at H; have c4b0 := decide_eq_true c4; clear c4
          by_cases c5 : x6_1 < (l0.length : Int)
          · rw [if_pos c5] at H; have c5b0 := decide_eq_true c5; clear c5; have H' := ak H; clear H; have p245 : 0 ≤ (x6_1 : Int) := as_; have q245 : x6_1 < (l0.length : Int) := as_; obtain ⟨ad245, e245, hx245_0⟩ := Kd.at_int HR0.out x6_1 p245 q245
            cases e245
            replace p245 := eq_true p245; replace q245 := eq_true q245
            go_wp2
            go_roundg k1
            case measure => have := HK1.out; omega
            case rel => exact ⟨(wrap64 ((wrap64 (x5_1 * a1)) + (rd l0 x6_1))), (wrap64 (x6_1 - 1)), (by first | rfl | (simp; done) | (simp [*]; done)), (by first | rfl | (simp; done) | (simp [*]; done)), H', ⟨by have := HK1.out; omega⟩, by repeat (first | exact Drawn0.refl _ | apply Drawn0.step)⟩
          rw [if_neg c5] at H; exact absurd H (by simp)
        rw [if_neg c4] at H; exact absurd H (by simp)
      rw [if_neg c3] at H; have c3b0 := decide_eq_false c3; clear c3; obtain rfl := Option.some.inj H
      go_wp2
      go_ret
      exact ⟨by first | rfl | (simp; done) | (simp [*]; done), by repeat (first | exact Drawn0.refl _ | apply Drawn0.step)⟩

/-! ### impl_Subworld_1: function 107 -/
def impl_Subworld_1.f (k : Nat) (a0 : Int) (l1 : List Int) (a2_0 : Int) (l2_1 : List (List Int)) : Option (Int) := if 0 ≤ a0 then (if a0 < (l2_1.length : Int) then ((impl_placeOf.f k l1 a2_0).bind fun t247 => (if 0 ≤ t247 then (if t247 < ((rd_Ls_i64 l2_1 a0).length : Int) then (some (rd (rd_Ls_i64 l2_1 a0) t247)) else (none)) else (none))) else (none)) else (none)
theorem impl_Subworld_1.mono : ∀ a0 a1 a2 a3 k, LeO (impl_Subworld_1.f k a0 a1 a2 a3) (impl_Subworld_1.f (k + 1) a0 a1 a2 a3) := by
  intro a0 a1 a2 a3 k
  unfold impl_Subworld_1.f
  repeat' first
      | (with_reducible exact impl_placeOf.mono _ _ _)
      | (with_reducible exact LeO.refl _)
      | (with_reducible exact LeO.none _)
      | (with_reducible refine LeO.ite ?_ ?_)
      | (with_reducible refine LeO.bind ?_ (fun _ => ?_))
      | exact impl_placeOf.mono _ _ _
      | exact LeO.none _
      | refine LeO.ite ?_ ?_
      | refine LeO.bind ?_ (fun _ => ?_)
set_option maxHeartbeats 8000000 in
set_option maxRecDepth 100000 in
theorem impl_Subworld_1.calls (k : Nat) (a0 : Int) (A1 : Option Addr) (c1 : Nat) (l1 : List Int) (G2 : Nat) (a2_0 : Int) (A2_1 : Option Addr) (c2_1 : Nat) (l2_1 : List (List Int)) (r : Int) (w : World) (hr1 : Kd.C (Kd.int .i64) w A1 l1.length l1) (hc1 : l1.length ≤ c1) (hG2 : w.heap[G2]? = some (.cells #[.int .i64 a2_0, .slice A2_1 l2_1.length c2_1] 51 (0, 0))) (hr2_1 : Kd.C (Kd.slice 3 (Kd.int .i64)) w A2_1 l2_1.length l2_1) (hc2_1 : l2_1.length ≤ c2_1) (h : impl_Subworld_1.f k a0 l1 a2_0 l2_1 = some r) :
    Calls Try.prog 107 #[.int .i64 a0, .slice A1 l1.length c1, .pointer (some ⟨G2, 0, none⟩)] w fun e w' => e = .returned (.int .i64 r) ∧ Drawn0 w w' := by
  have HR1 := ak hr1; have HC1 := ak hc1; clear hr1 hc1; have HR2_1 := ak hr2_1; have HC2_1 := ak hc2_1; clear hr2_1 hc2_1; have BK2 := ak hG2; clear hG2; have H : (if 0 ≤ a0 then (if a0 < (l2_1.length : Int) then ((impl_placeOf.f k l1 a2_0).bind fun t247 => (if 0 ≤ t247 then (if t247 < ((rd_Ls_i64 l2_1 a0).length : Int) then (some (rd (rd_Ls_i64 l2_1 a0) t247)) else (none)) else (none))) else (none)) else (none)) = some r := h; clear h
  by_cases c4 : 0 ≤ a0
  · rw [if_pos c4] at H; have c4b0 := decide_eq_true c4; clear c4
    by_cases c5 : a0 < (l2_1.length : Int)
    · rw [if_pos c5] at H; have c5b0 := decide_eq_true c5; clear c5; replace H := Option.bind_eq_some_iff.mp H; obtain ⟨t247, A60, H⟩ := H; have A6 := ak A60; clear A60
      by_cases c7 : 0 ≤ t247
      · rw [if_pos c7] at H; have c7b0 := decide_eq_true c7; clear c7
        by_cases c8 : t247 < ((rd_Ls_i64 l2_1 a0).length : Int)
        · rw [if_pos c8] at H; have c8b0 := decide_eq_true c8; clear c8; obtain rfl := Option.some.inj H; have hcz9_0 := bc_ BK2.out 0; have hcz9_1 := bc_ BK2.out 1; have hfz9_0 := blk_frozen BK2.out 0; have hfz9_1 := blk_frozen BK2.out 1; have p246 : 0 ≤ (a0 : Int) := as_; have q246 : a0 < (l2_1.length : Int) := as_; obtain ⟨ad246, A246_0, c246_0, e246, hx246_0, hl246_0, hi246_0⟩ := at_L5 HR2_1.out a0 p246 q246
          cases e246
          have HR246_0 := ak hi246_0; have HC246_0 := ak hl246_0; clear hi246_0 hl246_0; replace p246 := eq_true p246; replace q246 := eq_true q246
          go_enter Try.func107, Try.ntmps107
          go_wp2_with (first | (go_at_call 108; (with_reducible refine (impl_placeOf.calls k _ _ l1 a2_0 t247 _ ?side1 ?side2 A6.out).mono ?_); (case side1 => exact ca_ HR1.out); (case side2 => exact HC1.out); rintro e w' ⟨rfl, ⟨nd, rfl⟩⟩; (try first | exact ⟨rfl, _, World.drewN_drewN _ _ _⟩ | exact ⟨rfl, _, Eq.trans (World.drewN_drewN _ _ _) (congrArg (World.drewN _) (Nat.add_assoc _ _ _))⟩); have p248 : 0 ≤ (t247 : Int) := as_; have q248 : t247 < ((rd_Ls_i64 l2_1 a0).length : Int) := as_; obtain ⟨ad248, e248, hx248_0⟩ := Kd.at_int HR246_0.out t247 p248 q248; cases e248; replace p248 := eq_true p248; replace q248 := eq_true q248))
          repeat (go_quiet (first | (go_at_call 108; (with_reducible refine (impl_placeOf.calls k _ _ l1 a2_0 t247 _ ?side1 ?side2 A6.out).mono ?_); (case side1 => exact ca_ HR1.out); (case side2 => exact HC1.out); rintro e w' ⟨rfl, ⟨nd, rfl⟩⟩; (try first | exact ⟨rfl, _, World.drewN_drewN _ _ _⟩ | exact ⟨rfl, _, Eq.trans (World.drewN_drewN _ _ _) (congrArg (World.drewN _) (Nat.add_assoc _ _ _))⟩); have p248 : 0 ≤ (t247 : Int) := as_; have q248 : t247 < ((rd_Ls_i64 l2_1 a0).length : Int) := as_; obtain ⟨ad248, e248, hx248_0⟩ := Kd.at_int HR246_0.out t247 p248 q248; cases e248; replace p248 := eq_true p248; replace q248 := eq_true q248)); try go_wp2_with (first | (go_at_call 108; (with_reducible refine (impl_placeOf.calls k _ _ l1 a2_0 t247 _ ?side1 ?side2 A6.out).mono ?_); (case side1 => exact ca_ HR1.out); (case side2 => exact HC1.out); rintro e w' ⟨rfl, ⟨nd, rfl⟩⟩; (try first | exact ⟨rfl, _, World.drewN_drewN _ _ _⟩ | exact ⟨rfl, _, Eq.trans (World.drewN_drewN _ _ _) (congrArg (World.drewN _) (Nat.add_assoc _ _ _))⟩); have p248 : 0 ≤ (t247 : Int) := as_; have q248 : t247 < ((rd_Ls_i64 l2_1 a0).length : Int) := as_; obtain ⟨ad248, e248, hx248_0⟩ := Kd.at_int HR246_0.out t247 p248 q248; cases e248; replace p248 := eq_true p248; replace q248 := eq_true q248)))
          go_ret
          exact ⟨by first | rfl | (simp; done) | (simp [*]; done), by repeat (first | exact Drawn0.refl _ | apply Drawn0.step)⟩
        rw [if_neg c8] at H; exact absurd H (by simp)
      rw [if_neg c7] at H; exact absurd H (by simp)
    rw [if_neg c5] at H; exact absurd H (by simp)
  rw [if_neg c4] at H; exact absurd H (by simp)

/-! ### impl_digitsOf: function 159 -/
def impl_digitsOf.l0 : Nat → Int → Int → List Int → Int → Int → Option (List Int)
  | 0, _, _, _, _, _ => none
  | k + 1, x0, x1, x7, x9, x10 => if x10 < x9 then (if x1 = 0 then (none) else (if x7.length < 17592186044416 then (impl_digitsOf.l0 k (wrap64 (Int.tdiv x0 x1)) x1 (x7 ++ [Int.tmod x0 x1]) x9 (wrap64 (x10 + 1))) else (none))) else (some x7)
def impl_digitsOf.f (k : Nat) (a0 : Int) (a1 : Int) (a2 : Int) : Option (List Int) := impl_digitsOf.l0 k a0 a1 (([] : List Int)) a2 0
theorem impl_digitsOf.mono_l : ∀ k, (∀ y0 y1 y2 y3 y4, LeO (impl_digitsOf.l0 k y0 y1 y2 y3 y4) (impl_digitsOf.l0 (k + 1) y0 y1 y2 y3 y4))
  | 0 => fun _ _ _ _ _ r h => by simp [impl_digitsOf.l0] at h
  | k + 1 => by
    have ih0 := impl_digitsOf.mono_l k
    · intro y0 y1 y2 y3 y4
      unfold impl_digitsOf.l0
      repeat' first | (with_reducible first | exact ih0 _ _ _ _ _ | exact LeO.refl _ | exact LeO.none _ | refine LeO.ite ?_ ?_ | refine LeO.bind ?_ (fun _ => ?_)) | exact ih0 _ _ _ _ _ | exact LeO.none _ | refine LeO.ite ?_ ?_ | refine LeO.bind ?_ (fun _ => ?_)
theorem impl_digitsOf.mono : ∀ a0 a1 a2 k, LeO (impl_digitsOf.f k a0 a1 a2) (impl_digitsOf.f (k + 1) a0 a1 a2) := by
  intro a0 a1 a2 k; have ih0 := impl_digitsOf.mono_l k
  unfold impl_digitsOf.f
  repeat' first
      | (with_reducible exact ih0 _ _ _ _ _)
      | (with_reducible exact LeO.refl _)
      | (with_reducible exact LeO.none _)
      | (with_reducible refine LeO.ite ?_ ?_)
      | (with_reducible refine LeO.bind ?_ (fun _ => ?_))
      | exact ih0 _ _ _ _ _
      | exact LeO.none _
      | refine LeO.ite ?_ ?_
      | refine LeO.bind ?_ (fun _ => ?_)
set_option maxHeartbeats 8000000 in
set_option maxRecDepth 100000 in
theorem impl_digitsOf.calls (k : Nat) (a0 : Int) (a1 : Int) (a2 : Int) (r : List Int) (w : World) (h : impl_digitsOf.f k a0 a1 a2 = some r) :
    Calls Try.prog 159 #[.int .i64 a0, .int .i64 a1, .int .i64 a2] w fun e w' => ∃ v0_ : Value, e = .returned (v0_) ∧ Kd.R (Kd.int .i64) 3 w' w.heap.size (fun _ => True) v0_ r ∧ Below w.heap.size w w' := by
  have HB := ak (Below.refl w.heap.size w); have H : (impl_digitsOf.l0 k a0 a1 (([] : List Int)) a2 0) = some r := h; clear h; obtain ⟨y249, hy249⟩ : ∃ y_ : List Int, y_ = (([] : List Int)) := ⟨_, rfl⟩; replace H : (impl_digitsOf.l0 k a0 a1 y249 a2 0) = some r := by first | (rw [hy249]; with_reducible exact H) | (have H2_ := (Option.bind_some _ _).symm.trans H; rw [hy249]; with_reducible exact H2_) | (have H2_ := (Option.bind_some _ _).symm.trans H; with_reducible exact H2_) | with_reducible exact H | (rw [hy249]; exact H) | exact H
  have Ny249 := ak hy249; clear hy249; have H' := ak H; clear H
  go_enter Try.func159, Try.ntmps159
  go_wp2_with (first | ((with_reducible refine gate_dst (N := 8) rfl ?_); refine Kd.R_lit (Kd.int .i64) _ 3 ?hg (N := 8) ?hd (xs := ([] : List Int)) (inner := []) (ok := fun _ => True) (okp := fun _ => True) ?hr ?hp (fun _ hk => hk) trivial (Below.refl _ _) (Nat.le_refl _) (by simp) ?_; (case hd => rfl); (case hg => rfl); (case hr => first | (go_simp; done) | (go_simp; rfl)); (case hp => exact (Reps.none _ _)); intro v250 w4 ho5 hb hg_ hnew_; clear hg_ hnew_; (first | rw [← Ny249.out] at ho5 | (simp only [Int.reduceToNat] at ho5; rw [← Ny249.out] at ho5)); have HO251 := ak (Kd.R_lower ho5 (below_size (bl_ HB.out))); replace HB := ak (below_step (bl_ HB.out) hb); clear hb ho5))
  go_loopg [0, 7, 10] k (fun kq v0 v7 v10 w' => ∃ (x0_1 : Int) (x7_1 : List Int) (x10_1 : Int), v0 = .int .i64 x0_1 ∧ v10 = .int .i64 x10_1 ∧ Aside0 (impl_digitsOf.l0 kq x0_1 a1 x7_1 a2 x10_1 = some r) ∧ Aside0 (kq ≤ k) ∧ Aside0 (Kd.R (Kd.int .i64) 3 w' w.heap.size (fun _ => True) v7 x7_1) ∧ Aside0 (Below w.heap.size w w'))
  case atStart => exact ⟨(a0), (y249), (0), (by first | rfl | (simp; done) | (simp [*]; done)), (by first | rfl | (simp; done) | (simp [*]; done)), H', ⟨Nat.le_refl _⟩, ⟨by (with_reducible repeat (first | apply Kd.R_alloc | apply Kd.R_drewN | apply Kd.R_drew)); exact HO251.out⟩, ⟨by repeat (first | (with_reducible first | exact HB.out | apply below_alloc | apply pw_below_drewN | apply below_drew1) | exact HB.out)⟩⟩
  case round =>
    clear H'; (try clear c1); (try clear p2); obtain ⟨x0_1, x7_1, x10_1, rfl, rfl, HA, HK1, HO_7, HB⟩ := hrel
    cases gk with
    | zero => exact absurd HA.out (by simp [impl_digitsOf.l0])
    | succ k1 =>
      have H := HA.out; clear HA
      simp only [impl_digitsOf.l0] at H
      by_cases c6 : x10_1 < a2
      · rw [if_pos c6] at H; have c6b0 := decide_eq_true c6; clear c6
        by_cases c7 : a1 = 0
        · rw [if_pos c7] at H; exact absurd H (by simp)
        rw [if_neg c7] at H; have c7b0 : (a1 == 0) = false := beq_eq_false_iff_ne.mpr c7; have c7b1 : (a1 != 0) = true := bne_iff_ne.mpr c7
        by_cases c8 : x7_1.length < 17592186044416
        · rw [if_pos c8] at H; have LMc8 := ak c8; clear c8; obtain ⟨y252, hy252⟩ : ∃ y_ : List Int, y_ = (x7_1 ++ [Int.tmod x0_1 a1]) := ⟨_, rfl⟩; replace H : (impl_digitsOf.l0 k1 (wrap64 (Int.tdiv x0_1 a1)) a1 y252 a2 (wrap64 (x10_1 + 1))) = some r := by first | (rw [hy252]; with_reducible exact H) | (have H2_ := (Option.bind_some _ _).symm.trans H; rw [hy252]; with_reducible exact H2_) | (have H2_ := (Option.bind_some _ _).symm.trans H; with_reducible exact H2_) | with_reducible exact H | (rw [hy252]; exact H) | exact H
          have Ny252 := ak hy252; clear hy252; have H' := ak H; clear H
          go_wp2_with (first | ((with_reducible refine gate_builtin (b := .append) (xs := #[.tmp 12, .tmp 16]) rfl ?_); at_builtin; refine Kd.R_append (Kd.int .i64) (w0 := w) w.heap.size rfl (.tmp 12) (.tmp 16) 75 3 (.int .i64 0) 8 rfl Try.underlying75 info3 rfl (by decide) (by omega) u7 x7_1 (Int.tmod x0_1 a1) [.int .i64 (Int.tmod x0_1 a1)] (fun _ => True) (fun _ => False) rfl rfl ?aP (fun _ hk => hk.elim) ?aF ?aO ?aB ?aS ?aL ?_; (case aP => exact rfl); (case aB => exact (bl_ HB.out)); (case aF => exact (fun _ _ => trivial)); (case aO => exact (ra_ HO_7.out)); (case aS => exact (below_size (bl_ HB.out))); (case aL => have := LMc8.out; omega); intro v253 w9 ho hb hg hat; rw [← Ny252.out] at ho; replace HB := ak (hb); have HO254 := ak (ho); clear HO_7; clear ho hb hg hat))
          go_roundg k1
          case measure => have := HK1.out; omega
          case rel => exact ⟨(wrap64 (Int.tdiv x0_1 a1)), (y252), (wrap64 (x10_1 + 1)), (by first | rfl | (simp; done) | (simp [*]; done)), (by first | rfl | (simp; done) | (simp [*]; done)), H', ⟨by have := HK1.out; omega⟩, ⟨by (with_reducible repeat (first | apply Kd.R_alloc | apply Kd.R_drewN | apply Kd.R_drew)); exact HO254.out⟩, ⟨by repeat (first | (with_reducible first | exact HB.out | apply below_alloc | apply pw_below_drewN | apply below_drew1) | exact HB.out)⟩⟩
        rw [if_neg c8] at H; exact absurd H (by simp)
      rw [if_neg c6] at H; have c6b0 := decide_eq_false c6; clear c6; obtain rfl := Option.some.inj H
      go_wp2
      go_ret
      exact ⟨_, by first | rfl | (simp [errW_none, errW_some] <;> rfl) | (simp [*, errW_none, errW_some] <;> rfl), by (with_reducible repeat (first | apply Kd.R_alloc | apply Kd.R_drewN | apply Kd.R_drew)); exact HO_7.out, by repeat (first | (with_reducible first | exact HB.out | apply below_alloc | apply pw_below_drewN | apply below_drew1) | exact HB.out)⟩

end Go.Proofs.Ytcboagkbcoihjaa.XSubworld
