-- printed by a program of this session (xprint, turned from the kit's print) for this claim
import Derived.Test.YtcboagkbcoihjaaXRenamedx0
import Derived.Test.YtcboagkbcoihjaaXRenamedx6
import Derived.Test.YtcboagkbcoihjaaXRenamedx7
namespace Go.Proofs.Ytcboagkbcoihjaa.XRenamed
open Go.RowKit Go.Proofs.Ytcboagkbcoihjaa.XOpens Go.Proofs.YtcboagkbcoihjaaW.PrintWords Go.Proofs.YtcboagkbcoihjaaW.PrintLast Go.Proofs.YtcboagkbcoihjaaW.PrintMore
attribute [local go_sem] max2_int min2_int max_two min_two max_three min_three max_four min_four   -- for this text's walks alone
set_option linter.unusedVariables false
set_option linter.unusedSimpArgs false

/-! ### impl_WorldOk: function 33 -/
mutual
def impl_WorldOk.j0 : Nat → List (I_Sym) → Bool → Int → List (List Int) → Option (Bool)
  | 0, _, _, _, _ => none
  | k + 1, x0, x24, x256000, x256001 => if x24 = true then (some false) else (impl_WorldOk.l0 k x0 (x0.length : Int) 0 x256000 x256001)
def impl_WorldOk.l0 : Nat → List (I_Sym) → Int → Int → Int → List (List Int) → Option (Bool)
  | 0, _, _, _, _, _ => none
  | k + 1, x25, x26, x27, x256000, x256001 => if x27 < x26 then (if 0 ≤ x27 then (if x27 < (x25.length : Int) then (if x27 < (x256001.length : Int) then ((impl_placesOf.f k x256000 ((rd_I_Sym x25 x27).f1)).bind fun t261 => (if ((rd_Ls_i64 x256001 x27).length : Int) = t261 then ((slices_ContainsFunc_int_int__with_impl_WorldOk_1.f k (rd_Ls_i64 x256001 x27) x256000 x256001).bind fun t262 => (if t262 = true then (some false) else (if (rd_I_Sym x25 x27).f2 = true then ((impl_indifferent.f k x256000 (rd_Ls_i64 x256001 x27)).bind fun t263 => (if t263 = true then (impl_WorldOk.l0 k x25 x26 (wrap64 (x27 + 1)) x256000 x256001) else (some false))) else (impl_WorldOk.l0 k x25 x26 (wrap64 (x27 + 1)) x256000 x256001)))) else (some false))) else (none)) else (none)) else (none)) else (some true)
end
def impl_WorldOk.f (k : Nat) (l0 : List (I_Sym)) (a1_0 : Int) (l1_1 : List (List Int)) : Option (Bool) := (impl_SigOk.f k l0).bind fun t256 => (if t256 = true then ((impl_from.f a1_0 1 4).bind fun t257 => (if t257 = true then (impl_WorldOk.j0 k l0 ((l1_1.length : Int) != (l0.length : Int)) a1_0 l1_1) else (impl_WorldOk.j0 k l0 true a1_0 l1_1))) else (impl_WorldOk.j0 k l0 true a1_0 l1_1))
theorem impl_WorldOk.mono_l : ∀ k, (∀ y0 y1 y2 y3, LeO (impl_WorldOk.j0 k y0 y1 y2 y3) (impl_WorldOk.j0 (k + 1) y0 y1 y2 y3)) ∧ (∀ y0 y1 y2 y3 y4, LeO (impl_WorldOk.l0 k y0 y1 y2 y3 y4) (impl_WorldOk.l0 (k + 1) y0 y1 y2 y3 y4))
  | 0 => ⟨fun _ _ _ _ r h => by simp [impl_WorldOk.j0] at h, fun _ _ _ _ _ r h => by simp [impl_WorldOk.l0] at h⟩
  | k + 1 => by
    obtain ⟨ih0, ih1⟩ := impl_WorldOk.mono_l k; refine ⟨?_, ?_⟩
    · intro y0 y1 y2 y3
      unfold impl_WorldOk.j0
      repeat' first | (with_reducible first | exact ih0 _ _ _ _ | exact ih1 _ _ _ _ _ | exact impl_SigOk.mono _ _ | exact impl_indifferent.mono _ _ _ | exact impl_placesOf.mono _ _ _ | exact slices_ContainsFunc_int_int__with_impl_WorldOk_1.mono _ _ _ _ | exact LeO.refl _ | exact LeO.none _ | refine LeO.ite ?_ ?_ | refine LeO.bind ?_ (fun _ => ?_)) | exact ih0 _ _ _ _ | exact ih1 _ _ _ _ _ | exact impl_SigOk.mono _ _ | exact impl_indifferent.mono _ _ _ | exact impl_placesOf.mono _ _ _ | exact slices_ContainsFunc_int_int__with_impl_WorldOk_1.mono _ _ _ _ | exact LeO.none _ | refine LeO.ite ?_ ?_ | refine LeO.bind ?_ (fun _ => ?_)
    · intro y0 y1 y2 y3 y4
      unfold impl_WorldOk.l0
      repeat' first | (with_reducible first | exact ih0 _ _ _ _ | exact ih1 _ _ _ _ _ | exact impl_SigOk.mono _ _ | exact impl_indifferent.mono _ _ _ | exact impl_placesOf.mono _ _ _ | exact slices_ContainsFunc_int_int__with_impl_WorldOk_1.mono _ _ _ _ | exact LeO.refl _ | exact LeO.none _ | refine LeO.ite ?_ ?_ | refine LeO.bind ?_ (fun _ => ?_)) | exact ih0 _ _ _ _ | exact ih1 _ _ _ _ _ | exact impl_SigOk.mono _ _ | exact impl_indifferent.mono _ _ _ | exact impl_placesOf.mono _ _ _ | exact slices_ContainsFunc_int_int__with_impl_WorldOk_1.mono _ _ _ _ | exact LeO.none _ | refine LeO.ite ?_ ?_ | refine LeO.bind ?_ (fun _ => ?_)
theorem impl_WorldOk.mono : ∀ a0 a1 a2 k, LeO (impl_WorldOk.f k a0 a1 a2) (impl_WorldOk.f (k + 1) a0 a1 a2) := by
  intro a0 a1 a2 k; obtain ⟨ih0, ih1⟩ := impl_WorldOk.mono_l k
  unfold impl_WorldOk.f
  repeat' first
      | (with_reducible exact ih0 _ _ _ _)
      | (with_reducible exact ih1 _ _ _ _ _)
      | (with_reducible exact impl_SigOk.mono _ _)
      | (with_reducible exact impl_indifferent.mono _ _ _)
      | (with_reducible exact impl_placesOf.mono _ _ _)
      | (with_reducible exact slices_ContainsFunc_int_int__with_impl_WorldOk_1.mono _ _ _ _)
      | (with_reducible exact LeO.refl _)
      | (with_reducible exact LeO.none _)
      | (with_reducible refine LeO.ite ?_ ?_)
      | (with_reducible refine LeO.bind ?_ (fun _ => ?_))
      | exact ih0 _ _ _ _
      | exact ih1 _ _ _ _ _
      | exact impl_SigOk.mono _ _
      | exact impl_indifferent.mono _ _ _
      | exact impl_placesOf.mono _ _ _
      | exact slices_ContainsFunc_int_int__with_impl_WorldOk_1.mono _ _ _ _
      | exact LeO.none _
      | refine LeO.ite ?_ ?_
      | refine LeO.bind ?_ (fun _ => ?_)
set_option maxHeartbeats 8000000 in
set_option maxRecDepth 100000 in
theorem impl_WorldOk.calls (k : Nat) (A0 : Option Addr) (c0 : Nat) (l0 : List (I_Sym)) (a1_0 : Int) (A1_1 : Option Addr) (c1_1 : Nat) (l1_1 : List (List Int)) (r : Bool) (w : World) (hr0 : Kd.C k99 w A0 l0.length l0) (hc0 : l0.length ≤ c0) (hr1_1 : Kd.C (Kd.slice 3 (Kd.int .i64)) w A1_1 l1_1.length l1_1) (hc1_1 : l1_1.length ≤ c1_1) (h : impl_WorldOk.f k l0 a1_0 l1_1 = some r) :
    Calls Try.prog 33 #[.slice A0 l0.length c0, .agg #[.int .i64 a1_0, .slice A1_1 l1_1.length c1_1]] w fun e w' => e = .returned (.bool r) ∧ Below w.heap.size w w' := by
  have hu51 := Try.underlying51; have hu99 := Try.underlying99; have HR0 := ak hr0; have HC0 := ak hc0; clear hr0 hc0; have HR1_1 := ak hr1_1; have HC1_1 := ak hc1_1; clear hr1_1 hc1_1; have HB := ak (Below.refl w.heap.size w); have H : ((impl_SigOk.f k l0).bind fun t256 => (if t256 = true then ((impl_from.f a1_0 1 4).bind fun t257 => (if t257 = true then (impl_WorldOk.j0 k l0 ((l1_1.length : Int) != (l0.length : Int)) a1_0 l1_1) else (impl_WorldOk.j0 k l0 true a1_0 l1_1))) else (impl_WorldOk.j0 k l0 true a1_0 l1_1))) = some r := h; clear h; have HC3 := ak H; clear H
  go_enter Try.func33, Try.ntmps33
  go_upto_region 1 with (first | ((with_reducible refine gate_dst (N := 3) rfl ?_); (try (refine gate_guard (by rfl) ?_; dsimp only)); refine bxe_ (N := 3) (cs := #[.int .i64 a1_0, .slice A1_1 l1_1.length c1_1]) (t := 51) ?_; intro gb255 hg w4 hbox hb; have BK255 := ak (hbox); have GW255 := ak (lg_ hg (bl_ HB.out)); have GE255 := ak (lg_ hg (bl_ HB.out)); replace HB := ak (below_step (bl_ HB.out) hb); clear hb hbox hg))
  (try simp only [Act.put, List.setIfInBounds_toArray, List.set_cons_zero, List.set_cons_succ])
  go_cut [24] (fun v24 wc => ∃ (kq : Nat) (x24_2 : Bool), v24 = .bool x24_2 ∧ Aside0 (impl_WorldOk.j0 kq l0 x24_2 a1_0 l1_1 = some r) ∧ Aside0 (kq ≤ k) ∧ Aside0 (wc.heap[gb255]? = some (.cells #[.int .i64 a1_0, (.slice A1_1 l1_1.length c1_1)] 51 (0, 0))) ∧ Aside0 (Below w.heap.size w wc))
  case first =>
    have H := HC3.out; clear HC3; replace H := Option.bind_eq_some_iff.mp H; obtain ⟨t256, A50, H⟩ := H; have A5 := ak A50; clear A50
    by_cases c6 : t256 = true
    · subst c6; rw [if_pos rfl] at H; replace H := Option.bind_eq_some_iff.mp H; obtain ⟨t257, A70, H⟩ := H; have A7 := ak A70; clear A70
      by_cases c8 : t257 = true
      · subst c8; rw [if_pos rfl] at H; have H' := ak H; clear H
        go_wp2_with (first | ((with_reducible refine gate_callee (f := 86) rfl ?_); refine goesM_ (some 9) rfl rfl Try.func86 (by kernel_rfl) rfl #[.slice A0 l0.length c0] rfl ?_; (with_reducible refine (impl_SigOk.calls k _ _ l0 true _ ?side1 ?side2 A5.out).mono ?_); (case side1 => exact cb_ HR0.out HB.out); (case side2 => exact HC0.out); rintro e w9 ⟨rfl, hb⟩; refine ⟨_, rfl, ?_⟩; replace BK255 := ak (blk_below (bk_ BK255.out) hb); replace HB := ak (below_step (bs1_ HB.out GE255.out) hb); (try clear hb); (try clear hb2); (try clear hk); (try clear hi); have hcz10_0 := bc_ BK255.out 0; have hcz10_1 := bc_ BK255.out 1; have hfz10_0 := blk_frozen BK255.out 0; have hfz10_1 := blk_frozen BK255.out 1) | (go_at_call 87; (with_reducible refine (impl_from.calls a1_0 1 4 true _ A7.out).mono ?_); rintro e w' ⟨rfl, ⟨nd, rfl⟩⟩))
        go_meet
        case rel => exact ⟨_, (((l1_1.length : Int) != (l0.length : Int))), (by first | rfl | (simp; done) | (simp [*]; done)), H', ⟨by first | omega | exact Nat.le_refl _⟩, ⟨bk_ BK255.out⟩, ⟨bs1_ HB.out GE255.out⟩⟩
      replace c8 := Bool.eq_false_iff.mpr c8; subst c8; rw [if_neg (show ¬ (false = true) by decide)] at H; have H' := ak H; clear H
      go_wp2_with (first | ((with_reducible refine gate_callee (f := 86) rfl ?_); refine goesM_ (some 9) rfl rfl Try.func86 (by kernel_rfl) rfl #[.slice A0 l0.length c0] rfl ?_; (with_reducible refine (impl_SigOk.calls k _ _ l0 true _ ?side1 ?side2 A5.out).mono ?_); (case side1 => exact cb_ HR0.out HB.out); (case side2 => exact HC0.out); rintro e w11 ⟨rfl, hb⟩; refine ⟨_, rfl, ?_⟩; replace BK255 := ak (blk_below (bk_ BK255.out) hb); replace HB := ak (below_step (bs1_ HB.out GE255.out) hb); (try clear hb); (try clear hb2); (try clear hk); (try clear hi); have hcz12_0 := bc_ BK255.out 0; have hcz12_1 := bc_ BK255.out 1; have hfz12_0 := blk_frozen BK255.out 0; have hfz12_1 := blk_frozen BK255.out 1) | (go_at_call 87; (with_reducible refine (impl_from.calls a1_0 1 4 false _ A7.out).mono ?_); rintro e w' ⟨rfl, ⟨nd, rfl⟩⟩))
      go_meet
      case rel => exact ⟨_, (true), (by first | rfl | (simp; done) | (simp [*]; done)), H', ⟨by first | omega | exact Nat.le_refl _⟩, ⟨bk_ BK255.out⟩, ⟨bs1_ HB.out GE255.out⟩⟩
    replace c6 := Bool.eq_false_iff.mpr c6; subst c6; rw [if_neg (show ¬ (false = true) by decide)] at H; have H' := ak H; clear H
    go_wp2_with (first | ((with_reducible refine gate_callee (f := 86) rfl ?_); refine goesM_ (some 9) rfl rfl Try.func86 (by kernel_rfl) rfl #[.slice A0 l0.length c0] rfl ?_; (with_reducible refine (impl_SigOk.calls k _ _ l0 false _ ?side1 ?side2 A5.out).mono ?_); (case side1 => exact cb_ HR0.out HB.out); (case side2 => exact HC0.out); rintro e w13 ⟨rfl, hb⟩; refine ⟨_, rfl, ?_⟩; replace BK255 := ak (blk_below (bk_ BK255.out) hb); replace HB := ak (below_step (bs1_ HB.out GE255.out) hb); (try clear hb); (try clear hb2); (try clear hk); (try clear hi)))
    go_meet
    case rel => exact ⟨_, (true), (by first | rfl | (simp; done) | (simp [*]; done)), H', ⟨by first | omega | exact Nat.le_refl _⟩, ⟨bk_ BK255.out⟩, ⟨bs1_ HB.out GE255.out⟩⟩
  case rest =>
    clear HC3; (try clear c1); (try clear p2); (try clear c3); (try clear c6); (try clear c8); (try clear hcz10_0); (try clear hcz10_1); (try clear hcz12_0); (try clear hcz12_1); (try clear hfz10_0); (try clear hfz10_1); (try clear hfz12_0); (try clear hfz12_1); obtain ⟨kq, x24_2, rfl, HA, HJ2, BK255, HB⟩ := hcut
    cases kq with
    | zero => exact absurd HA.out (by simp [impl_WorldOk.j0])
    | succ kj2 =>
      have H := HA.out; clear HA
      simp only [impl_WorldOk.j0] at H
      by_cases c14 : x24_2 = true
      · subst c14; rw [if_pos rfl] at H; obtain rfl := Option.some.inj H
        go_wp2
        go_ret
        exact fin_ (bs1_ HB.out GE255.out)
      replace c14 := Bool.eq_false_iff.mpr c14; subst c14; rw [if_neg (show ¬ (false = true) by decide)] at H; have H' := ak H; clear H
      go_wp2
      go_loopg [27] kj2 (fun kq v27 w' => ∃ (x27_2 : Int), v27 = .int .i64 x27_2 ∧ Aside0 (impl_WorldOk.l0 kq l0 (l0.length : Int) x27_2 a1_0 l1_1 = some r) ∧ Aside0 (kq ≤ kj2) ∧ Aside0 (w'.heap[gb255]? = some (.cells #[.int .i64 a1_0, (.slice A1_1 l1_1.length c1_1)] 51 (0, 0))) ∧ Aside0 (Below w.heap.size w w'))
      case atStart => exact ⟨(0), (by first | rfl | (simp; done) | (simp [*]; done)), H', ⟨Nat.le_refl _⟩, ⟨bk_ BK255.out⟩, ⟨bs1_ HB.out GE255.out⟩⟩
      case round =>
        clear H'; (try clear c1); (try clear p2); (try clear c3); (try clear c6); (try clear c8); (try clear c14); (try clear hcz10_0); (try clear hcz10_1); (try clear hcz12_0); (try clear hcz12_1); (try clear hfz10_0); (try clear hfz10_1); (try clear hfz12_0); (try clear hfz12_1); (try clear p2); obtain ⟨x27_2, rfl, HA, HK2, BK255, HB⟩ := hrel
        cases gk with
        | zero => exact absurd HA.out (by simp [impl_WorldOk.l0])
        | succ k2 =>
          have H := HA.out; clear HA
          simp only [impl_WorldOk.l0] at H
          by_cases c15 : x27_2 < (l0.length : Int)
          · rw [if_pos c15] at H; have c15b0 := decide_eq_true c15; clear c15
            by_cases c16 : 0 ≤ x27_2
            · rw [if_pos c16] at H; have c16b0 := decide_eq_true c16; clear c16
              by_cases c17 : x27_2 < (l0.length : Int)
              · rw [if_pos c17] at H; have c17b0 := decide_eq_true c17; clear c17
                by_cases c18 : x27_2 < (l1_1.length : Int)
                · rw [if_pos c18] at H; have c18b0 := decide_eq_true c18; clear c18; replace H := Option.bind_eq_some_iff.mp H; obtain ⟨t261, A190, H⟩ := H; have A19 := ak A190; clear A190
                  by_cases c20 : ((rd_Ls_i64 l1_1 x27_2).length : Int) = t261
                  · rw [if_pos c20] at H; have c20b0 : (((rd_Ls_i64 l1_1 x27_2).length : Int) == t261) = true := beq_iff_eq.mpr c20; have c20b1 : (((rd_Ls_i64 l1_1 x27_2).length : Int) != t261) = false := bne_eq_false_iff_eq.mpr c20; clear c20; replace H := Option.bind_eq_some_iff.mp H; obtain ⟨t262, A210, H⟩ := H; have A21 := ak A210; clear A210
                    by_cases c22 : t262 = true
                    · subst c22; rw [if_pos rfl] at H; obtain rfl := Option.some.inj H; have p258 : 0 ≤ (x27_2 : Int) := as_; have q258 : x27_2 < (l0.length : Int) := as_; obtain ⟨ad258, e258, hx258_0, hx258_1, hx258_2⟩ := at_T99 HR0.out x27_2 p258 q258
                      cases e258
                      replace hx258_0 := hbc_ HB.out hx258_0; replace hx258_1 := hbc_ HB.out hx258_1; replace hx258_2 := hbc_ HB.out hx258_2; replace p258 := eq_true p258; replace q258 := eq_true q258
                      go_wp2_with (first | ((with_reducible refine gate_dst (N := 6) rfl ?_); (try (refine gate_guard (by rfl) ?_; dsimp only)); refine bxe_ (N := 6) (cs := #[.string (⟨#[]⟩ : ByteArray), .int .i64 0, .bool false]) (t := 99) ?_; intro gb259 hg w23 hbox hb; have BK259 := ak (hbox); have GW259 := ak (lg_ hg (bs1_ HB.out GE255.out)); have GE259 := ak (lg_ hg (bs1_ HB.out GE255.out)); replace HB := ak (below_step (bs1_ HB.out GE255.out) hb); have NB255_259 := ak (nl_ hg (bk_ BK255.out)); have NB259_255 := ak (ng_ hg (bk_ BK255.out)); replace BK255 := ak (blk_below (bk_ BK255.out) hb); clear hb hbox hg; have hnb24 := NB259_255.out; have hnc24 := NB255_259.out; have hcz25_0 := bc_ BK259.out 0; have hcz25_1 := bc_ BK259.out 1; have hcz25_2 := bc_ BK259.out 2; have hfz25_0 := blk_frozen BK259.out 0; have hfz25_1 := blk_frozen BK259.out 1; have hfz25_2 := blk_frozen BK259.out 2; have hcz26_0 := bc_ BK255.out 0; have hcz26_1 := bc_ BK255.out 1; have hfz26_0 := blk_frozen BK255.out 0; have hfz26_1 := blk_frozen BK255.out 1; have p260 : 0 ≤ (x27_2 : Int) := as_; have q260 : x27_2 < (l1_1.length : Int) := as_; obtain ⟨ad260, A260_0, c260_0, e260, hx260_0, hl260_0, hi260_0⟩ := at_L5 HR1_1.out x27_2 p260 q260; cases e260; have hn260_0 : ad260.block ≠ gb259 := Nat.ne_of_lt (Nat.lt_of_lt_of_le (by have := World.block_lt_of_cell? _ _ hx260_0; first | rwa [add_block] at this | exact this) GW259.out); have hn260_1 : ad260.block ≠ gb259 := Nat.ne_of_lt (Nat.lt_of_lt_of_le (by have := World.block_lt_of_cell? _ _ hx260_0; first | rwa [add_block] at this | exact this) GW259.out); have hn260_2 : ad260.block ≠ gb259 := Nat.ne_of_lt (Nat.lt_of_lt_of_le (by have := World.block_lt_of_cell? _ _ hx260_0; first | rwa [add_block] at this | exact this) GW259.out); replace hx260_0 := hbc_ HB.out hx260_0; have HR260_0 := ak hi260_0; have HC260_0 := ak hl260_0; clear hi260_0 hl260_0; replace hx260_0 := (cell_far (p := ⟨gb259, 0, none⟩) (by first | (rw [add_block]; exact hn260_0) | (show (Addr.add _ _).block ≠ _; rw [add_block]; exact hn260_0) | exact hn260_0) (.string ((rd_I_Sym l0 x27_2).f0))).trans hx260_0; replace hx260_0 := (cell_far (p := ⟨gb259, 1, none⟩) (by first | (rw [add_block]; exact hn260_1) | (show (Addr.add _ _).block ≠ _; rw [add_block]; exact hn260_1) | exact hn260_1) (.int .i64 ((rd_I_Sym l0 x27_2).f1))).trans hx260_0; replace hx260_0 := (cell_far (p := ⟨gb259, 2, none⟩) (by first | (rw [add_block]; exact hn260_2) | (show (Addr.add _ _).block ≠ _; rw [add_block]; exact hn260_2) | exact hn260_2) (.bool ((rd_I_Sym l0 x27_2).f2))).trans hx260_0; clear hn260_0; clear hn260_1; clear hn260_2; replace p260 := eq_true p260; replace q260 := eq_true q260) | ((with_reducible refine gate_callee (f := 88) rfl ?_); refine goesM_ (some 43) rfl rfl Try.func88 (by kernel_rfl) rfl #[.int .i64 a1_0, .int .i64 ((rd_I_Sym l0 x27_2).f1)] rfl ?_; (with_reducible refine (impl_placesOf.calls k2 a1_0 ((rd_I_Sym l0 x27_2).f1) t261 _ A19.out).mono ?_); rintro e w' ⟨rfl, ⟨nd, rfl⟩⟩; refine ⟨_, rfl, ?_⟩) | (go_at_call 89; (with_reducible refine (slices_ContainsFunc_int_int__with_impl_WorldOk_1.calls k2 _ _ (rd_Ls_i64 l1_1 x27_2)  gb255 a1_0 (some ad260) c1_1 l1_1 true _ ?side1 ?side2 ?side3 ?side4 ?side5 A21.out).mono ?_); (case side1 => exact Kd.C_below HR260_0.out (bs2_ HB.out GE255.out GE259.out)); (case side2 => exact HC260_0.out); (case side3 => exact (by (with_reducible repeat (first | refine blk_drewN ?_ _ | refine blk_drew ?_ | refine blk_alloc ?_ _)); refine blk_far ?_ NB255_259.out _; (with_reducible repeat (first | refine blk_drewN ?_ _ | refine blk_drew ?_ | refine blk_alloc ?_ _)); refine blk_far ?_ NB255_259.out _; (with_reducible repeat (first | refine blk_drewN ?_ _ | refine blk_drew ?_ | refine blk_alloc ?_ _)); refine blk_far ?_ NB255_259.out _; (with_reducible repeat (first | refine blk_drewN ?_ _ | refine blk_drew ?_ | refine blk_alloc ?_ _)); exact BK255.out)); (case side4 => exact Kd.C_below HR1_1.out (bs2_ HB.out GE255.out GE259.out)); (case side5 => exact HC1_1.out); rintro e w' ⟨rfl, ⟨nd, rfl⟩⟩))
                      go_ret
                      exact fin_ (bs2_ HB.out GE255.out GE259.out)
                    replace c22 := Bool.eq_false_iff.mpr c22; subst c22; rw [if_neg (show ¬ (false = true) by decide)] at H; obtain ⟨bq27, hbq27⟩ : ∃ b_ : Bool, b_ = ((rd_I_Sym l0 x27_2).f2) := ⟨_, rfl⟩; replace H : (if bq27 = true then ((impl_indifferent.f k2 a1_0 (rd_Ls_i64 l1_1 x27_2)).bind fun t263 => (if t263 = true then (impl_WorldOk.l0 k2 l0 (l0.length : Int) (wrap64 (x27_2 + 1)) a1_0 l1_1) else (some false))) else (impl_WorldOk.l0 k2 l0 (l0.length : Int) (wrap64 (x27_2 + 1)) a1_0 l1_1)) = some r := by rw [← hbq27] at H; exact H
                    have Nbq27 := ak hbq27; clear hbq27
                    by_cases c28 : bq27 = true
                    · subst c28; rw [if_pos rfl] at H; replace H := Option.bind_eq_some_iff.mp H; obtain ⟨t263, A290, H⟩ := H; have A29 := ak A290; clear A290
                      by_cases c30 : t263 = true
                      · subst c30; rw [if_pos rfl] at H; have H' := ak H; clear H; have p258 : 0 ≤ (x27_2 : Int) := as_; have q258 : x27_2 < (l0.length : Int) := as_; obtain ⟨ad258, e258, hx258_0, hx258_1, hx258_2⟩ := at_T99 HR0.out x27_2 p258 q258; (try rw [← Nbq27.out] at hx258_2); (try rw [← Nbq27.out] at hw258_2)
                        cases e258
                        replace hx258_0 := hbc_ HB.out hx258_0; replace hx258_1 := hbc_ HB.out hx258_1; replace hx258_2 := hbc_ HB.out hx258_2; replace p258 := eq_true p258; replace q258 := eq_true q258
                        go_wp2_with (first | ((with_reducible refine gate_dst (N := 6) rfl ?_); (try (refine gate_guard (by rfl) ?_; dsimp only)); refine bxe_ (N := 6) (cs := #[.string (⟨#[]⟩ : ByteArray), .int .i64 0, .bool false]) (t := 99) ?_; intro gb259 hg w31 hbox hb; have BK259 := ak (hbox); have GW259 := ak (lg_ hg (bs1_ HB.out GE255.out)); have GE259 := ak (lg_ hg (bs1_ HB.out GE255.out)); replace HB := ak (below_step (bs1_ HB.out GE255.out) hb); have NB255_259 := ak (nl_ hg (bk_ BK255.out)); have NB259_255 := ak (ng_ hg (bk_ BK255.out)); replace BK255 := ak (blk_below (bk_ BK255.out) hb); clear hb hbox hg; have hnb32 := NB259_255.out; have hnc32 := NB255_259.out; have hcz33_0 := bc_ BK259.out 0; have hcz33_1 := bc_ BK259.out 1; have hcz33_2 := bc_ BK259.out 2; have hfz33_0 := blk_frozen BK259.out 0; have hfz33_1 := blk_frozen BK259.out 1; have hfz33_2 := blk_frozen BK259.out 2; have hcz34_0 := bc_ BK255.out 0; have hcz34_1 := bc_ BK255.out 1; have hfz34_0 := blk_frozen BK255.out 0; have hfz34_1 := blk_frozen BK255.out 1; have p260 : 0 ≤ (x27_2 : Int) := as_; have q260 : x27_2 < (l1_1.length : Int) := as_; obtain ⟨ad260, A260_0, c260_0, e260, hx260_0, hl260_0, hi260_0⟩ := at_L5 HR1_1.out x27_2 p260 q260; cases e260; have hn260_0 : ad260.block ≠ gb259 := Nat.ne_of_lt (Nat.lt_of_lt_of_le (by have := World.block_lt_of_cell? _ _ hx260_0; first | rwa [add_block] at this | exact this) GW259.out); have hn260_1 : ad260.block ≠ gb259 := Nat.ne_of_lt (Nat.lt_of_lt_of_le (by have := World.block_lt_of_cell? _ _ hx260_0; first | rwa [add_block] at this | exact this) GW259.out); have hn260_2 : ad260.block ≠ gb259 := Nat.ne_of_lt (Nat.lt_of_lt_of_le (by have := World.block_lt_of_cell? _ _ hx260_0; first | rwa [add_block] at this | exact this) GW259.out); replace hx260_0 := hbc_ HB.out hx260_0; have HR260_0 := ak hi260_0; have HC260_0 := ak hl260_0; clear hi260_0 hl260_0; replace hx260_0 := (cell_far (p := ⟨gb259, 0, none⟩) (by first | (rw [add_block]; exact hn260_0) | (show (Addr.add _ _).block ≠ _; rw [add_block]; exact hn260_0) | exact hn260_0) (.string ((rd_I_Sym l0 x27_2).f0))).trans hx260_0; replace hx260_0 := (cell_far (p := ⟨gb259, 1, none⟩) (by first | (rw [add_block]; exact hn260_1) | (show (Addr.add _ _).block ≠ _; rw [add_block]; exact hn260_1) | exact hn260_1) (.int .i64 ((rd_I_Sym l0 x27_2).f1))).trans hx260_0; replace hx260_0 := (cell_far (p := ⟨gb259, 2, none⟩) (by first | (rw [add_block]; exact hn260_2) | (show (Addr.add _ _).block ≠ _; rw [add_block]; exact hn260_2) | exact hn260_2) (.bool true)).trans hx260_0; clear hn260_0; clear hn260_1; clear hn260_2; replace p260 := eq_true p260; replace q260 := eq_true q260) | ((with_reducible refine gate_callee (f := 88) rfl ?_); refine goesM_ (some 43) rfl rfl Try.func88 (by kernel_rfl) rfl #[.int .i64 a1_0, .int .i64 ((rd_I_Sym l0 x27_2).f1)] rfl ?_; (with_reducible refine (impl_placesOf.calls k2 a1_0 ((rd_I_Sym l0 x27_2).f1) t261 _ A19.out).mono ?_); rintro e w' ⟨rfl, ⟨nd, rfl⟩⟩; refine ⟨_, rfl, ?_⟩) | (go_at_call 89; (with_reducible refine (slices_ContainsFunc_int_int__with_impl_WorldOk_1.calls k2 _ _ (rd_Ls_i64 l1_1 x27_2)  gb255 a1_0 (some ad260) c1_1 l1_1 false _ ?side1 ?side2 ?side3 ?side4 ?side5 A21.out).mono ?_); (case side1 => exact Kd.C_below HR260_0.out (bs2_ HB.out GE255.out GE259.out)); (case side2 => exact HC260_0.out); (case side3 => exact (by (with_reducible repeat (first | refine blk_drewN ?_ _ | refine blk_drew ?_ | refine blk_alloc ?_ _)); refine blk_far ?_ NB255_259.out _; (with_reducible repeat (first | refine blk_drewN ?_ _ | refine blk_drew ?_ | refine blk_alloc ?_ _)); refine blk_far ?_ NB255_259.out _; (with_reducible repeat (first | refine blk_drewN ?_ _ | refine blk_drew ?_ | refine blk_alloc ?_ _)); refine blk_far ?_ NB255_259.out _; (with_reducible repeat (first | refine blk_drewN ?_ _ | refine blk_drew ?_ | refine blk_alloc ?_ _)); exact BK255.out)); (case side4 => exact Kd.C_below HR1_1.out (bs2_ HB.out GE255.out GE259.out)); (case side5 => exact HC1_1.out); rintro e w' ⟨rfl, ⟨nd, rfl⟩⟩) | (go_at_call 91; (with_reducible refine (impl_indifferent.calls k2 a1_0 _ _ (rd_Ls_i64 l1_1 x27_2) true _ ?side1 ?side2 A29.out).mono ?_); (case side1 => exact Kd.C_below HR260_0.out (bs2_ HB.out GE255.out GE259.out)); (case side2 => exact HC260_0.out); rintro e w35 ⟨rfl, hb⟩; replace BK255 := ak (blk_below (g := gb255) (o := .cells #[.int .i64 a1_0, .slice (some ad260) l1_1.length c1_1] 51 (0, 0)) (by (with_reducible repeat (first | refine blk_drewN ?_ _ | refine blk_drew ?_ | refine blk_alloc ?_ _)); refine blk_far ?_ NB255_259.out _; (with_reducible repeat (first | refine blk_drewN ?_ _ | refine blk_drew ?_ | refine blk_alloc ?_ _)); refine blk_far ?_ NB255_259.out _; (with_reducible repeat (first | refine blk_drewN ?_ _ | refine blk_drew ?_ | refine blk_alloc ?_ _)); refine blk_far ?_ NB255_259.out _; (with_reducible repeat (first | refine blk_drewN ?_ _ | refine blk_drew ?_ | refine blk_alloc ?_ _)); exact BK255.out) hb); replace BK259 := ak (blk_below (g := gb259) (o := .cells #[.string ((rd_I_Sym l0 x27_2).f0), .int .i64 ((rd_I_Sym l0 x27_2).f1), .bool true] 99 (0, 0)) (by (with_reducible repeat (first | refine blk_drewN ?_ _ | refine blk_drew ?_ | refine blk_alloc ?_ _)); refine blk_put (cs := #[.string ((rd_I_Sym l0 x27_2).f0), .int .i64 ((rd_I_Sym l0 x27_2).f1), .bool false]) ?_ 2 _ rfl; (with_reducible repeat (first | refine blk_drewN ?_ _ | refine blk_drew ?_ | refine blk_alloc ?_ _)); refine blk_put (cs := #[.string ((rd_I_Sym l0 x27_2).f0), .int .i64 0, .bool false]) ?_ 1 _ rfl; (with_reducible repeat (first | refine blk_drewN ?_ _ | refine blk_drew ?_ | refine blk_alloc ?_ _)); refine blk_put (cs := #[.string (⟨#[]⟩ : ByteArray), .int .i64 0, .bool false]) ?_ 0 _ rfl; (with_reducible repeat (first | refine blk_drewN ?_ _ | refine blk_drew ?_ | refine blk_alloc ?_ _)); exact BK259.out) hb); replace HB := ak (below_step (bs2_ HB.out GE255.out GE259.out) hb); (try clear hb); (try clear hb2); (try clear hk); (try clear hi)))
                        go_roundg k2
                        case measure => have := HJ2.out; have := HK2.out; omega
                        case rel => exact ⟨(wrap64 (x27_2 + 1)), (by first | rfl | (simp; done) | (simp [*]; done)), H', ⟨by have := HJ2.out; have := HK2.out; omega⟩, ⟨bk_ BK255.out⟩, ⟨bs2_ HB.out GE255.out GE259.out⟩⟩
                      replace c30 := Bool.eq_false_iff.mpr c30; subst c30; rw [if_neg (show ¬ (false = true) by decide)] at H; obtain rfl := Option.some.inj H; have p258 : 0 ≤ (x27_2 : Int) := as_; have q258 : x27_2 < (l0.length : Int) := as_; obtain ⟨ad258, e258, hx258_0, hx258_1, hx258_2⟩ := at_T99 HR0.out x27_2 p258 q258; (try rw [← Nbq27.out] at hx258_2); (try rw [← Nbq27.out] at hw258_2)
                      cases e258
                      replace hx258_0 := hbc_ HB.out hx258_0; replace hx258_1 := hbc_ HB.out hx258_1; replace hx258_2 := hbc_ HB.out hx258_2; replace p258 := eq_true p258; replace q258 := eq_true q258
                      go_wp2_with (first | ((with_reducible refine gate_dst (N := 6) rfl ?_); (try (refine gate_guard (by rfl) ?_; dsimp only)); refine bxe_ (N := 6) (cs := #[.string (⟨#[]⟩ : ByteArray), .int .i64 0, .bool false]) (t := 99) ?_; intro gb259 hg w36 hbox hb; have BK259 := ak (hbox); have GW259 := ak (lg_ hg (bs1_ HB.out GE255.out)); have GE259 := ak (lg_ hg (bs1_ HB.out GE255.out)); replace HB := ak (below_step (bs1_ HB.out GE255.out) hb); have NB255_259 := ak (nl_ hg (bk_ BK255.out)); have NB259_255 := ak (ng_ hg (bk_ BK255.out)); replace BK255 := ak (blk_below (bk_ BK255.out) hb); clear hb hbox hg; have hnb37 := NB259_255.out; have hnc37 := NB255_259.out; have hcz38_0 := bc_ BK259.out 0; have hcz38_1 := bc_ BK259.out 1; have hcz38_2 := bc_ BK259.out 2; have hfz38_0 := blk_frozen BK259.out 0; have hfz38_1 := blk_frozen BK259.out 1; have hfz38_2 := blk_frozen BK259.out 2; have hcz39_0 := bc_ BK255.out 0; have hcz39_1 := bc_ BK255.out 1; have hfz39_0 := blk_frozen BK255.out 0; have hfz39_1 := blk_frozen BK255.out 1; have p260 : 0 ≤ (x27_2 : Int) := as_; have q260 : x27_2 < (l1_1.length : Int) := as_; obtain ⟨ad260, A260_0, c260_0, e260, hx260_0, hl260_0, hi260_0⟩ := at_L5 HR1_1.out x27_2 p260 q260; cases e260; have hn260_0 : ad260.block ≠ gb259 := Nat.ne_of_lt (Nat.lt_of_lt_of_le (by have := World.block_lt_of_cell? _ _ hx260_0; first | rwa [add_block] at this | exact this) GW259.out); have hn260_1 : ad260.block ≠ gb259 := Nat.ne_of_lt (Nat.lt_of_lt_of_le (by have := World.block_lt_of_cell? _ _ hx260_0; first | rwa [add_block] at this | exact this) GW259.out); have hn260_2 : ad260.block ≠ gb259 := Nat.ne_of_lt (Nat.lt_of_lt_of_le (by have := World.block_lt_of_cell? _ _ hx260_0; first | rwa [add_block] at this | exact this) GW259.out); replace hx260_0 := hbc_ HB.out hx260_0; have HR260_0 := ak hi260_0; have HC260_0 := ak hl260_0; clear hi260_0 hl260_0; replace hx260_0 := (cell_far (p := ⟨gb259, 0, none⟩) (by first | (rw [add_block]; exact hn260_0) | (show (Addr.add _ _).block ≠ _; rw [add_block]; exact hn260_0) | exact hn260_0) (.string ((rd_I_Sym l0 x27_2).f0))).trans hx260_0; replace hx260_0 := (cell_far (p := ⟨gb259, 1, none⟩) (by first | (rw [add_block]; exact hn260_1) | (show (Addr.add _ _).block ≠ _; rw [add_block]; exact hn260_1) | exact hn260_1) (.int .i64 ((rd_I_Sym l0 x27_2).f1))).trans hx260_0; replace hx260_0 := (cell_far (p := ⟨gb259, 2, none⟩) (by first | (rw [add_block]; exact hn260_2) | (show (Addr.add _ _).block ≠ _; rw [add_block]; exact hn260_2) | exact hn260_2) (.bool true)).trans hx260_0; clear hn260_0; clear hn260_1; clear hn260_2; replace p260 := eq_true p260; replace q260 := eq_true q260) | ((with_reducible refine gate_callee (f := 88) rfl ?_); refine goesM_ (some 43) rfl rfl Try.func88 (by kernel_rfl) rfl #[.int .i64 a1_0, .int .i64 ((rd_I_Sym l0 x27_2).f1)] rfl ?_; (with_reducible refine (impl_placesOf.calls k2 a1_0 ((rd_I_Sym l0 x27_2).f1) t261 _ A19.out).mono ?_); rintro e w' ⟨rfl, ⟨nd, rfl⟩⟩; refine ⟨_, rfl, ?_⟩) | (go_at_call 89; (with_reducible refine (slices_ContainsFunc_int_int__with_impl_WorldOk_1.calls k2 _ _ (rd_Ls_i64 l1_1 x27_2)  gb255 a1_0 (some ad260) c1_1 l1_1 false _ ?side1 ?side2 ?side3 ?side4 ?side5 A21.out).mono ?_); (case side1 => exact Kd.C_below HR260_0.out (bs2_ HB.out GE255.out GE259.out)); (case side2 => exact HC260_0.out); (case side3 => exact (by (with_reducible repeat (first | refine blk_drewN ?_ _ | refine blk_drew ?_ | refine blk_alloc ?_ _)); refine blk_far ?_ NB255_259.out _; (with_reducible repeat (first | refine blk_drewN ?_ _ | refine blk_drew ?_ | refine blk_alloc ?_ _)); refine blk_far ?_ NB255_259.out _; (with_reducible repeat (first | refine blk_drewN ?_ _ | refine blk_drew ?_ | refine blk_alloc ?_ _)); refine blk_far ?_ NB255_259.out _; (with_reducible repeat (first | refine blk_drewN ?_ _ | refine blk_drew ?_ | refine blk_alloc ?_ _)); exact BK255.out)); (case side4 => exact Kd.C_below HR1_1.out (bs2_ HB.out GE255.out GE259.out)); (case side5 => exact HC1_1.out); rintro e w' ⟨rfl, ⟨nd, rfl⟩⟩) | (go_at_call 91; (with_reducible refine (impl_indifferent.calls k2 a1_0 _ _ (rd_Ls_i64 l1_1 x27_2) false _ ?side1 ?side2 A29.out).mono ?_); (case side1 => exact Kd.C_below HR260_0.out (bs2_ HB.out GE255.out GE259.out)); (case side2 => exact HC260_0.out); rintro e w40 ⟨rfl, hb⟩; replace BK255 := ak (blk_below (g := gb255) (o := .cells #[.int .i64 a1_0, .slice (some ad260) l1_1.length c1_1] 51 (0, 0)) (by (with_reducible repeat (first | refine blk_drewN ?_ _ | refine blk_drew ?_ | refine blk_alloc ?_ _)); refine blk_far ?_ NB255_259.out _; (with_reducible repeat (first | refine blk_drewN ?_ _ | refine blk_drew ?_ | refine blk_alloc ?_ _)); refine blk_far ?_ NB255_259.out _; (with_reducible repeat (first | refine blk_drewN ?_ _ | refine blk_drew ?_ | refine blk_alloc ?_ _)); refine blk_far ?_ NB255_259.out _; (with_reducible repeat (first | refine blk_drewN ?_ _ | refine blk_drew ?_ | refine blk_alloc ?_ _)); exact BK255.out) hb); replace BK259 := ak (blk_below (g := gb259) (o := .cells #[.string ((rd_I_Sym l0 x27_2).f0), .int .i64 ((rd_I_Sym l0 x27_2).f1), .bool true] 99 (0, 0)) (by (with_reducible repeat (first | refine blk_drewN ?_ _ | refine blk_drew ?_ | refine blk_alloc ?_ _)); refine blk_put (cs := #[.string ((rd_I_Sym l0 x27_2).f0), .int .i64 ((rd_I_Sym l0 x27_2).f1), .bool false]) ?_ 2 _ rfl; (with_reducible repeat (first | refine blk_drewN ?_ _ | refine blk_drew ?_ | refine blk_alloc ?_ _)); refine blk_put (cs := #[.string ((rd_I_Sym l0 x27_2).f0), .int .i64 0, .bool false]) ?_ 1 _ rfl; (with_reducible repeat (first | refine blk_drewN ?_ _ | refine blk_drew ?_ | refine blk_alloc ?_ _)); refine blk_put (cs := #[.string (⟨#[]⟩ : ByteArray), .int .i64 0, .bool false]) ?_ 0 _ rfl; (with_reducible repeat (first | refine blk_drewN ?_ _ | refine blk_drew ?_ | refine blk_alloc ?_ _)); exact BK259.out) hb); replace HB := ak (below_step (bs2_ HB.out GE255.out GE259.out) hb); (try clear hb); (try clear hb2); (try clear hk); (try clear hi)))
                      go_ret
                      exact fin_ (bs2_ HB.out GE255.out GE259.out)
                    replace c28 := Bool.eq_false_iff.mpr c28; subst c28; rw [if_neg (show ¬ (false = true) by decide)] at H; have H' := ak H; clear H; have p258 : 0 ≤ (x27_2 : Int) := as_; have q258 : x27_2 < (l0.length : Int) := as_; obtain ⟨ad258, e258, hx258_0, hx258_1, hx258_2⟩ := at_T99 HR0.out x27_2 p258 q258; (try rw [← Nbq27.out] at hx258_2); (try rw [← Nbq27.out] at hw258_2)
                    cases e258
                    replace hx258_0 := hbc_ HB.out hx258_0; replace hx258_1 := hbc_ HB.out hx258_1; replace hx258_2 := hbc_ HB.out hx258_2; replace p258 := eq_true p258; replace q258 := eq_true q258
                    go_wp2_with (first | ((with_reducible refine gate_dst (N := 6) rfl ?_); (try (refine gate_guard (by rfl) ?_; dsimp only)); refine bxe_ (N := 6) (cs := #[.string (⟨#[]⟩ : ByteArray), .int .i64 0, .bool false]) (t := 99) ?_; intro gb259 hg w41 hbox hb; have BK259 := ak (hbox); have GW259 := ak (lg_ hg (bs1_ HB.out GE255.out)); have GE259 := ak (lg_ hg (bs1_ HB.out GE255.out)); replace HB := ak (below_step (bs1_ HB.out GE255.out) hb); have NB255_259 := ak (nl_ hg (bk_ BK255.out)); have NB259_255 := ak (ng_ hg (bk_ BK255.out)); replace BK255 := ak (blk_below (bk_ BK255.out) hb); clear hb hbox hg; have hnb42 := NB259_255.out; have hnc42 := NB255_259.out; have hcz43_0 := bc_ BK259.out 0; have hcz43_1 := bc_ BK259.out 1; have hcz43_2 := bc_ BK259.out 2; have hfz43_0 := blk_frozen BK259.out 0; have hfz43_1 := blk_frozen BK259.out 1; have hfz43_2 := blk_frozen BK259.out 2; have hcz44_0 := bc_ BK255.out 0; have hcz44_1 := bc_ BK255.out 1; have hfz44_0 := blk_frozen BK255.out 0; have hfz44_1 := blk_frozen BK255.out 1; have p260 : 0 ≤ (x27_2 : Int) := as_; have q260 : x27_2 < (l1_1.length : Int) := as_; obtain ⟨ad260, A260_0, c260_0, e260, hx260_0, hl260_0, hi260_0⟩ := at_L5 HR1_1.out x27_2 p260 q260; cases e260; have hn260_0 : ad260.block ≠ gb259 := Nat.ne_of_lt (Nat.lt_of_lt_of_le (by have := World.block_lt_of_cell? _ _ hx260_0; first | rwa [add_block] at this | exact this) GW259.out); have hn260_1 : ad260.block ≠ gb259 := Nat.ne_of_lt (Nat.lt_of_lt_of_le (by have := World.block_lt_of_cell? _ _ hx260_0; first | rwa [add_block] at this | exact this) GW259.out); have hn260_2 : ad260.block ≠ gb259 := Nat.ne_of_lt (Nat.lt_of_lt_of_le (by have := World.block_lt_of_cell? _ _ hx260_0; first | rwa [add_block] at this | exact this) GW259.out); replace hx260_0 := hbc_ HB.out hx260_0; have HR260_0 := ak hi260_0; have HC260_0 := ak hl260_0; clear hi260_0 hl260_0; replace hx260_0 := (cell_far (p := ⟨gb259, 0, none⟩) (by first | (rw [add_block]; exact hn260_0) | (show (Addr.add _ _).block ≠ _; rw [add_block]; exact hn260_0) | exact hn260_0) (.string ((rd_I_Sym l0 x27_2).f0))).trans hx260_0; replace hx260_0 := (cell_far (p := ⟨gb259, 1, none⟩) (by first | (rw [add_block]; exact hn260_1) | (show (Addr.add _ _).block ≠ _; rw [add_block]; exact hn260_1) | exact hn260_1) (.int .i64 ((rd_I_Sym l0 x27_2).f1))).trans hx260_0; replace hx260_0 := (cell_far (p := ⟨gb259, 2, none⟩) (by first | (rw [add_block]; exact hn260_2) | (show (Addr.add _ _).block ≠ _; rw [add_block]; exact hn260_2) | exact hn260_2) (.bool false)).trans hx260_0; clear hn260_0; clear hn260_1; clear hn260_2; replace p260 := eq_true p260; replace q260 := eq_true q260) | ((with_reducible refine gate_callee (f := 88) rfl ?_); refine goesM_ (some 43) rfl rfl Try.func88 (by kernel_rfl) rfl #[.int .i64 a1_0, .int .i64 ((rd_I_Sym l0 x27_2).f1)] rfl ?_; (with_reducible refine (impl_placesOf.calls k2 a1_0 ((rd_I_Sym l0 x27_2).f1) t261 _ A19.out).mono ?_); rintro e w' ⟨rfl, ⟨nd, rfl⟩⟩; refine ⟨_, rfl, ?_⟩) | (go_at_call 89; (with_reducible refine (slices_ContainsFunc_int_int__with_impl_WorldOk_1.calls k2 _ _ (rd_Ls_i64 l1_1 x27_2)  gb255 a1_0 (some ad260) c1_1 l1_1 false _ ?side1 ?side2 ?side3 ?side4 ?side5 A21.out).mono ?_); (case side1 => exact Kd.C_below HR260_0.out (bs2_ HB.out GE255.out GE259.out)); (case side2 => exact HC260_0.out); (case side3 => exact (by (with_reducible repeat (first | refine blk_drewN ?_ _ | refine blk_drew ?_ | refine blk_alloc ?_ _)); refine blk_far ?_ NB255_259.out _; (with_reducible repeat (first | refine blk_drewN ?_ _ | refine blk_drew ?_ | refine blk_alloc ?_ _)); refine blk_far ?_ NB255_259.out _; (with_reducible repeat (first | refine blk_drewN ?_ _ | refine blk_drew ?_ | refine blk_alloc ?_ _)); refine blk_far ?_ NB255_259.out _; (with_reducible repeat (first | refine blk_drewN ?_ _ | refine blk_drew ?_ | refine blk_alloc ?_ _)); exact BK255.out)); (case side4 => exact Kd.C_below HR1_1.out (bs2_ HB.out GE255.out GE259.out)); (case side5 => exact HC1_1.out); rintro e w' ⟨rfl, ⟨nd, rfl⟩⟩))
                    go_roundg k2
                    case measure => have := HJ2.out; have := HK2.out; omega
                    case rel => exact ⟨(wrap64 (x27_2 + 1)), (by first | rfl | (simp; done) | (simp [*]; done)), H', ⟨by have := HJ2.out; have := HK2.out; omega⟩, ⟨by (with_reducible repeat (first | refine blk_drewN ?_ _ | refine blk_drew ?_ | refine blk_alloc ?_ _)); refine blk_far ?_ NB255_259.out _; (with_reducible repeat (first | refine blk_drewN ?_ _ | refine blk_drew ?_ | refine blk_alloc ?_ _)); refine blk_far ?_ NB255_259.out _; (with_reducible repeat (first | refine blk_drewN ?_ _ | refine blk_drew ?_ | refine blk_alloc ?_ _)); refine blk_far ?_ NB255_259.out _; (with_reducible repeat (first | refine blk_drewN ?_ _ | refine blk_drew ?_ | refine blk_alloc ?_ _)); exact BK255.out⟩, ⟨bs2_ HB.out GE255.out GE259.out⟩⟩
                  rw [if_neg c20] at H; have c20b0 : (((rd_Ls_i64 l1_1 x27_2).length : Int) == t261) = false := beq_eq_false_iff_ne.mpr c20; have c20b1 : (((rd_Ls_i64 l1_1 x27_2).length : Int) != t261) = true := bne_iff_ne.mpr c20; obtain rfl := Option.some.inj H; have p258 : 0 ≤ (x27_2 : Int) := as_; have q258 : x27_2 < (l0.length : Int) := as_; obtain ⟨ad258, e258, hx258_0, hx258_1, hx258_2⟩ := at_T99 HR0.out x27_2 p258 q258
                  cases e258
                  replace hx258_0 := hbc_ HB.out hx258_0; replace hx258_1 := hbc_ HB.out hx258_1; replace hx258_2 := hbc_ HB.out hx258_2; replace p258 := eq_true p258; replace q258 := eq_true q258
                  go_wp2_with (first | ((with_reducible refine gate_dst (N := 6) rfl ?_); (try (refine gate_guard (by rfl) ?_; dsimp only)); refine bxe_ (N := 6) (cs := #[.string (⟨#[]⟩ : ByteArray), .int .i64 0, .bool false]) (t := 99) ?_; intro gb259 hg w45 hbox hb; have BK259 := ak (hbox); have GW259 := ak (lg_ hg (bs1_ HB.out GE255.out)); have GE259 := ak (lg_ hg (bs1_ HB.out GE255.out)); replace HB := ak (below_step (bs1_ HB.out GE255.out) hb); have NB255_259 := ak (nl_ hg (bk_ BK255.out)); have NB259_255 := ak (ng_ hg (bk_ BK255.out)); replace BK255 := ak (blk_below (bk_ BK255.out) hb); clear hb hbox hg; have hnb46 := NB259_255.out; have hnc46 := NB255_259.out; have hcz47_0 := bc_ BK259.out 0; have hcz47_1 := bc_ BK259.out 1; have hcz47_2 := bc_ BK259.out 2; have hfz47_0 := blk_frozen BK259.out 0; have hfz47_1 := blk_frozen BK259.out 1; have hfz47_2 := blk_frozen BK259.out 2; have hcz48_0 := bc_ BK255.out 0; have hcz48_1 := bc_ BK255.out 1; have hfz48_0 := blk_frozen BK255.out 0; have hfz48_1 := blk_frozen BK255.out 1; have p260 : 0 ≤ (x27_2 : Int) := as_; have q260 : x27_2 < (l1_1.length : Int) := as_; obtain ⟨ad260, A260_0, c260_0, e260, hx260_0, hl260_0, hi260_0⟩ := at_L5 HR1_1.out x27_2 p260 q260; cases e260; have hn260_0 : ad260.block ≠ gb259 := Nat.ne_of_lt (Nat.lt_of_lt_of_le (by have := World.block_lt_of_cell? _ _ hx260_0; first | rwa [add_block] at this | exact this) GW259.out); have hn260_1 : ad260.block ≠ gb259 := Nat.ne_of_lt (Nat.lt_of_lt_of_le (by have := World.block_lt_of_cell? _ _ hx260_0; first | rwa [add_block] at this | exact this) GW259.out); have hn260_2 : ad260.block ≠ gb259 := Nat.ne_of_lt (Nat.lt_of_lt_of_le (by have := World.block_lt_of_cell? _ _ hx260_0; first | rwa [add_block] at this | exact this) GW259.out); replace hx260_0 := hbc_ HB.out hx260_0; have HR260_0 := ak hi260_0; have HC260_0 := ak hl260_0; clear hi260_0 hl260_0; replace hx260_0 := (cell_far (p := ⟨gb259, 0, none⟩) (by first | (rw [add_block]; exact hn260_0) | (show (Addr.add _ _).block ≠ _; rw [add_block]; exact hn260_0) | exact hn260_0) (.string ((rd_I_Sym l0 x27_2).f0))).trans hx260_0; replace hx260_0 := (cell_far (p := ⟨gb259, 1, none⟩) (by first | (rw [add_block]; exact hn260_1) | (show (Addr.add _ _).block ≠ _; rw [add_block]; exact hn260_1) | exact hn260_1) (.int .i64 ((rd_I_Sym l0 x27_2).f1))).trans hx260_0; replace hx260_0 := (cell_far (p := ⟨gb259, 2, none⟩) (by first | (rw [add_block]; exact hn260_2) | (show (Addr.add _ _).block ≠ _; rw [add_block]; exact hn260_2) | exact hn260_2) (.bool ((rd_I_Sym l0 x27_2).f2))).trans hx260_0; clear hn260_0; clear hn260_1; clear hn260_2; replace p260 := eq_true p260; replace q260 := eq_true q260) | ((with_reducible refine gate_callee (f := 88) rfl ?_); refine goesM_ (some 43) rfl rfl Try.func88 (by kernel_rfl) rfl #[.int .i64 a1_0, .int .i64 ((rd_I_Sym l0 x27_2).f1)] rfl ?_; (with_reducible refine (impl_placesOf.calls k2 a1_0 ((rd_I_Sym l0 x27_2).f1) t261 _ A19.out).mono ?_); rintro e w' ⟨rfl, ⟨nd, rfl⟩⟩; refine ⟨_, rfl, ?_⟩))
                  go_ret
                  exact fin_ (bs2_ HB.out GE255.out GE259.out)
                rw [if_neg c18] at H; exact absurd H (by simp)
              rw [if_neg c17] at H; exact absurd H (by simp)
            rw [if_neg c16] at H; exact absurd H (by simp)
          rw [if_neg c15] at H; have c15b0 := decide_eq_false c15; clear c15; obtain rfl := Option.some.inj H
          go_wp2
          go_ret
          exact fin_ (bs1_ HB.out GE255.out)

/-! ### slices_Index_int_int: function 120 -/
def slices_Index_int_int.l0 : Nat → List Int → Int → Int → Int → Option (Int)
  | 0, _, _, _, _ => none
  | k + 1, x0, x1, x7, x8 => if x8 < x7 then (if 0 ≤ x8 then (if x8 < (x0.length : Int) then (if x1 = (rd x0 x8) then (some x8) else (slices_Index_int_int.l0 k x0 x1 x7 (wrap64 (x8 + 1)))) else (none)) else (none)) else (some (-1))
def slices_Index_int_int.f (k : Nat) (l0 : List Int) (a1 : Int) : Option (Int) := slices_Index_int_int.l0 k l0 a1 (l0.length : Int) 0
theorem slices_Index_int_int.mono_l : ∀ k, (∀ y0 y1 y2 y3, LeO (slices_Index_int_int.l0 k y0 y1 y2 y3) (slices_Index_int_int.l0 (k + 1) y0 y1 y2 y3))
  | 0 => fun _ _ _ _ r h => by simp [slices_Index_int_int.l0] at h
  | k + 1 => by
    have ih0 := slices_Index_int_int.mono_l k
    · intro y0 y1 y2 y3
      unfold slices_Index_int_int.l0
      repeat' first | (with_reducible first | exact ih0 _ _ _ _ | exact LeO.refl _ | exact LeO.none _ | refine LeO.ite ?_ ?_ | refine LeO.bind ?_ (fun _ => ?_)) | exact ih0 _ _ _ _ | exact LeO.none _ | refine LeO.ite ?_ ?_ | refine LeO.bind ?_ (fun _ => ?_)
theorem slices_Index_int_int.mono : ∀ a0 a1 k, LeO (slices_Index_int_int.f k a0 a1) (slices_Index_int_int.f (k + 1) a0 a1) := by
  intro a0 a1 k; have ih0 := slices_Index_int_int.mono_l k
  unfold slices_Index_int_int.f
  repeat' first
      | (with_reducible exact ih0 _ _ _ _)
      | (with_reducible exact LeO.refl _)
      | (with_reducible exact LeO.none _)
      | (with_reducible refine LeO.ite ?_ ?_)
      | (with_reducible refine LeO.bind ?_ (fun _ => ?_))
      | exact ih0 _ _ _ _
      | exact LeO.none _
      | refine LeO.ite ?_ ?_
      | refine LeO.bind ?_ (fun _ => ?_)
set_option maxHeartbeats 8000000 in
set_option maxRecDepth 100000 in
theorem slices_Index_int_int.calls (k : Nat) (A0 : Option Addr) (c0 : Nat) (l0 : List Int) (a1 : Int) (r : Int) (w : World) (hr0 : Kd.C (Kd.int .i64) w A0 l0.length l0) (hc0 : l0.length ≤ c0) (h : slices_Index_int_int.f k l0 a1 = some r) :
    Calls Try.prog 120 #[.slice A0 l0.length c0, .int .i64 a1] w fun e w' => e = .returned (.int .i64 r) ∧ Drawn0 w w' := by
  have HR0 := ak hr0; have HC0 := ak hc0; clear hr0 hc0; have H : (slices_Index_int_int.l0 k l0 a1 (l0.length : Int) 0) = some r := h; clear h; have H' := ak H; clear H
  go_enter Try.func120, Try.ntmps120
  go_wp2
  go_loopg [8] k (fun kq v8 w' => ∃ (x8_1 : Int), v8 = .int .i64 x8_1 ∧ Aside0 (slices_Index_int_int.l0 kq l0 a1 (l0.length : Int) x8_1 = some r) ∧ Aside0 (kq ≤ k) ∧ Drawn0 w w')
  case atStart => exact ⟨(0), (by first | rfl | (simp; done) | (simp [*]; done)), H', ⟨Nat.le_refl _⟩, by repeat (first | exact Drawn0.refl _ | apply Drawn0.step)⟩
  case round =>
    clear H'; (try clear c1); (try clear p2); obtain ⟨x8_1, rfl, HA, HK1, ⟨m1, rfl⟩⟩ := hrel
    cases gk with
    | zero => exact absurd HA.out (by simp [slices_Index_int_int.l0])
    | succ k1 =>
      have H := HA.out; clear HA
      simp only [slices_Index_int_int.l0] at H
      by_cases c3 : x8_1 < (l0.length : Int)
      · rw [if_pos c3] at H; have c3b0 := decide_eq_true c3; clear c3
        by_cases c4 : 0 ≤ x8_1
        · rw [if_pos c4] at H; have c4b0 := decide_eq_true c4; clear c4
          by_cases c5 : x8_1 < (l0.length : Int)
          · rw [if_pos c5] at H; have c5b0 := decide_eq_true c5; clear c5
            by_cases c6 : a1 = (rd l0 x8_1)
            · rw [if_pos c6] at H; have c6b0 : (a1 == (rd l0 x8_1)) = true := beq_iff_eq.mpr c6; have c6b1 : (a1 != (rd l0 x8_1)) = false := bne_eq_false_iff_eq.mpr c6; clear c6; obtain rfl := Option.some.inj H; have p264 : 0 ≤ (x8_1 : Int) := as_; have q264 : x8_1 < (l0.length : Int) := as_; obtain ⟨ad264, e264, hx264_0⟩ := Kd.at_int HR0.out x8_1 p264 q264
              cases e264
              replace p264 := eq_true p264; replace q264 := eq_true q264
              go_wp2
              go_ret
              exact ⟨by first | rfl | (simp; done) | (simp [*]; done), by repeat (first | exact Drawn0.refl _ | apply Drawn0.step)⟩
            rw [if_neg c6] at H; have c6b0 : (a1 == (rd l0 x8_1)) = false := beq_eq_false_iff_ne.mpr c6; have c6b1 : (a1 != (rd l0 x8_1)) = true := bne_iff_ne.mpr c6; have H' := ak H; clear H; have p264 : 0 ≤ (x8_1 : Int) := as_; have q264 : x8_1 < (l0.length : Int) := as_; obtain ⟨ad264, e264, hx264_0⟩ := Kd.at_int HR0.out x8_1 p264 q264
            cases e264
            replace p264 := eq_true p264; replace q264 := eq_true q264
            go_wp2
            go_roundg k1
            case measure => have := HK1.out; omega
            case rel => exact ⟨(wrap64 (x8_1 + 1)), (by first | rfl | (simp; done) | (simp [*]; done)), H', ⟨by have := HK1.out; omega⟩, by repeat (first | exact Drawn0.refl _ | apply Drawn0.step)⟩
          rw [if_neg c5] at H; exact absurd H (by simp)
        rw [if_neg c4] at H; exact absurd H (by simp)
      rw [if_neg c3] at H; have c3b0 := decide_eq_false c3; clear c3; obtain rfl := Option.some.inj H
      go_wp2
      go_ret
      exact ⟨by first | rfl | (simp; done) | (simp [*]; done), by repeat (first | exact Drawn0.refl _ | apply Drawn0.step)⟩

/-! ### slices_Contains_int_int: function 117 -/
def slices_Contains_int_int.f (k : Nat) (l0 : List Int) (a1 : Int) : Option (Bool) := (slices_Index_int_int.f k l0 a1).bind fun t265 => (some (decide (t265 ≥ 0)))
theorem slices_Contains_int_int.mono : ∀ a0 a1 k, LeO (slices_Contains_int_int.f k a0 a1) (slices_Contains_int_int.f (k + 1) a0 a1) := by
  intro a0 a1 k
  unfold slices_Contains_int_int.f
  repeat' first
      | (with_reducible exact slices_Index_int_int.mono _ _ _)
      | (with_reducible exact LeO.refl _)
      | (with_reducible exact LeO.none _)
      | (with_reducible refine LeO.ite ?_ ?_)
      | (with_reducible refine LeO.bind ?_ (fun _ => ?_))
      | exact slices_Index_int_int.mono _ _ _
      | exact LeO.none _
      | refine LeO.ite ?_ ?_
      | refine LeO.bind ?_ (fun _ => ?_)
set_option maxHeartbeats 8000000 in
set_option maxRecDepth 100000 in
theorem slices_Contains_int_int.calls (k : Nat) (A0 : Option Addr) (c0 : Nat) (l0 : List Int) (a1 : Int) (r : Bool) (w : World) (hr0 : Kd.C (Kd.int .i64) w A0 l0.length l0) (hc0 : l0.length ≤ c0) (h : slices_Contains_int_int.f k l0 a1 = some r) :
    Calls Try.prog 117 #[.slice A0 l0.length c0, .int .i64 a1] w fun e w' => e = .returned (.bool r) ∧ Drawn0 w w' := by
  have HR0 := ak hr0; have HC0 := ak hc0; clear hr0 hc0; have H : ((slices_Index_int_int.f k l0 a1).bind fun t265 => (some (decide (t265 ≥ 0)))) = some r := h; clear h; replace H := Option.bind_eq_some_iff.mp H; obtain ⟨t265, A30, H⟩ := H; have A3 := ak A30; clear A30; obtain rfl := Option.some.inj H
  go_enter Try.func117, Try.ntmps117
  go_wp2_with (first | ((with_reducible refine gate_callee (f := 120) rfl ?_); refine goesM_ (some 7) rfl rfl Try.func120 (by kernel_rfl) rfl #[.slice A0 l0.length c0, .int .i64 a1] rfl ?_; (with_reducible refine (slices_Index_int_int.calls k _ _ l0 a1 t265 _ ?side1 ?side2 A3.out).mono ?_); (case side1 => exact ca_ HR0.out); (case side2 => exact HC0.out); rintro e w' ⟨rfl, ⟨nd, rfl⟩⟩; refine ⟨_, rfl, ?_⟩))
  go_ret
  exact ⟨by first | rfl | (simp; done) | (simp [*]; done), by repeat (first | exact Drawn0.refl _ | apply Drawn0.step)⟩

/-! ### impl_placeOf: function 108 -/
def impl_placeOf.l0 : Nat → List Int → Int → Int → Int → Option (Int)
  | 0, _, _, _, _ => none
  | k + 1, x0, x1, x5, x6 => if x6 ≥ 0 then (if 0 ≤ x6 then (if x6 < (x0.length : Int) then (impl_placeOf.l0 k x0 x1 (wrap64 ((wrap64 (x5 * x1)) + (rd x0 x6))) (wrap64 (x6 - 1))) else (none)) else (none)) else (some x5)
def impl_placeOf.f (k : Nat) (l0 : List Int) (a1 : Int) : Option (Int) := impl_placeOf.l0 k l0 a1 0 (wrap64 ((l0.length : Int) - 1))
theorem impl_placeOf.mono_l : ∀ k, (∀ y0 y1 y2 y3, LeO (impl_placeOf.l0 k y0 y1 y2 y3) (impl_placeOf.l0 (k + 1) y0 y1 y2 y3))
  | 0 => fun _ _ _ _ r h => by simp [impl_placeOf.l0] at h
  | k + 1 => by
    have ih0 := impl_placeOf.mono_l k
    · intro y0 y1 y2 y3
      unfold impl_placeOf.l0
      repeat' first | (with_reducible first | exact ih0 _ _ _ _ | exact LeO.refl _ | exact LeO.none _ | refine LeO.ite ?_ ?_ | refine LeO.bind ?_ (fun _ => ?_)) | exact ih0 _ _ _ _ | exact LeO.none _ | refine LeO.ite ?_ ?_ | refine LeO.bind ?_ (fun _ => ?_)
theorem impl_placeOf.mono : ∀ a0 a1 k, LeO (impl_placeOf.f k a0 a1) (impl_placeOf.f (k + 1) a0 a1) := by
  intro a0 a1 k; have ih0 := impl_placeOf.mono_l k
  unfold impl_placeOf.f
  repeat' first
      | (with_reducible exact ih0 _ _ _ _)
      | (with_reducible exact LeO.refl _)
      | (with_reducible exact LeO.none _)
      | (with_reducible refine LeO.ite ?_ ?_)
      | (with_reducible refine LeO.bind ?_ (fun _ => ?_))
      | exact ih0 _ _ _ _
      | exact LeO.none _
      | refine LeO.ite ?_ ?_
      | refine LeO.bind ?_ (fun _ => ?_)
set_option maxHeartbeats 8000000 in
set_option maxRecDepth 100000 in
theorem impl_placeOf.calls (k : Nat) (A0 : Option Addr) (c0 : Nat) (l0 : List Int) (a1 : Int) (r : Int) (w : World) (hr0 : Kd.C (Kd.int .i64) w A0 l0.length l0) (hc0 : l0.length ≤ c0) (h : impl_placeOf.f k l0 a1 = some r) :
    Calls Try.prog 108 #[.slice A0 l0.length c0, .int .i64 a1] w fun e w' => e = .returned (.int .i64 r) ∧ Drawn0 w w' := by
  have HR0 := ak hr0; have HC0 := ak hc0; clear hr0 hc0; have H : (impl_placeOf.l0 k l0 a1 0 (wrap64 ((l0.length : Int) - 1))) = some r := h; clear h; have H' := ak H; clear H
  go_enter Try.func108, Try.ntmps108
  go_wp2
  go_loopg [5, 6] k (fun kq v5 v6 w' => ∃ (x5_1 : Int) (x6_1 : Int), v5 = .int .i64 x5_1 ∧ v6 = .int .i64 x6_1 ∧ Aside0 (impl_placeOf.l0 kq l0 a1 x5_1 x6_1 = some r) ∧ Aside0 (kq ≤ k) ∧ Drawn0 w w')
  case atStart => exact ⟨(0), (wrap64 ((l0.length : Int) - 1)), (by first | rfl | (simp; done) | (simp [*]; done)), (by first | rfl | (simp; done) | (simp [*]; done)), H', ⟨Nat.le_refl _⟩, by repeat (first | exact Drawn0.refl _ | apply Drawn0.step)⟩
  case round =>
    clear H'; (try clear c1); (try clear p2); obtain ⟨x5_1, x6_1, rfl, rfl, HA, HK1, ⟨m1, rfl⟩⟩ := hrel
    cases gk with
    | zero => exact absurd HA.out (by simp [impl_placeOf.l0])
    | succ k1 =>
      have H := HA.out; clear HA
      simp only [impl_placeOf.l0] at H
      by_cases c3 : x6_1 ≥ 0
      · rw [if_pos c3] at H; have c3b0 := decide_eq_true c3; clear c3
        by_cases c4 : 0 ≤ x6_1
        · rw [if_pos c4] at H; have c4b0 := decide_eq_true c4; clear c4
          by_cases c5 : x6_1 < (l0.length : Int)
          · rw [if_pos c5] at H; have c5b0 := decide_eq_true c5; clear c5; have H' := ak H; clear H; have p266 : 0 ≤ (x6_1 : Int) := as_; have q266 : x6_1 < (l0.length : Int) := as_; obtain ⟨ad266, e266, hx266_0⟩ := Kd.at_int HR0.out x6_1 p266 q266
            cases e266
            replace p266 := eq_true p266; replace q266 := eq_true q266
            go_wp2
            go_roundg k1
            case measure => have := HK1.out; omega
            case rel => exact ⟨(wrap64 ((wrap64 (x5_1 * a1)) + (rd l0 x6_1))), (wrap64 (x6_1 - 1)), (by first | rfl | (simp; done) | (simp [*]; done)), (by first | rfl | (simp; done) | (simp [*]; done)), H', ⟨by have := HK1.out; omega⟩, by repeat (first | exact Drawn0.refl _ | apply Drawn0.step)⟩
          rw [if_neg c5] at H; exact absurd H (by simp)
        rw [if_neg c4] at H; exact absurd H (by simp)
      rw [if_neg c3] at H; have c3b0 := decide_eq_false c3; clear c3; obtain rfl := Option.some.inj H
      go_wp2
      go_ret
      exact ⟨by first | rfl | (simp; done) | (simp [*]; done), by repeat (first | exact Drawn0.refl _ | apply Drawn0.step)⟩

/-! ### impl_Renamed_1_1: function 119 -/
def impl_Renamed_1_1.f (k : Nat) (a0 : Int) (l1_0 : List Int) : Option (Int) := (slices_Index_int_int.f k l1_0 a0).bind fun t267 => (some t267)
theorem impl_Renamed_1_1.mono : ∀ a0 a1 k, LeO (impl_Renamed_1_1.f k a0 a1) (impl_Renamed_1_1.f (k + 1) a0 a1) := by
  intro a0 a1 k
  unfold impl_Renamed_1_1.f
  repeat' first
      | (with_reducible exact slices_Index_int_int.mono _ _ _)
      | (with_reducible exact LeO.refl _)
      | (with_reducible exact LeO.none _)
      | (with_reducible refine LeO.ite ?_ ?_)
      | (with_reducible refine LeO.bind ?_ (fun _ => ?_))
      | exact slices_Index_int_int.mono _ _ _
      | exact LeO.none _
      | refine LeO.ite ?_ ?_
      | refine LeO.bind ?_ (fun _ => ?_)
set_option maxHeartbeats 8000000 in
set_option maxRecDepth 100000 in
theorem impl_Renamed_1_1.calls (k : Nat) (a0 : Int) (G1 : Nat) (A1_0 : Option Addr) (c1_0 : Nat) (l1_0 : List Int) (r : Int) (w : World) (hG1 : w.heap[G1]? = some (.cells #[.slice A1_0 l1_0.length c1_0] 75 (0, 0))) (hr1_0 : Kd.C (Kd.int .i64) w A1_0 l1_0.length l1_0) (hc1_0 : l1_0.length ≤ c1_0) (h : impl_Renamed_1_1.f k a0 l1_0 = some r) :
    Calls Try.prog 119 #[.int .i64 a0, .pointer (some ⟨G1, 0, none⟩)] w fun e w' => e = .returned (.int .i64 r) ∧ Drawn0 w w' := by
  have HR1_0 := ak hr1_0; have HC1_0 := ak hc1_0; clear hr1_0 hc1_0; have BK1 := ak hG1; clear hG1; have H : ((slices_Index_int_int.f k l1_0 a0).bind fun t267 => (some t267)) = some r := h; clear h; replace H := Option.bind_eq_some_iff.mp H; obtain ⟨t267, A30, H⟩ := H; have A3 := ak A30; clear A30; obtain rfl := Option.some.inj H; have hcz4_0 := bc_ BK1.out 0; have hfz4_0 := blk_frozen BK1.out 0
  go_enter Try.func119, Try.ntmps119
  go_wp2_with (first | ((with_reducible refine gate_callee (f := 120) rfl ?_); refine goesM_ (some 6) rfl rfl Try.func120 (by kernel_rfl) rfl #[.slice A1_0 l1_0.length c1_0, .int .i64 a0] rfl ?_; (with_reducible refine (slices_Index_int_int.calls k _ _ l1_0 a0 t267 _ ?side1 ?side2 A3.out).mono ?_); (case side1 => exact ca_ HR1_0.out); (case side2 => exact HC1_0.out); rintro e w' ⟨rfl, ⟨nd, rfl⟩⟩; refine ⟨_, rfl, ?_⟩))
  go_ret
  exact ⟨by first | rfl | (simp; done) | (simp [*]; done), by repeat (first | exact Drawn0.refl _ | apply Drawn0.step)⟩

/-! ### impl_each1_with_impl_Renamed_1_1: function 196 -/
def impl_each1_with_impl_Renamed_1_1.l0 : Nat → List Int → List Int → Int → Int → List Int → Option (List Int)
  | 0, _, _, _, _, _ => none
  | k + 1, x5, x9, x10, x11, x3000 => if x11 < x10 then (if 0 ≤ x11 then (if x11 < (x9.length : Int) then ((impl_Renamed_1_1.f k (rd x9 x11) x3000).bind fun t272 => (if x5.length < 17592186044416 then (impl_each1_with_impl_Renamed_1_1.l0 k (x5 ++ [t272]) x9 x10 (wrap64 (x11 + 1)) x3000) else (none))) else (none)) else (none)) else (some x5)
def impl_each1_with_impl_Renamed_1_1.f (k : Nat) (l0 : List Int)  (l2_0 : List Int) : Option (List Int) := impl_each1_with_impl_Renamed_1_1.l0 k (([] : List Int)) l0 (l0.length : Int) 0 l2_0
theorem impl_each1_with_impl_Renamed_1_1.mono_l : ∀ k, (∀ y0 y1 y2 y3 y4, LeO (impl_each1_with_impl_Renamed_1_1.l0 k y0 y1 y2 y3 y4) (impl_each1_with_impl_Renamed_1_1.l0 (k + 1) y0 y1 y2 y3 y4))
  | 0 => fun _ _ _ _ _ r h => by simp [impl_each1_with_impl_Renamed_1_1.l0] at h
  | k + 1 => by
    have ih0 := impl_each1_with_impl_Renamed_1_1.mono_l k
    · intro y0 y1 y2 y3 y4
      unfold impl_each1_with_impl_Renamed_1_1.l0
      repeat' first | (with_reducible first | exact ih0 _ _ _ _ _ | exact impl_Renamed_1_1.mono _ _ _ | exact LeO.refl _ | exact LeO.none _ | refine LeO.ite ?_ ?_ | refine LeO.bind ?_ (fun _ => ?_)) | exact ih0 _ _ _ _ _ | exact impl_Renamed_1_1.mono _ _ _ | exact LeO.none _ | refine LeO.ite ?_ ?_ | refine LeO.bind ?_ (fun _ => ?_)
theorem impl_each1_with_impl_Renamed_1_1.mono : ∀ a0 a1 k, LeO (impl_each1_with_impl_Renamed_1_1.f k a0 a1) (impl_each1_with_impl_Renamed_1_1.f (k + 1) a0 a1) := by
  intro a0 a1 k; have ih0 := impl_each1_with_impl_Renamed_1_1.mono_l k
  unfold impl_each1_with_impl_Renamed_1_1.f
  repeat' first
      | (with_reducible exact ih0 _ _ _ _ _)
      | (with_reducible exact impl_Renamed_1_1.mono _ _ _)
      | (with_reducible exact LeO.refl _)
      | (with_reducible exact LeO.none _)
      | (with_reducible refine LeO.ite ?_ ?_)
      | (with_reducible refine LeO.bind ?_ (fun _ => ?_))
      | exact ih0 _ _ _ _ _
      | exact impl_Renamed_1_1.mono _ _ _
      | exact LeO.none _
      | refine LeO.ite ?_ ?_
      | refine LeO.bind ?_ (fun _ => ?_)
set_option maxHeartbeats 8000000 in
set_option maxRecDepth 100000 in
theorem impl_each1_with_impl_Renamed_1_1.calls (k : Nat) (A0 : Option Addr) (c0 : Nat) (l0 : List Int)  (G2 : Nat) (A2_0 : Option Addr) (c2_0 : Nat) (l2_0 : List Int) (r : List Int) (w : World) (hr0 : Kd.C (Kd.int .i64) w A0 l0.length l0) (hc0 : l0.length ≤ c0) (hG2 : w.heap[G2]? = some (.cells #[.slice A2_0 l2_0.length c2_0] 75 (0, 0))) (hr2_0 : Kd.C (Kd.int .i64) w A2_0 l2_0.length l2_0) (hc2_0 : l2_0.length ≤ c2_0) (h : impl_each1_with_impl_Renamed_1_1.f k l0 l2_0 = some r) :
    Calls Try.prog 113 #[.slice A0 l0.length c0, .func (.func 119) #[] #[.pointer (some ⟨G2, 0, none⟩)]] w fun e w' => ∃ v0_ : Value, e = .returned (v0_) ∧ Kd.R (Kd.int .i64) 3 w' w.heap.size (fun _ => True) v0_ r ∧ Below w.heap.size w w' := by
  have HR0 := ak hr0; have HC0 := ak hc0; clear hr0 hc0; have HR2_0 := ak hr2_0; have HC2_0 := ak hc2_0; clear hr2_0 hc2_0; have BK2 := ak hG2; clear hG2; have HB := ak (Below.refl w.heap.size w); have H : (impl_each1_with_impl_Renamed_1_1.l0 k (([] : List Int)) l0 (l0.length : Int) 0 l2_0) = some r := h; clear h; obtain ⟨y268, hy268⟩ : ∃ y_ : List Int, y_ = (([] : List Int)) := ⟨_, rfl⟩; replace H : (impl_each1_with_impl_Renamed_1_1.l0 k y268 l0 (l0.length : Int) 0 l2_0) = some r := by first | (rw [hy268]; with_reducible exact H) | (have H2_ := (Option.bind_some _ _).symm.trans H; rw [hy268]; with_reducible exact H2_) | (have H2_ := (Option.bind_some _ _).symm.trans H; with_reducible exact H2_) | with_reducible exact H | (rw [hy268]; exact H) | exact H
  have Ny268 := ak hy268; clear hy268; have H' := ak H; clear H
  go_enter Try.func113, Try.ntmps113
  go_wp2_with (first | ((with_reducible refine gate_dst (N := 8) rfl ?_); refine Kd.R_lit (Kd.int .i64) _ 3 ?hg (N := 8) ?hd (xs := ([] : List Int)) (inner := []) (ok := fun _ => True) (okp := fun _ => True) ?hr ?hp (fun _ hk => hk) trivial (Below.refl _ _) (Nat.le_refl _) (by simp) ?_; (case hd => rfl); (case hg => rfl); (case hr => first | (go_simp; done) | (go_simp; rfl)); (case hp => exact (Reps.none _ _)); intro v269 w4 ho5 hb hg_ hnew_; clear hg_ hnew_; (first | rw [← Ny268.out] at ho5 | (simp only [Int.reduceToNat] at ho5; rw [← Ny268.out] at ho5)); have HO270 := ak (Kd.R_lower ho5 (below_size (bl_ HB.out))); replace BK2 := ak (blk_below (bk_ BK2.out) hb); replace HB := ak (below_step (bl_ HB.out) hb); clear hb ho5))
  go_loopg [5, 11] k (fun kq v5 v11 w' => ∃ (x5_1 : List Int) (x11_1 : Int), v11 = .int .i64 x11_1 ∧ Aside0 (impl_each1_with_impl_Renamed_1_1.l0 kq x5_1 l0 (l0.length : Int) x11_1 l2_0 = some r) ∧ Aside0 (kq ≤ k) ∧ Aside0 (Kd.R (Kd.int .i64) 3 w' w.heap.size (fun _ => True) v5 x5_1) ∧ Aside0 (w'.heap[G2]? = some (.cells #[(.slice A2_0 l2_0.length c2_0)] 75 (0, 0))) ∧ Aside0 (Below w.heap.size w w'))
  case atStart => exact ⟨(y268), (0), (by first | rfl | (simp; done) | (simp [*]; done)), H', ⟨Nat.le_refl _⟩, ⟨by (with_reducible repeat (first | apply Kd.R_alloc | apply Kd.R_drewN | apply Kd.R_drew)); exact HO270.out⟩, ⟨bk_ BK2.out⟩, ⟨bl_ HB.out⟩⟩
  case round =>
    clear H'; (try clear c1); (try clear c2); (try clear p2); obtain ⟨x5_1, x11_1, rfl, HA, HK1, HO_5, BK2, HB⟩ := hrel
    cases gk with
    | zero => exact absurd HA.out (by simp [impl_each1_with_impl_Renamed_1_1.l0])
    | succ k1 =>
      have H := HA.out; clear HA
      simp only [impl_each1_with_impl_Renamed_1_1.l0] at H
      by_cases c6 : x11_1 < (l0.length : Int)
      · rw [if_pos c6] at H; have c6b0 := decide_eq_true c6; clear c6
        by_cases c7 : 0 ≤ x11_1
        · rw [if_pos c7] at H; have c7b0 := decide_eq_true c7; clear c7
          by_cases c8 : x11_1 < (l0.length : Int)
          · rw [if_pos c8] at H; have c8b0 := decide_eq_true c8; clear c8; replace H := Option.bind_eq_some_iff.mp H; obtain ⟨t272, A90, H⟩ := H; have A9 := ak A90; clear A90
            by_cases c10 : x5_1.length < 17592186044416
            · rw [if_pos c10] at H; have LMc10 := ak c10; clear c10; obtain ⟨y273, hy273⟩ : ∃ y_ : List Int, y_ = (x5_1 ++ [t272]) := ⟨_, rfl⟩; replace H : (impl_each1_with_impl_Renamed_1_1.l0 k1 y273 l0 (l0.length : Int) (wrap64 (x11_1 + 1)) l2_0) = some r := by first | (rw [hy273]; with_reducible exact H) | (have H2_ := (Option.bind_some _ _).symm.trans H; rw [hy273]; with_reducible exact H2_) | (have H2_ := (Option.bind_some _ _).symm.trans H; with_reducible exact H2_) | with_reducible exact H | (rw [hy273]; exact H) | exact H
              have Ny273 := ak hy273; clear hy273; have H' := ak H; clear H; have p271 : 0 ≤ (x11_1 : Int) := as_; have q271 : x11_1 < (l0.length : Int) := as_; obtain ⟨ad271, e271, hx271_0⟩ := Kd.at_int HR0.out x11_1 p271 q271
              cases e271
              replace hx271_0 := hbc_ HB.out hx271_0; replace p271 := eq_true p271; replace q271 := eq_true q271
              go_wp2_with (first | ((with_reducible refine Go.Proofs.Ytcboagkbcoihjaa.XOpens.gate_calleeV (t := 16) rfl ?_); refine Go.Proofs.Ytcboagkbcoihjaa.XOpens.goesV_ (some 18) rfl rfl Try.func119 (by kernel_rfl) rfl #[.int .i64 (rd l0 x11_1), .pointer (some ⟨G2, 0, none⟩)] rfl rfl (by (try simp only [List.map_toArray, List.map_cons, List.map_nil]); first | done | rfl | (simp only [List.length_drop, List.length_take]; rfl)) ?_; (with_reducible refine (impl_Renamed_1_1.calls k1 (rd l0 x11_1) G2 A2_0 c2_0 l2_0 t272 _ ?side1 ?side2 ?side3 A9.out).mono ?_); (case side1 => exact (bk_ BK2.out)); (case side2 => exact cb_ HR2_0.out HB.out); (case side3 => exact HC2_0.out); rintro e w' ⟨rfl, ⟨nd, rfl⟩⟩; refine ⟨_, rfl, ?_⟩) | ((with_reducible refine gate_builtin (b := .append) (xs := #[.tmp 15, .tmp 19]) rfl ?_); at_builtin; refine Kd.R_append (Kd.int .i64) (w0 := w) w.heap.size rfl (.tmp 15) (.tmp 19) 75 3 (.int .i64 0) 8 rfl Try.underlying75 info3 rfl (by decide) (by omega) u5 x5_1 t272 [.int .i64 t272] (fun _ => True) (fun _ => False) rfl rfl ?aP (fun _ hk => hk.elim) ?aF ?aO ?aB ?aS ?aL ?_; (case aP => exact rfl); (case aB => exact (bl_ HB.out)); (case aF => exact (fun _ _ => trivial)); (case aO => exact (ra_ HO_5.out)); (case aS => exact (below_size (bl_ HB.out))); (case aL => have := LMc10.out; omega); intro v274 w11 ho hb hg hat; rw [← Ny273.out] at ho; replace BK2 := ak (blk_grown (g := G2) (o := .cells #[.slice A2_0 l2_0.length c2_0] 75 (0, 0)) (bk_ BK2.out) hg (Kd.R_ne HO_5.out BK2.out (by decide))); replace HB := ak (hb); have HO275 := ak (ho); clear HO_5; clear ho hb hg hat))
              go_roundg k1
              case measure => have := HK1.out; omega
              case rel => exact ⟨(y273), (wrap64 (x11_1 + 1)), (by first | rfl | (simp; done) | (simp [*]; done)), H', ⟨by have := HK1.out; omega⟩, ⟨by (with_reducible repeat (first | apply Kd.R_alloc | apply Kd.R_drewN | apply Kd.R_drew)); exact HO275.out⟩, ⟨bk_ BK2.out⟩, ⟨bl_ HB.out⟩⟩
            rw [if_neg c10] at H; exact absurd H (by simp)
          rw [if_neg c8] at H; exact absurd H (by simp)
        rw [if_neg c7] at H; exact absurd H (by simp)
      rw [if_neg c6] at H; have c6b0 := decide_eq_false c6; clear c6; obtain rfl := Option.some.inj H
      go_wp2
      go_ret
      exact ⟨_, by first | rfl | (simp [errW_none, errW_some] <;> rfl) | (simp [*, errW_none, errW_some] <;> rfl), by (with_reducible repeat (first | apply Kd.R_alloc | apply Kd.R_drewN | apply Kd.R_drew)); exact HO_5.out, by repeat (first | (with_reducible first | exact HB.out | apply below_alloc | apply pw_below_drewN | apply below_drew1 | refine below_set ?_ GE2.out) | exact HB.out)⟩

/-! ### impl_Renamed_1: function 118 -/
def impl_Renamed_1.f (k : Nat) (a0 : Int) (l1 : List Int) (l2_0 : List Int) (a3_0 : Int) (l3_1 : List (List Int)) : Option (Int) := (impl_each1_with_impl_Renamed_1_1.f k l1 l2_0).bind fun t276 => (if 0 ≤ a0 then (if a0 < (l3_1.length : Int) then ((impl_placeOf.f k t276 a3_0).bind fun t280 => (if 0 ≤ t280 then (if t280 < ((rd_Ls_i64 l3_1 a0).length : Int) then (if 0 ≤ (rd (rd_Ls_i64 l3_1 a0) t280) then (if (rd (rd_Ls_i64 l3_1 a0) t280) < (l2_0.length : Int) then (some (rd l2_0 (rd (rd_Ls_i64 l3_1 a0) t280))) else (none)) else (none)) else (none)) else (none))) else (none)) else (none))
theorem impl_Renamed_1.mono : ∀ a0 a1 a2 a3 a4 k, LeO (impl_Renamed_1.f k a0 a1 a2 a3 a4) (impl_Renamed_1.f (k + 1) a0 a1 a2 a3 a4) := by
  intro a0 a1 a2 a3 a4 k
  unfold impl_Renamed_1.f
  repeat' first
      | (with_reducible exact impl_each1_with_impl_Renamed_1_1.mono _ _ _)
      | (with_reducible exact impl_placeOf.mono _ _ _)
      | (with_reducible exact LeO.refl _)
      | (with_reducible exact LeO.none _)
      | (with_reducible refine LeO.ite ?_ ?_)
      | (with_reducible refine LeO.bind ?_ (fun _ => ?_))
      | exact impl_each1_with_impl_Renamed_1_1.mono _ _ _
      | exact impl_placeOf.mono _ _ _
      | exact LeO.none _
      | refine LeO.ite ?_ ?_
      | refine LeO.bind ?_ (fun _ => ?_)
set_option maxHeartbeats 8000000 in
set_option maxRecDepth 100000 in
theorem impl_Renamed_1.calls (k : Nat) (a0 : Int) (A1 : Option Addr) (c1 : Nat) (l1 : List Int) (G2 : Nat) (A2_0 : Option Addr) (c2_0 : Nat) (l2_0 : List Int) (G3 : Nat) (a3_0 : Int) (A3_1 : Option Addr) (c3_1 : Nat) (l3_1 : List (List Int)) (r : Int) (w : World) (hr1 : Kd.C (Kd.int .i64) w A1 l1.length l1) (hc1 : l1.length ≤ c1) (hG2 : w.heap[G2]? = some (.cells #[.slice A2_0 l2_0.length c2_0] 75 (0, 0))) (hr2_0 : Kd.C (Kd.int .i64) w A2_0 l2_0.length l2_0) (hc2_0 : l2_0.length ≤ c2_0) (hG3 : w.heap[G3]? = some (.cells #[.int .i64 a3_0, .slice A3_1 l3_1.length c3_1] 51 (0, 0))) (hN2_3 : G2 ≠ G3) (hr3_1 : Kd.C (Kd.slice 3 (Kd.int .i64)) w A3_1 l3_1.length l3_1) (hc3_1 : l3_1.length ≤ c3_1) (h : impl_Renamed_1.f k a0 l1 l2_0 a3_0 l3_1 = some r) :
    Calls Try.prog 118 #[.int .i64 a0, .slice A1 l1.length c1, .pointer (some ⟨G2, 0, none⟩), .pointer (some ⟨G3, 0, none⟩)] w fun e w' => e = .returned (.int .i64 r) ∧ Below w.heap.size w w' := by
  have HR1 := ak hr1; have HC1 := ak hc1; clear hr1 hc1; have HR2_0 := ak hr2_0; have HC2_0 := ak hc2_0; clear hr2_0 hc2_0; have HR3_1 := ak hr3_1; have HC3_1 := ak hc3_1; clear hr3_1 hc3_1; have BK2 := ak hG2; clear hG2; have BK3 := ak hG3; clear hG3; have NB2_3 := ak hN2_3; have NB3_2 := ak (Ne.symm hN2_3); clear hN2_3; have HB := ak (Below.refl w.heap.size w); have H : ((impl_each1_with_impl_Renamed_1_1.f k l1 l2_0).bind fun t276 => (if 0 ≤ a0 then (if a0 < (l3_1.length : Int) then ((impl_placeOf.f k t276 a3_0).bind fun t280 => (if 0 ≤ t280 then (if t280 < ((rd_Ls_i64 l3_1 a0).length : Int) then (if 0 ≤ (rd (rd_Ls_i64 l3_1 a0) t280) then (if (rd (rd_Ls_i64 l3_1 a0) t280) < (l2_0.length : Int) then (some (rd l2_0 (rd (rd_Ls_i64 l3_1 a0) t280))) else (none)) else (none)) else (none)) else (none))) else (none)) else (none))) = some r := h; clear h; replace H := Option.bind_eq_some_iff.mp H; obtain ⟨t276, A50, H⟩ := H; have A5 := ak A50; clear A50
  by_cases c6 : 0 ≤ a0
  · rw [if_pos c6] at H; have c6b0 := decide_eq_true c6; clear c6
    by_cases c7 : a0 < (l3_1.length : Int)
    · rw [if_pos c7] at H; have c7b0 := decide_eq_true c7; clear c7; replace H := Option.bind_eq_some_iff.mp H; obtain ⟨t280, A80, H⟩ := H; have A8 := ak A80; clear A80
      by_cases c9 : 0 ≤ t280
      · rw [if_pos c9] at H; have c9b0 := decide_eq_true c9; clear c9
        by_cases c10 : t280 < ((rd_Ls_i64 l3_1 a0).length : Int)
        · rw [if_pos c10] at H; have c10b0 := decide_eq_true c10; clear c10
          by_cases c11 : 0 ≤ (rd (rd_Ls_i64 l3_1 a0) t280)
          · rw [if_pos c11] at H; have c11b0 := decide_eq_true c11; clear c11
            by_cases c12 : (rd (rd_Ls_i64 l3_1 a0) t280) < (l2_0.length : Int)
            · rw [if_pos c12] at H; have c12b0 := decide_eq_true c12; clear c12; obtain rfl := Option.some.inj H
              go_enter Try.func118, Try.ntmps118
              go_wp2_with (first | (go_at_call 113; (with_reducible refine (impl_each1_with_impl_Renamed_1_1.calls k _ _ l1  G2 A2_0 c2_0 l2_0 t276 _ ?side1 ?side2 ?side3 ?side4 ?side5 A5.out).mono ?_); (case side1 => exact ca_ HR1.out); (case side2 => exact HC1.out); (case side3 => exact (bk_ BK2.out)); (case side4 => exact ca_ HR2_0.out); (case side5 => exact HC2_0.out); rintro e w13 ⟨v277, rfl, ho0, hb⟩; have HO278 := ak (Kd.R_lower ho0 (below_size (bl_ HB.out))); replace BK2 := ak (blk_below (bk_ BK2.out) hb); replace BK3 := ak (blk_below (bk_ BK3.out) hb); replace HB := ak (below_step (bl_ HB.out) hb); (try clear hb); (try clear hb2); (try clear hk); (try clear hi); (try clear ho0); have hnb14 := NB2_3.out; have hnc14 := NB3_2.out; have hcz15_0 := bc_ BK2.out 0; have hfz15_0 := blk_frozen BK2.out 0; have hcz16_0 := bc_ BK3.out 0; have hcz16_1 := bc_ BK3.out 1; have hfz16_0 := blk_frozen BK3.out 0; have hfz16_1 := blk_frozen BK3.out 1; have p279 : 0 ≤ (a0 : Int) := as_; have q279 : a0 < (l3_1.length : Int) := as_; obtain ⟨ad279, A279_0, c279_0, e279, hx279_0, hl279_0, hi279_0⟩ := at_L5 HR3_1.out a0 p279 q279; cases e279; replace hx279_0 := hbc_ HB.out hx279_0; have HR279_0 := ak hi279_0; have HC279_0 := ak hl279_0; clear hi279_0 hl279_0; replace p279 := eq_true p279; replace q279 := eq_true q279; obtain ⟨Ao17, co17, eo17⟩ := Kd.R_slice HO278.out; subst eo17) | (go_at_call 108; (with_reducible refine (impl_placeOf.calls k _ _ t276 a3_0 t280 _ ?side1 ?side2 A8.out).mono ?_); (case side1 => exact ca_ (Kd.R_reads' HO278.out).2.2); (case side2 => exact (Kd.R_reads' HO278.out).2.1); rintro e w' ⟨rfl, ⟨nd, rfl⟩⟩; (try first | exact ⟨rfl, _, World.drewN_drewN _ _ _⟩ | exact ⟨rfl, _, Eq.trans (World.drewN_drewN _ _ _) (congrArg (World.drewN _) (Nat.add_assoc _ _ _))⟩); have p281 : 0 ≤ (t280 : Int) := as_; have q281 : t280 < ((rd_Ls_i64 l3_1 a0).length : Int) := as_; obtain ⟨ad281, e281, hx281_0⟩ := Kd.at_int HR279_0.out t280 p281 q281; cases e281; replace hx281_0 := hbc_ HB.out hx281_0; replace p281 := eq_true p281; replace q281 := eq_true q281; have p282 : 0 ≤ ((rd (rd_Ls_i64 l3_1 a0) t280) : Int) := as_; have q282 : (rd (rd_Ls_i64 l3_1 a0) t280) < (l2_0.length : Int) := as_; obtain ⟨ad282, e282, hx282_0⟩ := Kd.at_int HR2_0.out (rd (rd_Ls_i64 l3_1 a0) t280) p282 q282; cases e282; replace hx282_0 := hbc_ HB.out hx282_0; replace p282 := eq_true p282; replace q282 := eq_true q282))
              repeat (go_quiet (first | (go_at_call 113; (with_reducible refine (impl_each1_with_impl_Renamed_1_1.calls k _ _ l1  G2 A2_0 c2_0 l2_0 t276 _ ?side1 ?side2 ?side3 ?side4 ?side5 A5.out).mono ?_); (case side1 => exact ca_ HR1.out); (case side2 => exact HC1.out); (case side3 => exact (bk_ BK2.out)); (case side4 => exact ca_ HR2_0.out); (case side5 => exact HC2_0.out); rintro e w13 ⟨v277, rfl, ho0, hb⟩; have HO278 := ak (Kd.R_lower ho0 (below_size (bl_ HB.out))); replace BK2 := ak (blk_below (bk_ BK2.out) hb); replace BK3 := ak (blk_below (bk_ BK3.out) hb); replace HB := ak (below_step (bl_ HB.out) hb); (try clear hb); (try clear hb2); (try clear hk); (try clear hi); (try clear ho0); have hnb14 := NB2_3.out; have hnc14 := NB3_2.out; have hcz15_0 := bc_ BK2.out 0; have hfz15_0 := blk_frozen BK2.out 0; have hcz16_0 := bc_ BK3.out 0; have hcz16_1 := bc_ BK3.out 1; have hfz16_0 := blk_frozen BK3.out 0; have hfz16_1 := blk_frozen BK3.out 1; have p279 : 0 ≤ (a0 : Int) := as_; have q279 : a0 < (l3_1.length : Int) := as_; obtain ⟨ad279, A279_0, c279_0, e279, hx279_0, hl279_0, hi279_0⟩ := at_L5 HR3_1.out a0 p279 q279; cases e279; replace hx279_0 := hbc_ HB.out hx279_0; have HR279_0 := ak hi279_0; have HC279_0 := ak hl279_0; clear hi279_0 hl279_0; replace p279 := eq_true p279; replace q279 := eq_true q279; obtain ⟨Ao17, co17, eo17⟩ := Kd.R_slice HO278.out; subst eo17) | (go_at_call 108; (with_reducible refine (impl_placeOf.calls k _ _ t276 a3_0 t280 _ ?side1 ?side2 A8.out).mono ?_); (case side1 => exact ca_ (Kd.R_reads' HO278.out).2.2); (case side2 => exact (Kd.R_reads' HO278.out).2.1); rintro e w' ⟨rfl, ⟨nd, rfl⟩⟩; (try first | exact ⟨rfl, _, World.drewN_drewN _ _ _⟩ | exact ⟨rfl, _, Eq.trans (World.drewN_drewN _ _ _) (congrArg (World.drewN _) (Nat.add_assoc _ _ _))⟩); have p281 : 0 ≤ (t280 : Int) := as_; have q281 : t280 < ((rd_Ls_i64 l3_1 a0).length : Int) := as_; obtain ⟨ad281, e281, hx281_0⟩ := Kd.at_int HR279_0.out t280 p281 q281; cases e281; replace hx281_0 := hbc_ HB.out hx281_0; replace p281 := eq_true p281; replace q281 := eq_true q281; have p282 : 0 ≤ ((rd (rd_Ls_i64 l3_1 a0) t280) : Int) := as_; have q282 : (rd (rd_Ls_i64 l3_1 a0) t280) < (l2_0.length : Int) := as_; obtain ⟨ad282, e282, hx282_0⟩ := Kd.at_int HR2_0.out (rd (rd_Ls_i64 l3_1 a0) t280) p282 q282; cases e282; replace hx282_0 := hbc_ HB.out hx282_0; replace p282 := eq_true p282; replace q282 := eq_true q282)); try go_wp2_with (first | (go_at_call 113; (with_reducible refine (impl_each1_with_impl_Renamed_1_1.calls k _ _ l1  G2 A2_0 c2_0 l2_0 t276 _ ?side1 ?side2 ?side3 ?side4 ?side5 A5.out).mono ?_); (case side1 => exact ca_ HR1.out); (case side2 => exact HC1.out); (case side3 => exact (bk_ BK2.out)); (case side4 => exact ca_ HR2_0.out); (case side5 => exact HC2_0.out); rintro e w13 ⟨v277, rfl, ho0, hb⟩; have HO278 := ak (Kd.R_lower ho0 (below_size (bl_ HB.out))); replace BK2 := ak (blk_below (bk_ BK2.out) hb); replace BK3 := ak (blk_below (bk_ BK3.out) hb); replace HB := ak (below_step (bl_ HB.out) hb); (try clear hb); (try clear hb2); (try clear hk); (try clear hi); (try clear ho0); have hnb14 := NB2_3.out; have hnc14 := NB3_2.out; have hcz15_0 := bc_ BK2.out 0; have hfz15_0 := blk_frozen BK2.out 0; have hcz16_0 := bc_ BK3.out 0; have hcz16_1 := bc_ BK3.out 1; have hfz16_0 := blk_frozen BK3.out 0; have hfz16_1 := blk_frozen BK3.out 1; have p279 : 0 ≤ (a0 : Int) := as_; have q279 : a0 < (l3_1.length : Int) := as_; obtain ⟨ad279, A279_0, c279_0, e279, hx279_0, hl279_0, hi279_0⟩ := at_L5 HR3_1.out a0 p279 q279; cases e279; replace hx279_0 := hbc_ HB.out hx279_0; have HR279_0 := ak hi279_0; have HC279_0 := ak hl279_0; clear hi279_0 hl279_0; replace p279 := eq_true p279; replace q279 := eq_true q279; obtain ⟨Ao17, co17, eo17⟩ := Kd.R_slice HO278.out; subst eo17) | (go_at_call 108; (with_reducible refine (impl_placeOf.calls k _ _ t276 a3_0 t280 _ ?side1 ?side2 A8.out).mono ?_); (case side1 => exact ca_ (Kd.R_reads' HO278.out).2.2); (case side2 => exact (Kd.R_reads' HO278.out).2.1); rintro e w' ⟨rfl, ⟨nd, rfl⟩⟩; (try first | exact ⟨rfl, _, World.drewN_drewN _ _ _⟩ | exact ⟨rfl, _, Eq.trans (World.drewN_drewN _ _ _) (congrArg (World.drewN _) (Nat.add_assoc _ _ _))⟩); have p281 : 0 ≤ (t280 : Int) := as_; have q281 : t280 < ((rd_Ls_i64 l3_1 a0).length : Int) := as_; obtain ⟨ad281, e281, hx281_0⟩ := Kd.at_int HR279_0.out t280 p281 q281; cases e281; replace hx281_0 := hbc_ HB.out hx281_0; replace p281 := eq_true p281; replace q281 := eq_true q281; have p282 : 0 ≤ ((rd (rd_Ls_i64 l3_1 a0) t280) : Int) := as_; have q282 : (rd (rd_Ls_i64 l3_1 a0) t280) < (l2_0.length : Int) := as_; obtain ⟨ad282, e282, hx282_0⟩ := Kd.at_int HR2_0.out (rd (rd_Ls_i64 l3_1 a0) t280) p282 q282; cases e282; replace hx282_0 := hbc_ HB.out hx282_0; replace p282 := eq_true p282; replace q282 := eq_true q282)))
              go_ret
              exact fin_ (bl_ HB.out)
            rw [if_neg c12] at H; exact absurd H (by simp)
          rw [if_neg c11] at H; exact absurd H (by simp)
        rw [if_neg c10] at H; exact absurd H (by simp)
      rw [if_neg c9] at H; exact absurd H (by simp)
    rw [if_neg c7] at H; exact absurd H (by simp)
  rw [if_neg c6] at H; exact absurd H (by simp)

/-! ### impl_digitsOf: function 159 -/
def impl_digitsOf.l0 : Nat → Int → Int → List Int → Int → Int → Option (List Int)
  | 0, _, _, _, _, _ => none
  | k + 1, x0, x1, x7, x9, x10 => if x10 < x9 then (if x1 = 0 then (none) else (if x7.length < 17592186044416 then (impl_digitsOf.l0 k (wrap64 (Int.tdiv x0 x1)) x1 (x7 ++ [Int.tmod x0 x1]) x9 (wrap64 (x10 + 1))) else (none))) else (some x7)
def impl_digitsOf.f (k : Nat) (a0 : Int) (a1 : Int) (a2 : Int) : Option (List Int) := impl_digitsOf.l0 k a0 a1 (([] : List Int)) a2 0
theorem impl_digitsOf.mono_l : ∀ k, (∀ y0 y1 y2 y3 y4, LeO (impl_digitsOf.l0 k y0 y1 y2 y3 y4) (impl_digitsOf.l0 (k + 1) y0 y1 y2 y3 y4))
  | 0 => fun _ _ _ _ _ r h => by simp [impl_digitsOf.l0] at h
  | k + 1 => by
    have ih0 := impl_digitsOf.mono_l k
    · intro y0 y1 y2 y3 y4
      unfold impl_digitsOf.l0
      repeat' first | (with_reducible first | exact ih0 _ _ _ _ _ | exact LeO.refl _ | exact LeO.none _ | refine LeO.ite ?_ ?_ | refine LeO.bind ?_ (fun _ => ?_)) | exact ih0 _ _ _ _ _ | exact LeO.none _ | refine LeO.ite ?_ ?_ | refine LeO.bind ?_ (fun _ => ?_)
theorem impl_digitsOf.mono : ∀ a0 a1 a2 k, LeO (impl_digitsOf.f k a0 a1 a2) (impl_digitsOf.f (k + 1) a0 a1 a2) := by
  intro a0 a1 a2 k; have ih0 := impl_digitsOf.mono_l k
  unfold impl_digitsOf.f
  repeat' first
      | (with_reducible exact ih0 _ _ _ _ _)
      | (with_reducible exact LeO.refl _)
      | (with_reducible exact LeO.none _)
      | (with_reducible refine LeO.ite ?_ ?_)
      | (with_reducible refine LeO.bind ?_ (fun _ => ?_))
      | exact ih0 _ _ _ _ _
      | exact LeO.none _
      | refine LeO.ite ?_ ?_
      | refine LeO.bind ?_ (fun _ => ?_)
set_option maxHeartbeats 8000000 in
set_option maxRecDepth 100000 in
theorem impl_digitsOf.calls (k : Nat) (a0 : Int) (a1 : Int) (a2 : Int) (r : List Int) (w : World) (h : impl_digitsOf.f k a0 a1 a2 = some r) :
    Calls Try.prog 159 #[.int .i64 a0, .int .i64 a1, .int .i64 a2] w fun e w' => ∃ v0_ : Value, e = .returned (v0_) ∧ Kd.R (Kd.int .i64) 3 w' w.heap.size (fun _ => True) v0_ r ∧ Below w.heap.size w w' := by
  have HB := ak (Below.refl w.heap.size w); have H : (impl_digitsOf.l0 k a0 a1 (([] : List Int)) a2 0) = some r := h; clear h; obtain ⟨y283, hy283⟩ : ∃ y_ : List Int, y_ = (([] : List Int)) := ⟨_, rfl⟩; replace H : (impl_digitsOf.l0 k a0 a1 y283 a2 0) = some r := by first | (rw [hy283]; with_reducible exact H) | (have H2_ := (Option.bind_some _ _).symm.trans H; rw [hy283]; with_reducible exact H2_) | (have H2_ := (Option.bind_some _ _).symm.trans H; with_reducible exact H2_) | with_reducible exact H | (rw [hy283]; exact H) | exact H
  have Ny283 := ak hy283; clear hy283; have H' := ak H; clear H
  go_enter Try.func159, Try.ntmps159
  go_wp2_with (first | ((with_reducible refine gate_dst (N := 8) rfl ?_); refine Kd.R_lit (Kd.int .i64) _ 3 ?hg (N := 8) ?hd (xs := ([] : List Int)) (inner := []) (ok := fun _ => True) (okp := fun _ => True) ?hr ?hp (fun _ hk => hk) trivial (Below.refl _ _) (Nat.le_refl _) (by simp) ?_; (case hd => rfl); (case hg => rfl); (case hr => first | (go_simp; done) | (go_simp; rfl)); (case hp => exact (Reps.none _ _)); intro v284 w4 ho5 hb hg_ hnew_; clear hg_ hnew_; (first | rw [← Ny283.out] at ho5 | (simp only [Int.reduceToNat] at ho5; rw [← Ny283.out] at ho5)); have HO285 := ak (Kd.R_lower ho5 (below_size (bl_ HB.out))); replace HB := ak (below_step (bl_ HB.out) hb); clear hb ho5))
  go_loopg [0, 7, 10] k (fun kq v0 v7 v10 w' => ∃ (x0_1 : Int) (x7_1 : List Int) (x10_1 : Int), v0 = .int .i64 x0_1 ∧ v10 = .int .i64 x10_1 ∧ Aside0 (impl_digitsOf.l0 kq x0_1 a1 x7_1 a2 x10_1 = some r) ∧ Aside0 (kq ≤ k) ∧ Aside0 (Kd.R (Kd.int .i64) 3 w' w.heap.size (fun _ => True) v7 x7_1) ∧ Aside0 (Below w.heap.size w w'))
  case atStart => exact ⟨(a0), (y283), (0), (by first | rfl | (simp; done) | (simp [*]; done)), (by first | rfl | (simp; done) | (simp [*]; done)), H', ⟨Nat.le_refl _⟩, ⟨by (with_reducible repeat (first | apply Kd.R_alloc | apply Kd.R_drewN | apply Kd.R_drew)); exact HO285.out⟩, ⟨by repeat (first | (with_reducible first | exact HB.out | apply below_alloc | apply pw_below_drewN | apply below_drew1) | exact HB.out)⟩⟩
  case round =>
    clear H'; (try clear c1); (try clear p2); obtain ⟨x0_1, x7_1, x10_1, rfl, rfl, HA, HK1, HO_7, HB⟩ := hrel
    cases gk with
    | zero => exact absurd HA.out (by simp [impl_digitsOf.l0])
    | succ k1 =>
      have H := HA.out; clear HA
      simp only [impl_digitsOf.l0] at H
      by_cases c6 : x10_1 < a2
      · rw [if_pos c6] at H; have c6b0 := decide_eq_true c6; clear c6
        by_cases c7 : a1 = 0
        · rw [if_pos c7] at H; exact absurd H (by simp)
        rw [if_neg c7] at H; have c7b0 : (a1 == 0) = false := beq_eq_false_iff_ne.mpr c7; have c7b1 : (a1 != 0) = true := bne_iff_ne.mpr c7
        by_cases c8 : x7_1.length < 17592186044416
        · rw [if_pos c8] at H; have LMc8 := ak c8; clear c8; obtain ⟨y286, hy286⟩ : ∃ y_ : List Int, y_ = (x7_1 ++ [Int.tmod x0_1 a1]) := ⟨_, rfl⟩; replace H : (impl_digitsOf.l0 k1 (wrap64 (Int.tdiv x0_1 a1)) a1 y286 a2 (wrap64 (x10_1 + 1))) = some r := by first | (rw [hy286]; with_reducible exact H) | (have H2_ := (Option.bind_some _ _).symm.trans H; rw [hy286]; with_reducible exact H2_) | (have H2_ := (Option.bind_some _ _).symm.trans H; with_reducible exact H2_) | with_reducible exact H | (rw [hy286]; exact H) | exact H
          have Ny286 := ak hy286; clear hy286; have H' := ak H; clear H
          go_wp2_with (first | ((with_reducible refine gate_builtin (b := .append) (xs := #[.tmp 12, .tmp 16]) rfl ?_); at_builtin; refine Kd.R_append (Kd.int .i64) (w0 := w) w.heap.size rfl (.tmp 12) (.tmp 16) 75 3 (.int .i64 0) 8 rfl Try.underlying75 info3 rfl (by decide) (by omega) u7 x7_1 (Int.tmod x0_1 a1) [.int .i64 (Int.tmod x0_1 a1)] (fun _ => True) (fun _ => False) rfl rfl ?aP (fun _ hk => hk.elim) ?aF ?aO ?aB ?aS ?aL ?_; (case aP => exact rfl); (case aB => exact (bl_ HB.out)); (case aF => exact (fun _ _ => trivial)); (case aO => exact (ra_ HO_7.out)); (case aS => exact (below_size (bl_ HB.out))); (case aL => have := LMc8.out; omega); intro v287 w9 ho hb hg hat; rw [← Ny286.out] at ho; replace HB := ak (hb); have HO288 := ak (ho); clear HO_7; clear ho hb hg hat))
          go_roundg k1
          case measure => have := HK1.out; omega
          case rel => exact ⟨(wrap64 (Int.tdiv x0_1 a1)), (y286), (wrap64 (x10_1 + 1)), (by first | rfl | (simp; done) | (simp [*]; done)), (by first | rfl | (simp; done) | (simp [*]; done)), H', ⟨by have := HK1.out; omega⟩, ⟨by (with_reducible repeat (first | apply Kd.R_alloc | apply Kd.R_drewN | apply Kd.R_drew)); exact HO288.out⟩, ⟨by repeat (first | (with_reducible first | exact HB.out | apply below_alloc | apply pw_below_drewN | apply below_drew1) | exact HB.out)⟩⟩
        rw [if_neg c8] at H; exact absurd H (by simp)
      rw [if_neg c6] at H; have c6b0 := decide_eq_false c6; clear c6; obtain rfl := Option.some.inj H
      go_wp2
      go_ret
      exact ⟨_, by first | rfl | (simp [errW_none, errW_some] <;> rfl) | (simp [*, errW_none, errW_some] <;> rfl), by (with_reducible repeat (first | apply Kd.R_alloc | apply Kd.R_drewN | apply Kd.R_drew)); exact HO_7.out, by repeat (first | (with_reducible first | exact HB.out | apply below_alloc | apply pw_below_drewN | apply below_drew1) | exact HB.out)⟩

end Go.Proofs.Ytcboagkbcoihjaa.XRenamed
