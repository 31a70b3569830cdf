-- printed by a program of this session (xprint, turned from the kit's print) for this claim
import Derived.Test.YtejfjfhopapaaaaXDeepOfx0
import Derived.Test.YtejfjfhopapaaaaXDeepOfx6
namespace Go.Proofs.Ytejfjfhopapaaaa.XDeepOf
open Go.RowKit Go.Proofs.Ytejfjfhopapaaaa.XOpens Go.Proofs.YtejfjfhopapaaaaW.PrintWords Go.Proofs.YtejfjfhopapaaaaW.PrintLast Go.Proofs.YtejfjfhopapaaaaW.PrintMore
attribute [local go_sem] max2_int min2_int max_two min_two max_three min_three max_four min_four   -- for this text's walks alone
set_option linter.unusedVariables false
set_option linter.unusedSimpArgs false

/-! ### spec_DeepOf: function 71 -/
mutual
def spec_DeepOf.l0 : Nat → List (I_Step) → Int → List Int → Int → Option (Int)
  | 0, _, _, _, _ => none
  | k + 1, x0, x1, x5, x6 => if x6 ≤ x1 then (if 0 ≤ x6 then (if x6 < (x5.length : Int) then ((spec_l26On.f k x0 x6).bind fun t284 => (spec_DeepOf.l1 k x0 x1 (x5.set (x6 : Int).toNat 1) x6 t284 0)) else (none)) else (none)) else (if 0 ≤ x1 then (if x1 < (x5.length : Int) then (some (rd x5 x1)) else (none)) else (none))
def spec_DeepOf.l1 : Nat → List (I_Step) → Int → List Int → Int → List Int → Int → Option (Int)
  | 0, _, _, _, _, _, _ => none
  | k + 1, x0, x1, x5, x6, x7, x8 => if x8 < (x7.length : Int) then (if 0 ≤ x6 then (if x6 < (x5.length : Int) then (if 0 ≤ x8 then (if 0 ≤ (rd x7 x8) then (if (rd x7 x8) < (x5.length : Int) then ((spec_l1Max.f (rd x5 x6) (wrap64 ((rd x5 (rd x7 x8)) + 1))).bind fun t290 => (spec_DeepOf.l1 k x0 x1 (x5.set (x6 : Int).toNat t290) x6 x7 (wrap64 (x8 + 1)))) else (none)) else (none)) else (none)) else (none)) else (none)) else (spec_DeepOf.l0 k x0 x1 x5 (wrap64 (x6 + 1)))
end
def spec_DeepOf.f (k : Nat) (l0 : List (I_Step)) (a1 : Int) : Option (Int) := (spec_l1In.f a1 0 (wrap64 ((l0.length : Int) - 1))).bind fun t278 => (if t278 = true then (if 0 ≤ (wrap64 (a1 + 1)) then (if (wrap64 (a1 + 1) : Int).toNat ≤ 35184372088832 then (spec_DeepOf.l0 k l0 a1 (List.replicate (wrap64 (a1 + 1) : Int).toNat 0) 0) else (none)) else (none)) else (some 0))
theorem spec_DeepOf.mono_l : ∀ k, (∀ y0 y1 y2 y3, LeO (spec_DeepOf.l0 k y0 y1 y2 y3) (spec_DeepOf.l0 (k + 1) y0 y1 y2 y3)) ∧ (∀ y0 y1 y2 y3 y4 y5, LeO (spec_DeepOf.l1 k y0 y1 y2 y3 y4 y5) (spec_DeepOf.l1 (k + 1) y0 y1 y2 y3 y4 y5))
  | 0 => ⟨fun _ _ _ _ r h => by simp [spec_DeepOf.l0] at h, fun _ _ _ _ _ _ r h => by simp [spec_DeepOf.l1] at h⟩
  | k + 1 => by
    obtain ⟨ih0, ih1⟩ := spec_DeepOf.mono_l k; refine ⟨?_, ?_⟩
    · intro y0 y1 y2 y3
      unfold spec_DeepOf.l0
      repeat' first | (with_reducible first | exact ih0 _ _ _ _ | exact ih1 _ _ _ _ _ _ | exact spec_l26On.mono _ _ _ | exact LeO.refl _ | exact LeO.none _ | refine LeO.ite ?_ ?_ | refine LeO.bind ?_ (fun _ => ?_)) | exact ih0 _ _ _ _ | exact ih1 _ _ _ _ _ _ | exact spec_l26On.mono _ _ _ | exact LeO.none _ | refine LeO.ite ?_ ?_ | refine LeO.bind ?_ (fun _ => ?_)
    · intro y0 y1 y2 y3 y4 y5
      unfold spec_DeepOf.l1
      repeat' first | (with_reducible first | exact ih0 _ _ _ _ | exact ih1 _ _ _ _ _ _ | exact spec_l26On.mono _ _ _ | exact LeO.refl _ | exact LeO.none _ | refine LeO.ite ?_ ?_ | refine LeO.bind ?_ (fun _ => ?_)) | exact ih0 _ _ _ _ | exact ih1 _ _ _ _ _ _ | exact spec_l26On.mono _ _ _ | exact LeO.none _ | refine LeO.ite ?_ ?_ | refine LeO.bind ?_ (fun _ => ?_)
theorem spec_DeepOf.mono : ∀ a0 a1 k, LeO (spec_DeepOf.f k a0 a1) (spec_DeepOf.f (k + 1) a0 a1) := by
  intro a0 a1 k; obtain ⟨ih0, ih1⟩ := spec_DeepOf.mono_l k
  unfold spec_DeepOf.f
  repeat' first
      | (with_reducible exact ih0 _ _ _ _)
      | (with_reducible exact ih1 _ _ _ _ _ _)
      | (with_reducible exact spec_l26On.mono _ _ _)
      | (with_reducible exact LeO.refl _)
      | (with_reducible exact LeO.none _)
      | (with_reducible refine LeO.ite ?_ ?_)
      | (with_reducible refine LeO.bind ?_ (fun _ => ?_))
      | exact ih0 _ _ _ _
      | exact ih1 _ _ _ _ _ _
      | exact spec_l26On.mono _ _ _
      | exact LeO.none _
      | refine LeO.ite ?_ ?_
      | refine LeO.bind ?_ (fun _ => ?_)
def spec_DeepOf.T12 : Bool × List (List Nat × List Nat) := (true, [([], []), ([], []), ([], []), ([], []), ([2, 3], [2, 3]), ([4], [4]), ([], []), ([], []), ([], []), ([7, 8], [7, 8]), ([9], [9]), ([6, 10], [6, 10]), ([11], [11]), ([12], [12]), ([5, 13], [5, 13]), ([0, 1, 0, 1, 2, 3, 4, 5, 6, 7, 8, 9, 10, 11, 12, 13, 14], [0, 1]), ([15, 14, 14, 0, 1, 2, 3, 4, 5, 6, 7, 8, 9, 10, 11, 12, 13, 14], [14, 15])])
def spec_DeepOf.B12 : List Nat := [0, 0, 0, 0, 12, 28, 0, 0, 0, 384, 896, 1984, 4032, 8128, 16380, 32767, 65535]
theorem spec_DeepOf.tab12 : rtab .any (opsOf Try.f71 12) = spec_DeepOf.T12 := by kernel_rfl
theorem spec_DeepOf.bits12 : waitsOk spec_DeepOf.T12.2 spec_DeepOf.B12 = true := by kernel_rfl
set_option maxHeartbeats 8000000 in
set_option maxRecDepth 100000 in
theorem spec_DeepOf.calls (k : Nat) (A0 : Option Addr) (c0 : Nat) (l0 : List (I_Step)) (a1 : Int) (r : Int) (w : World) (hr0 : Kd.C k193 w A0 l0.length l0) (hc0 : l0.length ≤ c0) (h : spec_DeepOf.f k l0 a1 = some r) :
    Calls Try.prog 71 #[.slice A0 l0.length c0, .int .i64 a1] w fun e w' => e = .returned (.int .i64 r) ∧ Below w.heap.size w w' := by
  have HR0 := ak hr0; have HC0 := ak hc0; clear hr0 hc0; have HB := ak (Below.refl w.heap.size w); have H : ((spec_l1In.f a1 0 (wrap64 ((l0.length : Int) - 1))).bind fun t278 => (if t278 = true then (if 0 ≤ (wrap64 (a1 + 1)) then (if (wrap64 (a1 + 1) : Int).toNat ≤ 35184372088832 then (spec_DeepOf.l0 k l0 a1 (List.replicate (wrap64 (a1 + 1) : Int).toNat 0) 0) else (none)) else (none)) else (some 0))) = some r := h; clear h; replace H := Option.bind_eq_some_iff.mp H; obtain ⟨t278, A30, H⟩ := H; have A3 := ak A30; clear A30
  by_cases c4 : t278 = true
  · subst c4; rw [if_pos rfl] at H; obtain ⟨ji5, hji5⟩ : ∃ j_ : Int, (wrap64 (a1 + 1)) = j_ := ⟨_, rfl⟩; replace H : (if 0 ≤ (ji5) then (if (ji5 : Int).toNat ≤ 35184372088832 then (spec_DeepOf.l0 k l0 a1 (List.replicate (ji5 : Int).toNat 0) 0) else (none)) else (none)) = some r := by first | (rw [hji5] at H; exact H) | (simp only [hji5] at H ⊢; exact H)
    (try rw [hji5] at A3); have hji5w : (IntKind.i64.wrap (a1 + 1)) = ji5 := (i64_w _).trans hji5
    by_cases c6 : 0 ≤ (ji5)
    · rw [if_pos c6] at H; have c6b0 := eq_true c6; have c6b1 := decide_eq_true c6; clear c6
      by_cases c7 : (ji5 : Int).toNat ≤ 35184372088832
      · rw [if_pos c7] at H; have c7b0 := eq_true c7; have c7b1 := decide_eq_true c7; clear c7; obtain ⟨y279, hy279⟩ : ∃ y_ : List Int, y_ = (List.replicate (ji5 : Int).toNat 0) := ⟨_, rfl⟩; replace H : (spec_DeepOf.l0 k l0 a1 y279 0) = some r := by first | (rw [hy279]; with_reducible exact H) | (have H2_ := (Option.bind_some _ _).symm.trans H; rw [hy279]; with_reducible exact H2_) | (have H2_ := (Option.bind_some _ _).symm.trans H; with_reducible exact H2_) | with_reducible exact H | (rw [hy279]; exact H) | exact H
        have Ny279 := ak hy279; clear hy279; have H' := ak H; clear H
        go_enter Try.func71, Try.ntmps71
        go_wp2_with (first | ((with_reducible refine gate_callee (f := 136) rfl ?_); refine goesM_ (some 13) rfl rfl Try.func136 (by kernel_rfl) rfl #[.int .i64 a1, .int .i64 0, .int .i64 (wrap64 ((l0.length : Int) - 1))] rfl ?_; (with_reducible refine (spec_l1In.calls a1 0 (wrap64 ((l0.length : Int) - 1)) true _ A3.out).mono ?_); rintro e w' ⟨rfl, ⟨nd, rfl⟩⟩; refine ⟨_, rfl, ?_⟩) | ((with_reducible refine gate_dst (N := 17) rfl ?_); refine Kd.R_make (Kd.int .i64) _ 3 rfl (N := 17) rfl 52 _ _ rfl ji5 rfl rfl Try.underlying52 (.int .i64 0) 8 info3 rfl (by decide) (by omega) 0 (ok := fun _ => True) (okp := fun _ => True) rfl (fun _ hk => hk) trivial (as_) (Nat.le_trans (Nat.mul_le_mul_right _ (as_ : ji5.toNat ≤ 35184372088832)) (by omega)) (Below.refl _ _) (Nat.le_refl _) ?_; intro v280 w8 ho9 hb hg_ hnew_; clear hg_ hnew_; (first | rw [← Ny279.out] at ho9 | (simp only [Int.reduceToNat] at ho9; rw [← Ny279.out] at ho9)); have HO281 := ak (Kd.R_lower ho9 (below_size (bl_ HB.out))); replace HB := ak (below_step (bl_ HB.out) hb); clear hb ho9))
        go_loopg [6] k (fun kq v6 w' => ∃ (x5_1 : List Int) (x6_1 : Int), v6 = .int .i64 x6_1 ∧ Aside0 (spec_DeepOf.l0 kq l0 a1 x5_1 x6_1 = some r) ∧ Aside0 (kq ≤ k) ∧ Aside0 (Kd.R (Kd.int .i64) 3 w' w.heap.size (fun _ => True) v280 x5_1) ∧ Aside0 (Below w.heap.size w w'))
        case atStart => exact ⟨(y279), (0), (by first | rfl | (simp; done) | (simp [*]; done)), H', ⟨Nat.le_refl _⟩, ⟨by (with_reducible repeat (first | apply Kd.R_alloc | apply Kd.R_drewN | apply Kd.R_drew)); exact HO281.out⟩, ⟨by repeat (first | (with_reducible first | exact HB.out | apply below_alloc | apply pw_below_drewN | apply below_drew1) | exact HB.out)⟩⟩
        case round =>
          clear H'; (try clear c1); (try clear p2); (try clear c4); (try clear c6); (try clear c6b0); (try clear c6b1); (try clear p6); (try clear c7); (try clear c7b0); (try clear c7b1); obtain ⟨x5_1, x6_1, rfl, HA, HK1, HO_5, HB⟩ := hrel
          cases gk with
          | zero => exact absurd HA.out (by simp [spec_DeepOf.l0])
          | succ k1 =>
            have H := HA.out; clear HA
            simp only [spec_DeepOf.l0] at H
            by_cases c10 : x6_1 ≤ a1
            · rw [if_pos c10] at H; have c10b0 := decide_eq_true c10; clear c10
              by_cases c11 : 0 ≤ x6_1
              · rw [if_pos c11] at H; have c11b0 := decide_eq_true c11; clear c11
                by_cases c12 : x6_1 < (x5_1.length : Int)
                · rw [if_pos c12] at H; have c12b0 := decide_eq_true c12; clear c12; obtain ⟨y283, hy283⟩ : ∃ y_ : List Int, y_ = (x5_1.set (x6_1 : Int).toNat 1) := ⟨_, rfl⟩; replace H : ((spec_l26On.f k1 l0 x6_1).bind fun t284 => (spec_DeepOf.l1 k1 l0 a1 y283 x6_1 t284 0)) = some r := by first | (rw [hy283]; with_reducible exact H) | (have H2_ := (Option.bind_some _ _).symm.trans H; rw [hy283]; with_reducible exact H2_) | (have H2_ := (Option.bind_some _ _).symm.trans H; with_reducible exact H2_) | with_reducible exact H | (rw [hy283]; exact H) | exact H
                  have Ny283 := ak hy283; clear hy283; replace H := Option.bind_eq_some_iff.mp H; obtain ⟨t284, A140, H⟩ := H; have A14 := ak A140; clear A140; have H' := ak H; clear H; have p13 : 0 ≤ (x6_1 : Int) := as_; have q13 : (x6_1 : Int) < ((x5_1.length : Int) : Int) := as_; obtain ⟨go13, co13, eo13, gb13, gl13, cl13, HG13⟩ := Kd.R_form HO_5.out (by omega); (first | cases eo13 | (injection eo13 with ea_ en_ ec_; (first | subst ea_ | (injection ea_ with ea_; subst ea_)); subst ec_; clear en_)); have GB13 := ak gb13; have GG13 := ak HG13; clear gb13 gl13 HG13; obtain ⟨hx13_0, hf13_0⟩ := Kd.R_celln 0 HO_5.out (x6_1 : Int) p13 q13; replace p13 := eq_true p13; replace q13 := eq_true q13; have HP15 := Kd.R_putg HO_5.out (x6_1 : Int) 1
                  go_wp2_with (first | ((with_reducible refine gate_store (t := 3) (p := 25) rfl ?_); refine store_event (t := 3) (p := 25) (v := ?vo_w16) (w1 := (wr.setCell ⟨go13, (x6_1 : Int).toNat, none⟩ (.int .i64 1))) ?hg ?ho ?hn ?hr ?_; (case ho => rfl); (case hg => rfl); (case hn => rfl); (case hr => first | (go_simp; done) | (go_simp; rfl)); intro w16 hw; have hg : wr.grownBy w16 (some go13) := (by rw [hw]; exact HP15.2); have hp_ : Kd.R (Kd.int .i64) 3 w16 w.heap.size (fun _ => True) (.slice (some ⟨go13, 0, none⟩) x5_1.length co13) y283 := (by rw [hw, Ny283.out]; exact HP15.1); clear HP15; replace HO_5 := ak (hp_); replace HB := ak (by rw [hw]; exact below_set (HB.out) GB13.out : Below w.heap.size w w16); clear hg hw hp_) | ((with_reducible refine gate_callee (f := 167) rfl ?_); refine goesM_ (some 28) rfl rfl Try.func167 (by kernel_rfl) rfl #[.slice A0 l0.length c0, .int .i64 x6_1] rfl ?_; (with_reducible refine (spec_l26On.calls k1 _ _ l0 x6_1 t284 _ ?side1 ?side2 A14.out).mono ?_); (case side1 => exact cb_ HR0.out HB.out); (case side2 => exact HC0.out); rintro e w17 ⟨v285, rfl, ho0, hb⟩; refine ⟨_, rfl, ?_⟩; have HO286 := ak (Kd.R_lower (Kd.R_new' ho0 (Kd.R_lt (ra_ HO_5.out))) (below_size (bl_ HB.out))); replace HO_5 := ak (Kd.R_elder' (ra_ HO_5.out) (Kd.R_base ho0) hb); replace HB := ak (below_step (bl_ HB.out) hb); (try clear hb); (try clear hb2); (try clear hk); (try clear hi); (try clear ho0)))
                  go_loopg [8] k1 (fun kq v8 w' => ∃ (x5_2 : List Int) (x8_2 : Int), v8 = .int .i64 x8_2 ∧ Aside0 (spec_DeepOf.l1 kq l0 a1 x5_2 x6_1 t284 x8_2 = some r) ∧ Aside0 (kq ≤ k1) ∧ Aside0 (Kd.R (Kd.int .i64) 3 w' w.heap.size (fun k_ => some k_ ≠ (v285 : Value).ownBlock) (.slice (some ⟨go13, 0, none⟩) x5_1.length co13) x5_2) ∧ Aside0 (Kd.R (Kd.int .i64) 3 w' w.heap.size (fun k_ => some k_ ≠ ((.slice (some ⟨go13, 0, none⟩) x5_1.length co13) : Value).ownBlock) v285 t284) ∧ Aside0 (Below w.heap.size w w'))
                  case atStart => exact ⟨(y283), (0), (by first | rfl | (simp; done) | (simp [*]; done)), H', ⟨Nat.le_refl _⟩, ⟨by (with_reducible repeat (first | apply Kd.R_alloc | apply Kd.R_drewN | apply Kd.R_drew)); exact Kd.R_mono HO_5.out (fun _ hk => hk.2)⟩, ⟨by (with_reducible repeat (first | apply Kd.R_alloc | apply Kd.R_drewN | apply Kd.R_drew)); exact Kd.R_mono HO286.out (fun _ hk => hk.2)⟩, ⟨by repeat (first | (with_reducible first | exact HB.out | apply below_alloc | apply pw_below_drewN | apply below_drew1) | exact HB.out)⟩⟩
                  case round =>
                    clear H'; (try clear c1); (try clear p1); (try clear q1); (try clear hx1); (try clear p2); (try clear c4); (try clear c6); (try clear c6b0); (try clear c6b1); (try clear p6); (try clear c7); (try clear c7b0); (try clear c7b1); (try clear c10); (try clear c10b0); (try clear c11); (try clear c11b0); (try clear c12); (try clear c12b0); (try clear c13); (try clear p13); (try clear q13); (try clear hx13); (try clear hf13); (try clear c16); (try clear hx13_0); (try clear p13); (try clear p2); (try clear p6); (try clear q13); obtain ⟨x5_2, x8_2, rfl, HA, HK2, HO_5, HO_7, HB⟩ := hrel; have hl5_2 := (Kd.R_reads' HO_5.out).1; rw [hl5_2] at HO_5; (try simp only [hl5_2]); (try simp only [hl5_2] at HO_7)
                    cases gk with
                    | zero => exact absurd HA.out (by simp [spec_DeepOf.l1])
                    | succ k2 =>
                      have H := HA.out; clear HA
                      simp only [spec_DeepOf.l1] at H
                      by_cases c18 : x8_2 < (t284.length : Int)
                      · rw [if_pos c18] at H; (try simp only [hl5_2] at c18); have c18b0 := decide_eq_true c18; clear c18
                        by_cases c19 : 0 ≤ x6_1
                        · rw [if_pos c19] at H; (try simp only [hl5_2] at c19); have c19b0 := decide_eq_true c19; clear c19
                          by_cases c20 : x6_1 < (x5_2.length : Int)
                          · rw [if_pos c20] at H; (try simp only [hl5_2] at c20); have c20b0 := decide_eq_true c20; clear c20
                            by_cases c21 : 0 ≤ x8_2
                            · rw [if_pos c21] at H; (try simp only [hl5_2] at c21); have c21b0 := decide_eq_true c21; clear c21
                              by_cases c22 : 0 ≤ (rd t284 x8_2)
                              · rw [if_pos c22] at H; (try simp only [hl5_2] at c22); have c22b0 := decide_eq_true c22; clear c22
                                by_cases c23 : (rd t284 x8_2) < (x5_2.length : Int)
                                · rw [if_pos c23] at H; (try simp only [hl5_2] at c23); have c23b0 := decide_eq_true c23; clear c23; replace H := Option.bind_eq_some_iff.mp H; obtain ⟨t290, A240, H⟩ := H; have A24 := ak A240; clear A240; obtain ⟨y291, hy291⟩ : ∃ y_ : List Int, y_ = (x5_2.set (x6_1 : Int).toNat t290) := ⟨_, rfl⟩; replace H : (spec_DeepOf.l1 k2 l0 a1 y291 x6_1 t284 (wrap64 (x8_2 + 1))) = some r := by first | (rw [hy291]; with_reducible exact H) | (have H2_ := (Option.bind_some _ _).symm.trans H; rw [hy291]; with_reducible exact H2_) | (have H2_ := (Option.bind_some _ _).symm.trans H; with_reducible exact H2_) | with_reducible exact H | (rw [hy291]; exact H) | exact H
                                  have Ny291 := ak hy291; clear hy291; have H' := ak H; clear H; obtain ⟨Ao26, co26, eo26⟩ := Kd.R_slice HO_7.out; subst eo26
                                  try go_wp2
                                  replace HO_5 := ak (Kd.R_drew HO_5.out); replace HO_7 := ak (Kd.R_drew HO_7.out); replace HB := ak (below_drew1 HB.out); have p287 : 0 ≤ (x6_1 : Int) := as_; have q287 : x6_1 < (x5_2.length : Int) := as_; obtain ⟨ad287, e287, hx287_0⟩ := Kd.at_int (Kd.R_reads' HO_5.out).2.2 x6_1 p287 q287; obtain rfl : (⟨go13, 0, none⟩ : Addr) = ad287 := (by injection e287); (first | simp only [add_plain] at hx287_0 | simp only [add_at] at hx287_0 | simp only [Addr.add, Nat.zero_add] at hx287_0 | skip); replace p287 := eq_true p287; replace q287 := eq_true q287; have p288 : 0 ≤ (x8_2 : Int) := as_; have q288 : x8_2 < (t284.length : Int) := as_; obtain ⟨ad288, e288, hx288_0⟩ := Kd.at_int (Kd.R_reads' HO_7.out).2.2 x8_2 p288 q288
                                  cases e288
                                  replace p288 := eq_true p288; replace q288 := eq_true q288; have p289 : 0 ≤ ((rd t284 x8_2) : Int) := as_; have q289 : (rd t284 x8_2) < (x5_2.length : Int) := as_; obtain ⟨ad289, e289, hx289_0⟩ := Kd.at_int (Kd.R_reads' HO_5.out).2.2 (rd t284 x8_2) p289 q289; obtain rfl : (⟨go13, 0, none⟩ : Addr) = ad289 := (by injection e289); (first | simp only [add_plain] at hx289_0 | simp only [add_at] at hx289_0 | simp only [Addr.add, Nat.zero_add] at hx289_0 | skip); replace p289 := eq_true p289; replace q289 := eq_true q289; refine start_ (n := 17) (S := fun w' => w'.cell? ⟨go13, (x6_1).toNat, none⟩ = some (.int .i64 (rd x5_2 x6_1)) ∧ w'.cell? (ad288.add (x8_2).toNat) = some (.int .i64 (rd t284 x8_2)) ∧ w'.cell? ⟨go13, ((rd t284 x8_2)).toNat, none⟩ = some (.int .i64 (rd x5_2 (rd t284 x8_2)))) (ds := [16]) (bm 17 0) (by kernel_rfl) rfl (by kernel_rfl) ⟨hx287_0, hx288_0, hx289_0⟩ (fun hHeld => ?_); refine with_tabW spec_DeepOf.tab12 spec_DeepOf.bits12 (fun HT_ HW_ => ?_)
                                  generalize wr.drew = w27 at HO_5 HO_7 HB hx287_0 hx288_0 hx289_0 hHeld ⊢
                                  refine pv_ 0 ?_; refine pv_ 1 ?_; refine pv_ 2 ?_; refine pv_ 3 ?_; refine pv_ 4 ?_; refine pv_ 6 ?_; refine pv_ 7 ?_; refine pv_ 8 ?_; refine pv_ 9 ?_; refine tv_ 5 hHeld ?_; refine tv_ 10 hHeld ?_; refine pv_ 11 ?_; refine tv_ 12 hHeld ?_; refine pv_ 13 ?_; refine one_ (i := 14) (N := some 49) (bm 17 32767) rfl rfl (one_of HT_.out (by kernel_rfl)) (by decide) (fun K hK => ?_); refine goesB_ Try.func127 (by kernel_rfl) rfl #[.int .i64 (rd x5_2 x6_1), .int .i64 (wrap64 ((rd x5_2 (rd t284 x8_2)) + 1))] (by rfl) rfl rfl ?_
                                  with_reducible refine (spec_l1Max.calls (rd x5_2 x6_1) (wrap64 ((rd x5_2 (rd t284 x8_2)) + 1)) t290 _ A24.out).mono ?_
                                  rintro e w' ⟨rfl, ⟨nd, rfl⟩⟩; refine ⟨_, rfl, ?_⟩; have p25 : 0 ≤ (x6_1 : Int) := as_; have q25 : (x6_1 : Int) < ((x5_2.length : Int) : Int) := as_; obtain ⟨hx25_0, hf25_0⟩ := Kd.R_celln 0 HO_5.out (x6_1 : Int) p25 q25; replace p25 := eq_true p25; replace q25 := eq_true q25; have HP28 := Kd.R_putn HO_5.out (x6_1 : Int) t290; rw [← Ny291.out] at HP28; have HQ28 := ak HP28; clear HP28; refine hK.out _ _ ⟨hHeld.1, hHeld.2.1, hHeld.2.2⟩ (fun hHeld => ?_); clear hK K; refine norm_ (a' := ?_) ?_ ?_
                                  rotate_left
                                  · show Act.put _ (some 49) _ = _
                                    simp only [Act.put, List.setIfInBounds_toArray, List.set_cons_zero, List.set_cons_succ, i64_w, i32_w]
                                    rfl
                                  refine pv_ 15 ?_; refine last_ (i := 16) (N := none) #[true, true, true, true, true, true, true, true, true, true, true, true, true, true, true, true, true] rfl rfl (one_of HT_.out (by kernel_rfl)) (by decide) (fun K hK => ?_); refine skip_ (w1 := ?_) (by rfl) rfl ?_ ?_
                                  rotate_left
                                  · go_simp
                                    rfl
                                  refine hK.out _ _ ?_; clear hK K; refine done_ (done_of HT_.out (by kernel_rfl)) ?_
                                  try go_wp2
                                  (try simp only [← hl5_2])
                                  go_roundg k2
                                  case measure => have := HK1.out; have := HK2.out; omega
                                  case rel => exact ⟨(y291), (wrap64 (x8_2 + 1)), (by first | rfl | (simp; done) | (simp [*]; done)), H', ⟨by have := HK1.out; have := HK2.out; omega⟩, ⟨by (try simp only [hl5_2]); (with_reducible repeat (first | apply Kd.R_alloc | apply Kd.R_drewN | apply Kd.R_drew)); exact HQ28.out⟩, ⟨by (try simp only [hl5_2]); (with_reducible repeat (first | apply Kd.R_alloc | apply Kd.R_drewN | apply Kd.R_drew)); exact Kd.R_mono (Kd.R_far (p := ⟨go13, (x6_1 : Int).toNat, none⟩) (Kd.R_mono HO_7.out (fun k_ hk => (⟨hk, fun e_ => hk (by rw [e_]; rfl)⟩ : _ ∧ k_ ≠ go13))) (fun _ hk => hk.2) (.int .i64 t290)) (fun _ hk => hk.1)⟩, ⟨by repeat (first | (with_reducible first | exact HB.out | apply below_alloc | apply pw_below_drewN | apply below_drew1 | refine below_set ?_ GB13.out) | exact HB.out)⟩⟩
                                rw [if_neg c23] at H; (try simp only [hl5_2] at c23); exact absurd H (by simp)
                              rw [if_neg c22] at H; (try simp only [hl5_2] at c22); exact absurd H (by simp)
                            rw [if_neg c21] at H; (try simp only [hl5_2] at c21); exact absurd H (by simp)
                          rw [if_neg c20] at H; (try simp only [hl5_2] at c20); exact absurd H (by simp)
                        rw [if_neg c19] at H; (try simp only [hl5_2] at c19); exact absurd H (by simp)
                      rw [if_neg c18] at H; (try simp only [hl5_2] at c18); have c18b0 := decide_eq_false c18; clear c18; have H' := ak H; clear H; obtain ⟨Ao29, co29, eo29⟩ := Kd.R_slice HO_7.out; subst eo29
                      go_wp2
                      (try simp only [← hl5_2])
                      go_roundg k2
                      case measure => have := HK1.out; have := HK2.out; omega
                      case rel => exact ⟨(x5_2), (wrap64 (x6_1 + 1)), (by first | rfl | (simp; done) | (simp [*]; done)), H', ⟨by have := HK1.out; have := HK2.out; omega⟩, ⟨by (try simp only [hl5_2]); (with_reducible repeat (first | apply Kd.R_alloc | apply Kd.R_drewN | apply Kd.R_drew)); exact Kd.R_mono HO_5.out (fun _ hk => trivial)⟩, ⟨by repeat (first | (with_reducible first | exact HB.out | apply below_alloc | apply pw_below_drewN | apply below_drew1) | exact HB.out)⟩⟩
                rw [if_neg c12] at H; exact absurd H (by simp)
              rw [if_neg c11] at H; exact absurd H (by simp)
            rw [if_neg c10] at H; have c10b0 := decide_eq_false c10; clear c10
            by_cases c30 : 0 ≤ a1
            · rw [if_pos c30] at H; have c30b0 := decide_eq_true c30; clear c30
              by_cases c31 : a1 < (x5_1.length : Int)
              · rw [if_pos c31] at H; have c31b0 := decide_eq_true c31; clear c31; obtain rfl := Option.some.inj H; obtain ⟨Ao32, co32, eo32⟩ := Kd.R_slice HO_5.out; subst eo32; have p282 : 0 ≤ (a1 : Int) := as_; have q282 : a1 < (x5_1.length : Int) := as_; obtain ⟨ad282, e282, hx282_0⟩ := Kd.at_int (Kd.R_reads' HO_5.out).2.2 a1 p282 q282
                cases e282
                replace p282 := eq_true p282; replace q282 := eq_true q282
                go_wp2
                go_ret
                exact ⟨by first | rfl | (simp [errW_none, errW_some] <;> rfl) | (simp only [← hji5]; first | rfl | (simp [errW_none, errW_some] <;> rfl)) | (simp [*, errW_none, errW_some] <;> rfl), by repeat (first | (with_reducible first | exact HB.out | apply below_alloc | apply pw_below_drewN | apply below_drew1) | exact HB.out)⟩
              rw [if_neg c31] at H; exact absurd H (by simp)
            rw [if_neg c30] at H; exact absurd H (by simp)
      rw [if_neg c7] at H; exact absurd H (by simp)
    rw [if_neg c6] at H; exact absurd H (by simp)
  replace c4 := Bool.eq_false_iff.mpr c4; subst c4; rw [if_neg (show ¬ (false = true) by decide)] at H; obtain rfl := Option.some.inj H
  go_enter Try.func71, Try.ntmps71
  go_wp2_with (first | ((with_reducible refine gate_callee (f := 136) rfl ?_); refine goesM_ (some 13) rfl rfl Try.func136 (by kernel_rfl) rfl #[.int .i64 a1, .int .i64 0, .int .i64 (wrap64 ((l0.length : Int) - 1))] rfl ?_; (with_reducible refine (spec_l1In.calls a1 0 (wrap64 ((l0.length : Int) - 1)) false _ A3.out).mono ?_); rintro e w' ⟨rfl, ⟨nd, rfl⟩⟩; refine ⟨_, rfl, ?_⟩))
  go_ret
  exact fin_ (bl_ HB.out)

/-! ### impl_from: function 134 -/
def impl_from.f (a0 : Int) (a1 : Int) (a2 : Int) : Option (Bool) := if a0 ≥ a1 then (some (decide (a0 ≤ a2))) else (some false)
set_option maxHeartbeats 8000000 in
set_option maxRecDepth 100000 in
theorem impl_from.calls (a0 : Int) (a1 : Int) (a2 : Int) (r : Bool) (w : World) (h : impl_from.f a0 a1 a2 = some r) :
    Calls Try.prog 134 #[.int .i64 a0, .int .i64 a1, .int .i64 a2] w fun e w' => e = .returned (.bool r) ∧ Drawn0 w w' := by
  have H : (if a0 ≥ a1 then (some (decide (a0 ≤ a2))) else (some false)) = some r := h; clear h
  by_cases c4 : a0 ≥ a1
  · rw [if_pos c4] at H; have c4b0 := decide_eq_true c4; clear c4; obtain rfl := Option.some.inj H
    go_enter Try.func134, Try.ntmps134
    go_wp2
    go_ret
    exact ⟨by first | rfl | (simp; done) | (simp [*]; done), by repeat (first | exact Drawn0.refl _ | apply Drawn0.step)⟩
  rw [if_neg c4] at H; have c4b0 := decide_eq_false c4; clear c4; obtain rfl := Option.some.inj H
  go_enter Try.func134, Try.ntmps134
  go_wp2
  go_ret
  exact ⟨by first | rfl | (simp; done) | (simp [*]; done), by repeat (first | exact Drawn0.refl _ | apply Drawn0.step)⟩

/-! ### slices_Index_int_int: function 131 -/
def slices_Index_int_int.l0 : Nat → List Int → Int → Int → Int → Option (Int)
  | 0, _, _, _, _ => none
  | k + 1, x0, x1, x7, x8 => if x8 < x7 then (if 0 ≤ x8 then (if x8 < (x0.length : Int) then (if x1 = (rd x0 x8) then (some x8) else (slices_Index_int_int.l0 k x0 x1 x7 (wrap64 (x8 + 1)))) else (none)) else (none)) else (some (-1))
def slices_Index_int_int.f (k : Nat) (l0 : List Int) (a1 : Int) : Option (Int) := slices_Index_int_int.l0 k l0 a1 (l0.length : Int) 0
theorem slices_Index_int_int.mono_l : ∀ k, (∀ y0 y1 y2 y3, LeO (slices_Index_int_int.l0 k y0 y1 y2 y3) (slices_Index_int_int.l0 (k + 1) y0 y1 y2 y3))
  | 0 => fun _ _ _ _ r h => by simp [slices_Index_int_int.l0] at h
  | k + 1 => by
    have ih0 := slices_Index_int_int.mono_l k
    · intro y0 y1 y2 y3
      unfold slices_Index_int_int.l0
      repeat' first | (with_reducible first | exact ih0 _ _ _ _ | exact LeO.refl _ | exact LeO.none _ | refine LeO.ite ?_ ?_ | refine LeO.bind ?_ (fun _ => ?_)) | exact ih0 _ _ _ _ | exact LeO.none _ | refine LeO.ite ?_ ?_ | refine LeO.bind ?_ (fun _ => ?_)
theorem slices_Index_int_int.mono : ∀ a0 a1 k, LeO (slices_Index_int_int.f k a0 a1) (slices_Index_int_int.f (k + 1) a0 a1) := by
  intro a0 a1 k; have ih0 := slices_Index_int_int.mono_l k
  unfold slices_Index_int_int.f
  repeat' first
      | (with_reducible exact ih0 _ _ _ _)
      | (with_reducible exact LeO.refl _)
      | (with_reducible exact LeO.none _)
      | (with_reducible refine LeO.ite ?_ ?_)
      | (with_reducible refine LeO.bind ?_ (fun _ => ?_))
      | exact ih0 _ _ _ _
      | exact LeO.none _
      | refine LeO.ite ?_ ?_
      | refine LeO.bind ?_ (fun _ => ?_)
set_option maxHeartbeats 8000000 in
set_option maxRecDepth 100000 in
theorem slices_Index_int_int.calls (k : Nat) (A0 : Option Addr) (c0 : Nat) (l0 : List Int) (a1 : Int) (r : Int) (w : World) (hr0 : Kd.C (Kd.int .i64) w A0 l0.length l0) (hc0 : l0.length ≤ c0) (h : slices_Index_int_int.f k l0 a1 = some r) :
    Calls Try.prog 131 #[.slice A0 l0.length c0, .int .i64 a1] w fun e w' => e = .returned (.int .i64 r) ∧ Drawn0 w w' := by
  have HR0 := ak hr0; have HC0 := ak hc0; clear hr0 hc0; have H : (slices_Index_int_int.l0 k l0 a1 (l0.length : Int) 0) = some r := h; clear h; have H' := ak H; clear H
  go_enter Try.func131, Try.ntmps131
  go_wp2
  go_loopg [8] k (fun kq v8 w' => ∃ (x8_1 : Int), v8 = .int .i64 x8_1 ∧ Aside0 (slices_Index_int_int.l0 kq l0 a1 (l0.length : Int) x8_1 = some r) ∧ Aside0 (kq ≤ k) ∧ Drawn0 w w')
  case atStart => exact ⟨(0), (by first | rfl | (simp; done) | (simp [*]; done)), H', ⟨Nat.le_refl _⟩, by repeat (first | exact Drawn0.refl _ | apply Drawn0.step)⟩
  case round =>
    clear H'; (try clear c1); (try clear p2); obtain ⟨x8_1, rfl, HA, HK1, ⟨m1, rfl⟩⟩ := hrel
    cases gk with
    | zero => exact absurd HA.out (by simp [slices_Index_int_int.l0])
    | succ k1 =>
      have H := HA.out; clear HA
      simp only [slices_Index_int_int.l0] at H
      by_cases c3 : x8_1 < (l0.length : Int)
      · rw [if_pos c3] at H; have c3b0 := decide_eq_true c3; clear c3
        by_cases c4 : 0 ≤ x8_1
        · rw [if_pos c4] at H; have c4b0 := decide_eq_true c4; clear c4
          by_cases c5 : x8_1 < (l0.length : Int)
          · rw [if_pos c5] at H; have c5b0 := decide_eq_true c5; clear c5
            by_cases c6 : a1 = (rd l0 x8_1)
            · rw [if_pos c6] at H; have c6b0 : (a1 == (rd l0 x8_1)) = true := beq_iff_eq.mpr c6; have c6b1 : (a1 != (rd l0 x8_1)) = false := bne_eq_false_iff_eq.mpr c6; clear c6; obtain rfl := Option.some.inj H; have p292 : 0 ≤ (x8_1 : Int) := as_; have q292 : x8_1 < (l0.length : Int) := as_; obtain ⟨ad292, e292, hx292_0⟩ := Kd.at_int HR0.out x8_1 p292 q292
              cases e292
              replace p292 := eq_true p292; replace q292 := eq_true q292
              go_wp2
              go_ret
              exact ⟨by first | rfl | (simp; done) | (simp [*]; done), by repeat (first | exact Drawn0.refl _ | apply Drawn0.step)⟩
            rw [if_neg c6] at H; have c6b0 : (a1 == (rd l0 x8_1)) = false := beq_eq_false_iff_ne.mpr c6; have c6b1 : (a1 != (rd l0 x8_1)) = true := bne_iff_ne.mpr c6; have H' := ak H; clear H; have p292 : 0 ≤ (x8_1 : Int) := as_; have q292 : x8_1 < (l0.length : Int) := as_; obtain ⟨ad292, e292, hx292_0⟩ := Kd.at_int HR0.out x8_1 p292 q292
            cases e292
            replace p292 := eq_true p292; replace q292 := eq_true q292
            go_wp2
            go_roundg k1
            case measure => have := HK1.out; omega
            case rel => exact ⟨(wrap64 (x8_1 + 1)), (by first | rfl | (simp; done) | (simp [*]; done)), H', ⟨by have := HK1.out; omega⟩, by repeat (first | exact Drawn0.refl _ | apply Drawn0.step)⟩
          rw [if_neg c5] at H; exact absurd H (by simp)
        rw [if_neg c4] at H; exact absurd H (by simp)
      rw [if_neg c3] at H; have c3b0 := decide_eq_false c3; clear c3; obtain rfl := Option.some.inj H
      go_wp2
      go_ret
      exact ⟨by first | rfl | (simp; done) | (simp [*]; done), by repeat (first | exact Drawn0.refl _ | apply Drawn0.step)⟩

/-! ### slices_Contains_int_int: function 128 -/
def slices_Contains_int_int.f (k : Nat) (l0 : List Int) (a1 : Int) : Option (Bool) := (slices_Index_int_int.f k l0 a1).bind fun t293 => (some (decide (t293 ≥ 0)))
theorem slices_Contains_int_int.mono : ∀ a0 a1 k, LeO (slices_Contains_int_int.f k a0 a1) (slices_Contains_int_int.f (k + 1) a0 a1) := by
  intro a0 a1 k
  unfold slices_Contains_int_int.f
  repeat' first
      | (with_reducible exact slices_Index_int_int.mono _ _ _)
      | (with_reducible exact LeO.refl _)
      | (with_reducible exact LeO.none _)
      | (with_reducible refine LeO.ite ?_ ?_)
      | (with_reducible refine LeO.bind ?_ (fun _ => ?_))
      | exact slices_Index_int_int.mono _ _ _
      | exact LeO.none _
      | refine LeO.ite ?_ ?_
      | refine LeO.bind ?_ (fun _ => ?_)
set_option maxHeartbeats 8000000 in
set_option maxRecDepth 100000 in
theorem slices_Contains_int_int.calls (k : Nat) (A0 : Option Addr) (c0 : Nat) (l0 : List Int) (a1 : Int) (r : Bool) (w : World) (hr0 : Kd.C (Kd.int .i64) w A0 l0.length l0) (hc0 : l0.length ≤ c0) (h : slices_Contains_int_int.f k l0 a1 = some r) :
    Calls Try.prog 128 #[.slice A0 l0.length c0, .int .i64 a1] w fun e w' => e = .returned (.bool r) ∧ Drawn0 w w' := by
  have HR0 := ak hr0; have HC0 := ak hc0; clear hr0 hc0; have H : ((slices_Index_int_int.f k l0 a1).bind fun t293 => (some (decide (t293 ≥ 0)))) = some r := h; clear h; replace H := Option.bind_eq_some_iff.mp H; obtain ⟨t293, A30, H⟩ := H; have A3 := ak A30; clear A30; obtain rfl := Option.some.inj H
  go_enter Try.func128, Try.ntmps128
  go_wp2_with (first | ((with_reducible refine gate_callee (f := 131) rfl ?_); refine goesM_ (some 7) rfl rfl Try.func131 (by kernel_rfl) rfl #[.slice A0 l0.length c0, .int .i64 a1] rfl ?_; (with_reducible refine (slices_Index_int_int.calls k _ _ l0 a1 t293 _ ?side1 ?side2 A3.out).mono ?_); (case side1 => exact ca_ HR0.out); (case side2 => exact HC0.out); rintro e w' ⟨rfl, ⟨nd, rfl⟩⟩; refine ⟨_, rfl, ?_⟩))
  go_ret
  exact ⟨by first | rfl | (simp; done) | (simp [*]; done), by repeat (first | exact Drawn0.refl _ | apply Drawn0.step)⟩

/-! ### impl_NumIn: function 169 -/
def impl_NumIn.f (k : Nat) (l0 : List Int) (a1 : Int) : Option (Bool) := (slices_Contains_int_int.f k l0 a1).bind fun t294 => (some t294)
theorem impl_NumIn.mono : ∀ a0 a1 k, LeO (impl_NumIn.f k a0 a1) (impl_NumIn.f (k + 1) a0 a1) := by
  intro a0 a1 k
  unfold impl_NumIn.f
  repeat' first
      | (with_reducible exact slices_Contains_int_int.mono _ _ _)
      | (with_reducible exact LeO.refl _)
      | (with_reducible exact LeO.none _)
      | (with_reducible refine LeO.ite ?_ ?_)
      | (with_reducible refine LeO.bind ?_ (fun _ => ?_))
      | exact slices_Contains_int_int.mono _ _ _
      | exact LeO.none _
      | refine LeO.ite ?_ ?_
      | refine LeO.bind ?_ (fun _ => ?_)
set_option maxHeartbeats 8000000 in
set_option maxRecDepth 100000 in
theorem impl_NumIn.calls (k : Nat) (A0 : Option Addr) (c0 : Nat) (l0 : List Int) (a1 : Int) (r : Bool) (w : World) (hr0 : Kd.C (Kd.int .i64) w A0 l0.length l0) (hc0 : l0.length ≤ c0) (h : impl_NumIn.f k l0 a1 = some r) :
    Calls Try.prog 169 #[.slice A0 l0.length c0, .int .i64 a1] w fun e w' => e = .returned (.bool r) ∧ Drawn0 w w' := by
  have HR0 := ak hr0; have HC0 := ak hc0; clear hr0 hc0; have H : ((slices_Contains_int_int.f k l0 a1).bind fun t294 => (some t294)) = some r := h; clear h; replace H := Option.bind_eq_some_iff.mp H; obtain ⟨t294, A30, H⟩ := H; have A3 := ak A30; clear A30; obtain rfl := Option.some.inj H
  go_enter Try.func169, Try.ntmps169
  go_wp2_with (first | ((with_reducible refine gate_callee (f := 128) rfl ?_); refine goesM_ (some 7) rfl rfl Try.func128 (by kernel_rfl) rfl #[.slice A0 l0.length c0, .int .i64 a1] rfl ?_; (with_reducible refine (slices_Contains_int_int.calls k _ _ l0 a1 t294 _ ?side1 ?side2 A3.out).mono ?_); (case side1 => exact ca_ HR0.out); (case side2 => exact HC0.out); rintro e w' ⟨rfl, ⟨nd, rfl⟩⟩; refine ⟨_, rfl, ?_⟩))
  go_ret
  exact ⟨by first | rfl | (simp; done) | (simp [*]; done), by repeat (first | exact Drawn0.refl _ | apply Drawn0.step)⟩

/-! ### slices_Clone_int_int: function 260 -/
def slices_Clone_int_int.f (l0 : List Int) : Option (List Int) := (some (([] : List Int) : List Int)).bind fun y295 => (if y295.length + l0.length < 17592186044416 then (some (y295 ++ l0)) else (none))
set_option maxHeartbeats 8000000 in
set_option maxRecDepth 100000 in
theorem slices_Clone_int_int.calls (A0 : Option Addr) (c0 : Nat) (l0 : List Int) (r : List Int) (w : World) (hr0 : Kd.C (Kd.int .i64) w A0 l0.length l0) (hc0 : l0.length ≤ c0) (h : slices_Clone_int_int.f l0 = some r) :
    Calls Try.prog 260 #[.slice A0 l0.length c0] w fun e w' => ∃ v0_ : Value, e = .returned (v0_) ∧ Kd.R (Kd.int .i64) 3 w' w.heap.size (fun _ => True) v0_ r ∧ Below w.heap.size w w' := by
  cases A0 with
  | none =>
    have hl0 : l0 = [] := by
      rcases l0 with _ | ⟨y, ys⟩
      · rfl
      · obtain ⟨ad, _, h0, _⟩ := ReadsRow.get_ hr0 y 0 (by omega) (by simp only [List.length_cons]; omega)
        cases h0
    subst hl0
    have hr : r = [] := by
      unfold slices_Clone_int_int.f at h
      first | (simp at h; exact h.symm) | (simp at h; exact h) | (have := Option.some.inj h; exact this.symm)
    subst hr
    have hnil := fun (w : World) => Go.Lib.run_eql_slice_nil (P := Try.prog) w 52 3 none 0 c0 0 0 Try.underlying52
    go_enter Try.func260, Try.ntmps260
    go_wp2
    go_ret
    exact ⟨_, rfl, Kd.R_nil _ _ _ _ _, Below.refl _ _⟩
  | some a0_ =>
  have HR0 := ak hr0; have HC0 := ak hc0; clear hr0 hc0; have HB := ak (Below.refl w.heap.size w); have H : ((some (([] : List Int) : List Int)).bind fun y295 => (if y295.length + l0.length < 17592186044416 then (some (y295 ++ l0)) else (none))) = some r := h; clear h; obtain ⟨y295, hy295⟩ : ∃ y_ : List Int, y_ = (([] : List Int)) := ⟨_, rfl⟩; replace H : (if y295.length + l0.length < 17592186044416 then (some (y295 ++ l0)) else (none)) = some r := by first | (rw [hy295]; with_reducible exact H) | (have H2_ := (Option.bind_some _ _).symm.trans H; rw [hy295]; with_reducible exact H2_) | (have H2_ := (Option.bind_some _ _).symm.trans H; with_reducible exact H2_) | with_reducible exact H | (rw [hy295]; exact H) | exact H
  have Ny295 := ak hy295; clear hy295
  by_cases c2 : y295.length + l0.length < 17592186044416
  · rw [if_pos c2] at H; have LMc2 := ak c2; clear c2; obtain ⟨y298, hy298⟩ : ∃ y_ : List Int, y_ = (y295 ++ l0) := ⟨_, rfl⟩; replace H : (some y298) = some r := by first | (rw [hy298]; with_reducible exact H) | (have H2_ := (Option.bind_some _ _).symm.trans H; rw [hy298]; with_reducible exact H2_) | (have H2_ := (Option.bind_some _ _).symm.trans H; with_reducible exact H2_) | with_reducible exact H | (rw [hy298]; exact H) | exact H
    have Ny298 := ak hy298; clear hy298; obtain rfl := Option.some.inj H
    have hnil := fun (w : World) => Go.Lib.run_eql_slice_nil (P := Try.prog) w 52 3 (some a0_) l0.length c0 0 0 Try.underlying52
    go_enter Try.func260, Try.ntmps260
    go_wp2_with (first | ((with_reducible refine gate_dst (N := 5) rfl ?_); refine Kd.R_lit (Kd.int .i64) _ 3 ?hg (N := 5) ?hd (xs := ([] : List Int)) (inner := []) (ok := fun _ => True) (okp := fun _ => True) ?hr ?hp (fun _ hk => hk) trivial (Below.refl _ _) (Nat.le_refl _) (by simp) ?_; (case hd => rfl); (case hg => rfl); (case hr => first | (go_simp; done) | (go_simp; rfl)); (case hp => exact (Reps.none _ _)); intro v296 w3 ho4 hb hg_ hnew_; clear hg_ hnew_; (first | rw [← Ny295.out] at ho4 | (simp only [Int.reduceToNat] at ho4; rw [← Ny295.out] at ho4)); have HO297 := ak (Kd.R_lower ho4 (below_size (bl_ HB.out))); replace HB := ak (below_step (bl_ HB.out) hb); clear hb ho4) | ((with_reducible refine gate_builtin (b := .append) (xs := #[.tmp 5, .tmp 6]) rfl ?_); at_builtin; refine Kd.R_append_rows (Kd.int .i64) (w0 := w) w.heap.size rfl (.tmp 5) (.tmp 6) 52 3 (.int .i64 0) 8 rfl Try.underlying52 info3 rfl (by decide) (by omega) v296 y295 l0 _ _ _ (fun _ => True) (fun _ => False) rfl rfl ?aO ?aR (fun _ _ h => h) (fun _ h => h.elim) ?aF ?aB ?aS ?aL ?_; (case aR => repeat (first | exact (Kd.C_below HR0.out HB.out) | (with_reducible refine Kd.C_alloc ?_ _) | (with_reducible refine Kd.C_drewN ?_ _) | (with_reducible refine Kd.C_drew ?_))); (case aB => exact (bl_ HB.out)); (case aF => exact (fun _ _ => trivial)); (case aO => exact (ra_ HO297.out)); (case aS => exact (below_size (bl_ HB.out))); (case aL => have := LMc2.out; omega); intro v299 w5 ho hb hg hat; rw [← Ny298.out] at ho; replace HB := ak (hb); have HO300 := ak (ho); clear HO297; clear ho hb hg hat))
    go_ret
    exact ⟨_, by first | rfl | (simp [errW_none, errW_some] <;> rfl) | (simp [*, errW_none, errW_some] <;> rfl), by (with_reducible repeat (first | apply Kd.R_alloc | apply Kd.R_drewN | apply Kd.R_drew)); exact HO300.out, by repeat (first | (with_reducible first | exact HB.out | apply below_alloc | apply pw_below_drewN | apply below_drew1) | exact HB.out)⟩
  rw [if_neg c2] at H; exact absurd H (by simp)

/-! ### impl_NumAdd_1: function 261 -/
def impl_NumAdd_1.f (a0 : Int) (a1_0 : Int) : Option (Bool) := some (decide (a0 > a1_0))
set_option maxHeartbeats 8000000 in
set_option maxRecDepth 100000 in
theorem impl_NumAdd_1.calls (a0 : Int) (G1 : Nat) (a1_0 : Int) (r : Bool) (w : World) (hG1 : w.heap[G1]? = some (.cells #[.int .i64 a1_0] 3 (0, 0))) (h : impl_NumAdd_1.f a0 a1_0 = some r) :
    Calls Try.prog 261 #[.int .i64 a0, .pointer (some ⟨G1, 0, none⟩)] w fun e w' => e = .returned (.bool r) ∧ Drawn0 w w' := by
  have BK1 := ak hG1; clear hG1; have H : (some (decide (a0 > a1_0))) = some r := h; clear h; obtain rfl := Option.some.inj H; have hcz3_0 := bc_ BK1.out 0; have hfz3_0 := blk_frozen BK1.out 0
  go_enter Try.func261, Try.ntmps261
  go_wp2
  go_ret
  exact ⟨by first | rfl | (simp; done) | (simp [*]; done), by repeat (first | exact Drawn0.refl _ | apply Drawn0.step)⟩

/-! ### slices_Insert_int_int: function 262 -/
def ints (xs : List Int) : List Value := encs (Value.int .i64) xs
theorem row_at {e : Nat} {w : World} {base g cap : Nat} {ok : Nat → Prop} {cur : Array Value} {ys : List Int} (hh : w.heap[g]? = some (.cells cur e (0, 0))) (hb : base ≤ g) (hn : ys.length ≤ cap) (hm : cap ≤ maxLen) (hs : cur.size = cap) (ht : cur.toList.take ys.length = ints ys) (hok : ok g) : Kd.R (Kd.int .i64) e w base ok (.slice (some ⟨g, 0, none⟩) ys.length cap) ys := by
  refine Kd.R_of_own ⟨?_, .inr ⟨g, cap, cur, rfl, hb, hh, hn, hm, by rw [hs, Nat.mul_one], ?_⟩⟩ (fun k hk => ?_)
  · simp [encs]
  · rw [Nat.mul_one]; exact ht
  · simp [Value.ownBlock] at hk; subst hk; exact hok
theorem ints_get (xs : List Int) (j : Nat) (v : Value) (h : (ints xs)[j]? = some v) : v.oneCell' = true := by
  simp [ints, encs] at h
  obtain ⟨x, _, rfl⟩ := h
  rfl
theorem ints_one (xs : List Int) : ∀ v ∈ ints xs, v.oneCell' = true := by
  intro v hv
  obtain ⟨x, _, rfl⟩ := List.mem_map.1 hv
  rfl
theorem row_open {e : Nat} {w : World} {base : Nat} {ok : Nat → Prop} {v : Value} {xs : List Int} (h : Kd.R (Kd.int .i64) e w base ok v xs) : (v = .slice none 0 0 ∧ xs = []) ∨ ∃ g cap cur, v = .slice (some ⟨g, 0, none⟩) xs.length cap ∧ base ≤ g ∧ ok g ∧ w.heap[g]? = some (.cells cur e (0, 0)) ∧ xs.length ≤ cap ∧ cap ≤ maxLen ∧ cur.size = cap ∧ cur.toList.take xs.length = ints xs := by
  have ho := Kd.own_of_R h
  obtain ⟨h1, h2⟩ := ho
  rcases h2 with ⟨rfl, h0⟩ | ⟨g, cap, cur, rfl, hb, hh, hn, hm, hs, ht⟩
  · exact .inl ⟨rfl, List.length_eq_zero_iff.1 h0⟩
  · exact .inr ⟨g, cap, cur, rfl, hb, h.1 g rfl, hh, hn, hm, by rw [hs, Nat.mul_one], by rw [Nat.mul_one] at ht; exact ht⟩

theorem ints_app (a b : List Int) : ints (a ++ b) = ints a ++ ints b := List.map_append
theorem ints_take (a : List Int) (n : Nat) : ints (a.take n) = (ints a).take n := List.map_take
theorem ints_drop (a : List Int) (n : Nat) : ints (a.drop n) = (ints a).drop n := List.map_drop
theorem ints_len (a : List Int) : (ints a).length = a.length := List.length_map ..
theorem ins_len (xs : List Int) (n : Nat) (y : Int) (h : n ≤ xs.length) : (xs.take n ++ ([y] ++ xs.drop n)).length = xs.length + 1 := by simp; omega
theorem splice_a (A cs vs rest : List Value) (n i : Nat) (hA : A.take i = cs.take i) (hi : i ≤ n) (hc : cs.length = n) (hv : vs.length = 1) (hr : A.length ≥ i) : ((A.take i ++ vs ++ cs.drop i ++ rest).take (n + 1)) = cs.take i ++ (vs ++ cs.drop i) := by
  have e : (A.take i ++ vs ++ cs.drop i).length = n + 1 := by simp; omega
  rw [List.take_append_of_le_length (by omega), List.take_of_length_le (by omega), hA, List.append_assoc]
theorem splice_b (A cs vs rest : List Value) (N n : Nat) (hl : (A.take (n + 1)).length = n + 1) (hA : A.take n = cs.take n) (hi : n ≤ N) (hc : cs.length = N) (hv : vs.length = 1) : ((A.take (n + 1) ++ cs.drop n ++ rest).take n ++ vs ++ (A.take (n + 1) ++ cs.drop n ++ rest).drop (n + 1)).take (N + 1) = cs.take n ++ (vs ++ cs.drop n) := by
  have e1 : (A.take (n + 1) ++ cs.drop n ++ rest).take n = A.take n := by rw [List.append_assoc, List.take_append_of_le_length (by omega), List.take_take, Nat.min_eq_left (by omega)]
  have e2 : (A.take (n + 1) ++ cs.drop n ++ rest).drop (n + 1) = cs.drop n ++ rest := by rw [List.append_assoc, List.drop_append_of_le_length (by omega), List.drop_of_length_le (by omega), List.nil_append]
  rw [e1, e2, ← List.append_assoc]
  exact splice_a _ _ _ _ _ _ hA hi hc hv (by rw [List.length_take] at hl; omega)
theorem setCells_below {B : Nat} {a w : World} {g : Nat} (hb : B ≤ g) : ∀ (vs : List Value) (o : Nat), Below B a w → Below B a (w.setCells g o vs)
  | [], _, h => h
  | v :: r, o, h => by rw [World.setCells]; exact setCells_below hb r (o + 1) (h.setCell hb v)
theorem setCells_kept {a : World} {S : Nat → Prop} {g : Nat} (hb : S g ∨ a.heap.size ≤ g) : ∀ (vs : List Value) (o : Nat) (w : World), Kept a w S → Kept a (w.setCells g o vs) S
  | [], _, _, h => h
  | v :: r, o, w, h => by rw [World.setCells]; exact setCells_kept hb r (o + 1) _ (Kept.setCell h hb v)
set_option maxHeartbeats 1000000 in
theorem insert_own {P : Program} {ρ : Go.Shelf.Ren} (L : Go.Proofs.Lays2.n21 P ρ) (P0 P2 : Nat → Prop) (u0 u2 : Value) (xs : List Int) (i : Int) (ys : List Int) (w0 w : World) (hB : Below w0.heap.size w0 w) (h0 : Kd.R (Kd.int .i64) (ρ.t 3) w w0.heap.size P0 u0 xs) (hne : ∀ k, some k = u0.ownBlock → some k = u2.ownBlock → False) (h2 : Kd.R (Kd.int .i64) (ρ.t 3) w w0.heap.size P2 u2 ys) (hy : ys.length = 1) (hi0 : 0 ≤ i) (hi1 : i ≤ (xs.length : Int)) (hlen : xs.length < 17592186044415) : Calls P (ρ.f 21) #[u0, .int .i64 i, u2] w fun e w' => ∃ v, e = .returned v ∧ Kd.R (Kd.int .i64) (ρ.t 3) w' w0.heap.size (fun k => P0 k ∨ w.heap.size ≤ k) v (xs.take i.toNat ++ (ys ++ xs.drop i.toNat)) ∧ Below w0.heap.size w0 w' ∧ Kept w w' P0 := by
  obtain ⟨n, rfl⟩ : ∃ n : Nat, i = n := ⟨i.toNat, by omega⟩
  obtain ⟨y, rfl⟩ : ∃ y, ys = [y] := List.length_eq_one_iff.1 hy
  rw [Int.toNat_natCast]
  have hm : maxLen = 9223372036854775807 := rfl
  have hB0 := hB.size
  rcases row_open h2 with ⟨rfl, h⟩ | ⟨vb, vc, vcur, rfl, hvb, _, hvh, hvn, hvm, hvs, hvt⟩
  · cases h
  have hvcells : ∀ j v, (ints [y])[j]? = some v → w.cell? ⟨vb, 0 + j, none⟩ = some v := by
    intro j v hj
    rw [cell_of_row w vb _ _ _ _ hvh, Nat.zero_add]
    rw [← hvt, List.getElem?_take] at hj
    split at hj
    · rw [← Array.getElem?_toList]; exact hj
    · cases hj
  have hv1 : (ints [y]).length = 1 := rfl
  rcases row_open h0 with ⟨rfl, rfl⟩ | ⟨g, cap, cur, rfl, hg, hok, hh, hn, hcm, hcs, hct⟩
  · have : n = 0 := by simp at hi1; omega
    subst this
    refine (Go.Proofs.Any2.slices_Insert_int_end_grow L none 0 0 vb 0 1 vc [] (ints [y]) w (by omega) (by omega) (by omega) (by omega) rfl hv1 (fun _ => rfl) (fun a h => by cases h) hvcells (ints_one _)).mono ?_
    rintro e w' ⟨rfl, rfl⟩
    refine ⟨_, rfl, row_at (ys := [y]) (heap_alloc_new w.drew _) hB0 (grownCap_ge w 1 0 _) (grownCap_le_maxLen w 1 0 _ (by omega)) ?_ ?_ (.inr (Nat.le_refl _)), below_alloc (pw_below_drewN hB 1) _, Kept.alloc (Kept.drew (Kept.refl w P0)) _⟩
    · have := grownCap_ge w 1 0 (ρ.t 3)
      rw [Array.size_append, size_zeroCells]
      simp [ints, encs, Value.cells]
      omega
    · simp [ints, encs]
  · have hcells : ∀ j v, (ints xs)[j]? = some v → w.cell? ⟨g, 0 + j, none⟩ = some v := by
      intro j v hj
      rw [cell_of_row w g _ _ _ _ hh, Nat.zero_add]
      rw [← hct, List.getElem?_take] at hj
      split at hj
      · rw [← Array.getElem?_toList]; exact hj
      · cases hj
    have hvg : vb ≠ g := fun e => hne g rfl (by rw [e]; rfl)
    have hsp : ∀ j, j < cap → (w.cell? ⟨g, 0 + j, none⟩).isSome = true := by
      intro j hj
      rw [cell_of_row w g _ _ _ _ hh, Nat.zero_add, Array.getElem?_eq_getElem (by omega)]
      rfl
    have hfz : ∀ j, w.frozen? ⟨g, j, none⟩ = false := fun j => blk_frozen hh j
    have hnn : n ≤ xs.length := by omega
    have hL := ins_len xs n y hnn
    have hI : ints (xs.take n ++ ([y] ++ xs.drop n)) = (ints xs).take n ++ (ints [y] ++ (ints xs).drop n) := by rw [ints_app, ints_app, ints_take, ints_drop]
    by_cases hroom : xs.length + 1 ≤ cap
    · by_cases hin : n < xs.length
      · refine (Go.Proofs.Any2.slices_Insert_int_shift L g 0 xs.length cap n vb 0 1 vc (ints xs) (ints [y]) w hin (by omega) hroom (by omega) hvg (ints_len xs) hv1 hcells (fun j hj => hsp j (by omega)) (fun j _ => hfz _) hvcells (ints_one _) (ints_one _) (ρ.t 3) (ρ.t 3) vcur.size cur.size (by simp [World.shape?, hvh]) (by simp [World.shape?, hh]) (by omega) (blk_frozen hvh _) (blk_frozen hvh _)).mono ?_
        rintro e w' ⟨rfl, rfl⟩
        obtain ⟨c1, k1, k2, k3⟩ := setCells_row ((ints xs).drop n) (0 + (n + 1)) w.drew cur hh (by rw [List.length_drop, ints_len]; omega)
        obtain ⟨c2, k4, k5, k6⟩ := setCells_row (ints [y]) (0 + n) _ c1 k1 (by rw [hv1]; omega)
        have key : c2.toList.take (xs.length + 1) = (ints xs).take n ++ (ints [y] ++ (ints xs).drop n) := by
          rw [k6, k3, hv1, Nat.zero_add, Nat.zero_add]
          have l1 : (cur.toList.take (n + 1)).length = n + 1 := by rw [List.length_take, Array.length_toList]; omega
          exact splice_b _ _ _ _ _ _ l1 (by rw [← hct, List.take_take, Nat.min_eq_left hnn]) hnn (ints_len xs) hv1
        have r := row_at (base := w0.heap.size) (ok := fun k => P0 k ∨ w.heap.size ≤ k) (ys := xs.take n ++ ([y] ++ xs.drop n)) k4 hg (by rw [hL]; exact hroom) hcm (by rw [k5, k2]; exact hcs) (by rw [hL, hI]; exact key) (.inl hok)
        rw [hL] at r
        exact ⟨_, rfl, r, setCells_below hg _ _ (setCells_below hg _ _ (pw_below_drewN hB 1)), setCells_kept (.inl hok) _ _ _ (setCells_kept (.inl hok) _ _ _ (Kept.drew (Kept.refl w P0)))⟩
      · have hne' : n = xs.length := by omega
        subst hne'
        refine (Go.Proofs.Any2.slices_Insert_int_end_room L g 0 xs.length cap vb 0 1 vc (ints [y]) w (by omega) hroom (by omega) hv1 (fun j hj => by have := hsp (xs.length + j) (by omega); rwa [Nat.zero_add] at this ⊢) (fun j _ => hfz _) hvcells (ints_one _)).mono ?_
        rintro e w' ⟨rfl, rfl⟩
        obtain ⟨c1, k1, k2, k3⟩ := setCells_row (ints [y]) (0 + xs.length) w cur hh (by rw [hv1]; omega)
        have key : c1.toList.take (xs.length + 1) = (ints xs).take xs.length ++ (ints [y] ++ (ints xs).drop xs.length) := by
          rw [k3, hv1, Nat.zero_add, List.drop_of_length_le (l := ints xs) (by rw [ints_len]; omega), List.append_nil, List.take_append_of_le_length (by simp; omega), List.take_of_length_le (by simp; omega), hct, List.take_of_length_le (l := ints xs) (by rw [ints_len]; omega)]
        have r := row_at (base := w0.heap.size) (ok := fun k => P0 k ∨ w.heap.size ≤ k) (ys := xs.take xs.length ++ ([y] ++ xs.drop xs.length)) k1 hg (by rw [hL]; exact hroom) hcm (by rw [k2]; exact hcs) (by rw [hL, hI]; exact key) (.inl hok)
        rw [hL] at r
        exact ⟨_, rfl, r, setCells_below hg _ _ hB, setCells_kept (.inl hok) _ _ _ (Kept.refl w P0)⟩
    · by_cases hin : n < xs.length
      · refine (Go.Proofs.Any2.slices_Insert_int_grow L g 0 xs.length cap n vb 0 1 vc (ints xs) (ints [y]) w hin (by omega) hn (by omega) (by omega) (ints_len xs) hv1 hcells hvcells (ints_one _) (ints_one _)).mono ?_
        rintro e w' ⟨rfl, rfl⟩
        have gc := grownCap_ge w (xs.length + 1) cap (ρ.t 3)
        generalize hK : grownCap w (xs.length + 1) cap (ρ.t 3) = K at gc
        have gm : K ≤ maxLen := by rw [← hK]; exact grownCap_le_maxLen w _ _ _ (by omega)
        obtain ⟨A, hA⟩ : ∃ A, (((ints xs).take n).toArray ++ Builtin.zeroCells (Value.int .i64 0).cells (xs.length + 1 - n) ++ Builtin.zeroCells (Value.int .i64 0).cells (K - (xs.length + 1))) = A := ⟨_, rfl⟩
        have hAs : A.size = K := by
          rw [← hA, Array.size_append, Array.size_append, size_zeroCells, size_zeroCells]
          simp [ints_len, Value.cells]
          omega
        have hAt : A.toList.take n = (ints xs).take n := by
          rw [← hA, Array.toList_append, Array.toList_append, List.append_assoc, List.take_append_of_le_length (by simp [ints_len]; omega), List.take_of_length_le (by simp; exact Nat.min_le_left _ _)]
        rw [hA]
        obtain ⟨c1, k1, k2, k3⟩ := setCells_row (ints [y]) n (w.alloc (.cells A (ρ.t 3))).drew A (heap_alloc_new w _) (by rw [hv1]; omega)
        obtain ⟨c2, k4, k5, k6⟩ := setCells_row ((ints xs).drop n) (n + 1) (((w.alloc (.cells A (ρ.t 3))).drew.setCells w.heap.size n (ints [y])).drew) c1 k1 (by rw [List.length_drop, ints_len]; omega)
        have key : c2.toList.take (xs.length + 1) = (ints xs).take n ++ (ints [y] ++ (ints xs).drop n) := by
          rw [k6, k3, hv1]
          have l1 : (A.toList.take n ++ ints [y]).length = n + 1 := by simp [hv1]; omega
          rw [List.take_append_of_le_length (l₁ := A.toList.take n ++ ints [y]) (by omega), List.take_of_length_le (l := A.toList.take n ++ ints [y]) (by omega)]
          exact splice_a _ _ _ _ _ _ hAt hnn (ints_len xs) hv1 (by rw [Array.length_toList]; omega)
        have r := row_at (base := w0.heap.size) (ok := fun k => P0 k ∨ w.heap.size ≤ k) (ys := xs.take n ++ ([y] ++ xs.drop n)) k4 hB0 (by rw [hL]; exact gc) gm (by rw [k5, k2]; exact hAs) (by rw [hL, hI]; exact key) (.inr (Nat.le_refl _))
        rw [hL] at r
        have hnew : P0 w.heap.size ∨ w.heap.size ≤ w.heap.size := .inr (Nat.le_refl _)
        exact ⟨_, rfl, r, setCells_below hB0 _ _ (pw_below_drewN (setCells_below hB0 _ _ (pw_below_drewN (below_alloc hB _) 1)) 1), setCells_kept hnew _ _ _ (Kept.drew (setCells_kept hnew _ _ _ (Kept.drew (Kept.alloc (Kept.refl w P0) _))))⟩
      · have hne' : n = xs.length := by omega
        subst hne'
        refine (Go.Proofs.Any2.slices_Insert_int_end_grow L (some ⟨g, 0, none⟩) xs.length cap vb 0 1 vc (ints xs) (ints [y]) w (by omega) hn (by omega) (by omega) (ints_len xs) hv1 (fun h => by cases h) (fun a h j v hj => by cases h; have h_ := hcells j v hj; rw [Nat.zero_add] at h_; rw [add_plain]; exact h_) hvcells (ints_one _)).mono ?_
        rintro e w' ⟨rfl, rfl⟩
        have gc := grownCap_ge w (xs.length + 1) cap (ρ.t 3)
        generalize hK : grownCap w (xs.length + 1) cap (ρ.t 3) = K at gc
        have gm : K ≤ maxLen := by rw [← hK]; exact grownCap_le_maxLen w _ _ _ (by omega)
        have r := row_at (base := w0.heap.size) (ok := fun k => P0 k ∨ w.heap.size ≤ k) (ys := xs.take xs.length ++ ([y] ++ xs.drop xs.length)) (cap := K) (heap_alloc_new w.drew (.cells ((ints xs ++ ints [y]).toArray ++ Builtin.zeroCells (Value.int .i64 0).cells (K - (xs.length + 1))) (ρ.t 3))) hB0 (by rw [hL]; exact gc) gm (by rw [Array.size_append, size_zeroCells]; simp [ints_len, hv1, Value.cells]; omega) (by
          rw [hL, hI, Array.toList_append, List.take_append_of_le_length (by simp [ints_len, hv1]), List.take_of_length_le (by simp [ints_len, hv1]), List.drop_of_length_le (l := ints xs) (by rw [ints_len]; omega), List.take_of_length_le (l := ints xs) (by rw [ints_len]; omega), List.append_nil]) (.inr (Nat.le_refl _))
        rw [hL] at r
        exact ⟨_, rfl, r, below_alloc (pw_below_drewN hB 1) _, Kept.alloc (Kept.drew (Kept.refl w P0)) _⟩
def rho_ : Go.Shelf.Ren := ⟨fun f => if f = 21 then 262 else if f = 27 then 290 else if f = 28 then 291 else if f = 35 then 298 else if f = 39 then 300 else f, fun t => if t = 0 then 0 else if t = 3 then 3 else if t = 4 then 4 else if t = 22 then 52 else t, fun g => g⟩
theorem lays_ : Go.Proofs.Lays2.n21 Try.prog rho_ where
  mixed := by kernel_rfl
  f21 := Try.func262.trans (congrArg some (by kernel_rfl))
  f27 := Try.func290.trans (congrArg some (by kernel_rfl))
  f28 := Try.func291.trans (congrArg some (by kernel_rfl))
  f35 := Try.func298.trans (congrArg some (by kernel_rfl))
  f39 := Try.func300.trans (congrArg some (by kernel_rfl))
  t0 := by kernel_rfl
  a0 := Try.isAgg0
  z0 := Try.sizeOf0
  v0 := Try.zeroValue0
  t3 := by kernel_rfl
  a3 := Try.isAgg3
  z3 := Try.sizeOf3
  v3 := Try.zeroValue3
  t4 := by kernel_rfl
  a4 := Try.isAgg4
  z4 := Try.sizeOf4
  v4 := Try.zeroValue4
  t22 := by kernel_rfl
  a22 := Try.isAgg52
  z22 := Try.sizeOf52
  v22 := Try.zeroValue52
  i3 := by kernel_rfl
def slices_Insert_int_int.f (l0 : List Int) (a1 : Int) (l2 : List Int) : Option (List Int) := if 0 ≤ a1 then (if a1 ≤ (l0.length : Int) then (if l2.length = 1 then (if l0.length < 17592186044415 then (some (l0.take a1.toNat ++ (l2 ++ l0.drop a1.toNat))) else (none)) else (none)) else (none)) else (none)
theorem slices_Insert_int_int.calls (P0_ : Nat → Prop) (u9000_ : Value) (l0 : List Int) (a1 : Int) (P2_ : Nat → Prop) (u9001_ : Value) (l2 : List Int) (r : List Int) (w0 w : World) (hB : Below w0.heap.size w0 w) (ho0 : Kd.R (Kd.int .i64) 3 w w0.heap.size P0_ u9000_ l0) (hp0_2 : ∀ k_, P0_ k_ → ¬ P2_ k_) (ho2 : Kd.R (Kd.int .i64) 3 w w0.heap.size P2_ u9001_ l2) (hp2_0 : ∀ k_, P2_ k_ → ¬ P0_ k_) (h : slices_Insert_int_int.f l0 a1 l2 = some r) :
    Calls Try.prog 262 #[u9000_, .int .i64 a1, u9001_] w fun e w' => ∃ v0_ : Value, e = .returned (v0_) ∧ Kd.R (Kd.int .i64) 3 w' w0.heap.size (fun k_ => ((P0_ k_ ∨ P2_ k_) ∨ w.heap.size ≤ k_)) v0_ r ∧ Below w0.heap.size w0 w' ∧ Kept w w' (fun k_ => P0_ k_ ∨ P2_ k_) := by
  unfold slices_Insert_int_int.f at h
  by_cases h1 : 0 ≤ a1
  · rw [if_pos h1] at h
    by_cases h2 : a1 ≤ (l0.length : Int)
    · rw [if_pos h2] at h
      by_cases h3 : l2.length = 1
      · rw [if_pos h3] at h
        by_cases h4 : l0.length < 17592186044415
        · rw [if_pos h4] at h
          obtain rfl := Option.some.inj h
          refine (insert_own (ρ := rho_) lays_ P0_ P2_ u9000_ u9001_ l0 a1 l2 w0 w hB ho0 (fun k hk1 hk2 => hp0_2 k (ho0.1 k hk1.symm) (ho2.1 k hk2.symm)) ho2 h3 h1 h2 h4).mono ?_
          rintro e w' ⟨v, rfl, hR, hb, hk⟩
          exact ⟨v, rfl, Kd.R_mono hR (fun k hk => hk.elim (fun z => .inl (.inl z)) .inr), hb, Kept.mono hk (fun _ z => .inl z)⟩
        · rw [if_neg h4] at h; cases h
      · rw [if_neg h3] at h; cases h
    · rw [if_neg h2] at h; cases h
  · rw [if_neg h1] at h; cases h

/-! ### slices_IndexFunc_int_int__with_impl_NumAdd_1: function 317 -/
def slices_IndexFunc_int_int__with_impl_NumAdd_1.l0 : Nat → List Int → Int → Int → Int → Option (Int)
  | 0, _, _, _, _ => none
  | k + 1, x0, x7, x8, x3000 => if x8 < x7 then (if 0 ≤ x8 then (if x8 < (x0.length : Int) then ((impl_NumAdd_1.f (rd x0 x8) x3000).bind fun t302 => (if t302 = true then (some x8) else (slices_IndexFunc_int_int__with_impl_NumAdd_1.l0 k x0 x7 (wrap64 (x8 + 1)) x3000))) else (none)) else (none)) else (some (-1))
def slices_IndexFunc_int_int__with_impl_NumAdd_1.f (k : Nat) (l0 : List Int)  (a2_0 : Int) : Option (Int) := slices_IndexFunc_int_int__with_impl_NumAdd_1.l0 k l0 (l0.length : Int) 0 a2_0
theorem slices_IndexFunc_int_int__with_impl_NumAdd_1.mono_l : ∀ k, (∀ y0 y1 y2 y3, LeO (slices_IndexFunc_int_int__with_impl_NumAdd_1.l0 k y0 y1 y2 y3) (slices_IndexFunc_int_int__with_impl_NumAdd_1.l0 (k + 1) y0 y1 y2 y3))
  | 0 => fun _ _ _ _ r h => by simp [slices_IndexFunc_int_int__with_impl_NumAdd_1.l0] at h
  | k + 1 => by
    have ih0 := slices_IndexFunc_int_int__with_impl_NumAdd_1.mono_l k
    · intro y0 y1 y2 y3
      unfold slices_IndexFunc_int_int__with_impl_NumAdd_1.l0
      repeat' first | (with_reducible first | exact ih0 _ _ _ _ | exact LeO.refl _ | exact LeO.none _ | refine LeO.ite ?_ ?_ | refine LeO.bind ?_ (fun _ => ?_)) | exact ih0 _ _ _ _ | exact LeO.none _ | refine LeO.ite ?_ ?_ | refine LeO.bind ?_ (fun _ => ?_)
theorem slices_IndexFunc_int_int__with_impl_NumAdd_1.mono : ∀ a0 a1 k, LeO (slices_IndexFunc_int_int__with_impl_NumAdd_1.f k a0 a1) (slices_IndexFunc_int_int__with_impl_NumAdd_1.f (k + 1) a0 a1) := by
  intro a0 a1 k; have ih0 := slices_IndexFunc_int_int__with_impl_NumAdd_1.mono_l k
  unfold slices_IndexFunc_int_int__with_impl_NumAdd_1.f
  repeat' first
      | (with_reducible exact ih0 _ _ _ _)
      | (with_reducible exact LeO.refl _)
      | (with_reducible exact LeO.none _)
      | (with_reducible refine LeO.ite ?_ ?_)
      | (with_reducible refine LeO.bind ?_ (fun _ => ?_))
      | exact ih0 _ _ _ _
      | exact LeO.none _
      | refine LeO.ite ?_ ?_
      | refine LeO.bind ?_ (fun _ => ?_)
set_option maxHeartbeats 8000000 in
set_option maxRecDepth 100000 in
theorem slices_IndexFunc_int_int__with_impl_NumAdd_1.calls (k : Nat) (A0 : Option Addr) (c0 : Nat) (l0 : List Int)  (G2 : Nat) (a2_0 : Int) (r : Int) (w : World) (hr0 : Kd.C (Kd.int .i64) w A0 l0.length l0) (hc0 : l0.length ≤ c0) (hG2 : w.heap[G2]? = some (.cells #[.int .i64 a2_0] 3 (0, 0))) (h : slices_IndexFunc_int_int__with_impl_NumAdd_1.f k l0 a2_0 = some r) :
    Calls Try.prog 227 #[.slice A0 l0.length c0, .func (.func 261) #[] #[.pointer (some ⟨G2, 0, none⟩)]] w fun e w' => e = .returned (.int .i64 r) ∧ Drawn0 w w' := by
  have HR0 := ak hr0; have HC0 := ak hc0; clear hr0 hc0; have BK2 := ak hG2; clear hG2; have H : (slices_IndexFunc_int_int__with_impl_NumAdd_1.l0 k l0 (l0.length : Int) 0 a2_0) = some r := h; clear h; have H' := ak H; clear H
  go_enter Try.func227, Try.ntmps227
  go_wp2
  go_loopg [8] k (fun kq v8 w' => ∃ (x8_1 : Int), v8 = .int .i64 x8_1 ∧ Aside0 (slices_IndexFunc_int_int__with_impl_NumAdd_1.l0 kq l0 (l0.length : Int) x8_1 a2_0 = some r) ∧ Aside0 (kq ≤ k) ∧ Aside0 (w'.heap[G2]? = some (.cells #[.int .i64 a2_0] 3 (0, 0))) ∧ Drawn0 w w')
  case atStart => exact ⟨(0), (by first | rfl | (simp; done) | (simp [*]; done)), H', ⟨Nat.le_refl _⟩, ⟨bk_ BK2.out⟩, by repeat (first | exact Drawn0.refl _ | apply Drawn0.step)⟩
  case round =>
    clear H'; (try clear p2); (try clear c3); obtain ⟨x8_1, rfl, HA, HK1, BK2, ⟨m1, rfl⟩⟩ := hrel
    cases gk with
    | zero => exact absurd HA.out (by simp [slices_IndexFunc_int_int__with_impl_NumAdd_1.l0])
    | succ k1 =>
      have H := HA.out; clear HA
      simp only [slices_IndexFunc_int_int__with_impl_NumAdd_1.l0] at H
      by_cases c4 : x8_1 < (l0.length : Int)
      · rw [if_pos c4] at H; have c4b0 := decide_eq_true c4; clear c4
        by_cases c5 : 0 ≤ x8_1
        · rw [if_pos c5] at H; have c5b0 := decide_eq_true c5; clear c5
          by_cases c6 : x8_1 < (l0.length : Int)
          · rw [if_pos c6] at H; have c6b0 := decide_eq_true c6; clear c6; replace H := Option.bind_eq_some_iff.mp H; obtain ⟨t302, A70, H⟩ := H; have A7 := ak A70; clear A70
            by_cases c8 : t302 = true
            · subst c8; rw [if_pos rfl] at H; obtain rfl := Option.some.inj H; have p301 : 0 ≤ (x8_1 : Int) := as_; have q301 : x8_1 < (l0.length : Int) := as_; obtain ⟨ad301, e301, hx301_0⟩ := Kd.at_int HR0.out x8_1 p301 q301
              cases e301
              replace p301 := eq_true p301; replace q301 := eq_true q301
              go_wp2_with (first | ((with_reducible refine Go.Proofs.Ytejfjfhopapaaaa.XOpens.gate_calleeV (t := 11) rfl ?_); refine Go.Proofs.Ytejfjfhopapaaaa.XOpens.goesV_ (some 16) rfl rfl Try.func261 (by kernel_rfl) rfl #[.int .i64 (rd l0 x8_1), .pointer (some ⟨G2, 0, none⟩)] rfl rfl (by (try simp only [List.map_toArray, List.map_cons, List.map_nil]); first | done | rfl | (simp only [List.length_drop, List.length_take]; rfl)) ?_; (with_reducible refine (impl_NumAdd_1.calls (rd l0 x8_1) G2 a2_0 true _ ?side1 A7.out).mono ?_); (case side1 => exact (bk_ BK2.out)); rintro e w' ⟨rfl, ⟨nd, rfl⟩⟩; refine ⟨_, rfl, ?_⟩))
              go_ret
              exact ⟨by first | rfl | (simp; done) | (simp [*]; done), by repeat (first | exact Drawn0.refl _ | apply Drawn0.step)⟩
            replace c8 := Bool.eq_false_iff.mpr c8; subst c8; rw [if_neg (show ¬ (false = true) by decide)] at H; have H' := ak H; clear H; have p301 : 0 ≤ (x8_1 : Int) := as_; have q301 : x8_1 < (l0.length : Int) := as_; obtain ⟨ad301, e301, hx301_0⟩ := Kd.at_int HR0.out x8_1 p301 q301
            cases e301
            replace p301 := eq_true p301; replace q301 := eq_true q301
            go_wp2_with (first | ((with_reducible refine Go.Proofs.Ytejfjfhopapaaaa.XOpens.gate_calleeV (t := 11) rfl ?_); refine Go.Proofs.Ytejfjfhopapaaaa.XOpens.goesV_ (some 16) rfl rfl Try.func261 (by kernel_rfl) rfl #[.int .i64 (rd l0 x8_1), .pointer (some ⟨G2, 0, none⟩)] rfl rfl (by (try simp only [List.map_toArray, List.map_cons, List.map_nil]); first | done | rfl | (simp only [List.length_drop, List.length_take]; rfl)) ?_; (with_reducible refine (impl_NumAdd_1.calls (rd l0 x8_1) G2 a2_0 false _ ?side1 A7.out).mono ?_); (case side1 => exact (bk_ BK2.out)); rintro e w' ⟨rfl, ⟨nd, rfl⟩⟩; refine ⟨_, rfl, ?_⟩))
            go_roundg k1
            case measure => have := HK1.out; omega
            case rel => exact ⟨(wrap64 (x8_1 + 1)), (by first | rfl | (simp; done) | (simp [*]; done)), H', ⟨by have := HK1.out; omega⟩, ⟨bk_ BK2.out⟩, by repeat (first | exact Drawn0.refl _ | apply Drawn0.step)⟩
          rw [if_neg c6] at H; exact absurd H (by simp)
        rw [if_neg c5] at H; exact absurd H (by simp)
      rw [if_neg c4] at H; have c4b0 := decide_eq_false c4; clear c4; obtain rfl := Option.some.inj H
      go_wp2
      go_ret
      exact ⟨by first | rfl | (simp; done) | (simp [*]; done), by repeat (first | exact Drawn0.refl _ | apply Drawn0.step)⟩

/-! ### impl_NumAdd: function 183 -/
def impl_NumAdd.f (k : Nat) (l0 : List Int) (a1 : Int) : Option (List Int) := (slices_Clone_int_int.f l0).bind fun t304 => ((impl_NumIn.f k l0 a1).bind fun t307 => (if t307 = true then (some t304) else ((slices_IndexFunc_int_int__with_impl_NumAdd_1.f k l0 a1).bind fun t308 => (if t308 < 0 then ((slices_Insert_int_int.f t304 (l0.length : Int) (([a1] : List Int))).bind fun t312 => (some t312)) else ((slices_Insert_int_int.f t304 t308 (([a1] : List Int))).bind fun t318 => (some t318))))))
theorem impl_NumAdd.mono : ∀ a0 a1 k, LeO (impl_NumAdd.f k a0 a1) (impl_NumAdd.f (k + 1) a0 a1) := by
  intro a0 a1 k
  unfold impl_NumAdd.f
  repeat' first
      | (with_reducible exact impl_NumIn.mono _ _ _)
      | (with_reducible exact slices_IndexFunc_int_int__with_impl_NumAdd_1.mono _ _ _)
      | (with_reducible exact LeO.refl _)
      | (with_reducible exact LeO.none _)
      | (with_reducible refine LeO.ite ?_ ?_)
      | (with_reducible refine LeO.bind ?_ (fun _ => ?_))
      | exact impl_NumIn.mono _ _ _
      | exact slices_IndexFunc_int_int__with_impl_NumAdd_1.mono _ _ _
      | exact LeO.none _
      | refine LeO.ite ?_ ?_
      | refine LeO.bind ?_ (fun _ => ?_)
set_option maxHeartbeats 8000000 in
set_option maxRecDepth 100000 in
theorem impl_NumAdd.calls (k : Nat) (A0 : Option Addr) (c0 : Nat) (l0 : List Int) (a1 : Int) (r : List Int) (w : World) (hr0 : Kd.C (Kd.int .i64) w A0 l0.length l0) (hc0 : l0.length ≤ c0) (h : impl_NumAdd.f k l0 a1 = some r) :
    Calls Try.prog 183 #[.slice A0 l0.length c0, .int .i64 a1] w fun e w' => ∃ v0_ : Value, e = .returned (v0_) ∧ Kd.R (Kd.int .i64) 3 w' w.heap.size (fun _ => True) v0_ r ∧ Below w.heap.size w w' := by
  have HR0 := ak hr0; have HC0 := ak hc0; clear hr0 hc0; have HB := ak (Below.refl w.heap.size w); have H : ((slices_Clone_int_int.f l0).bind fun t304 => ((impl_NumIn.f k l0 a1).bind fun t307 => (if t307 = true then (some t304) else ((slices_IndexFunc_int_int__with_impl_NumAdd_1.f k l0 a1).bind fun t308 => (if t308 < 0 then ((slices_Insert_int_int.f t304 (l0.length : Int) (([a1] : List Int))).bind fun t312 => (some t312)) else ((slices_Insert_int_int.f t304 t308 (([a1] : List Int))).bind fun t318 => (some t318))))))) = some r := h; clear h; replace H := Option.bind_eq_some_iff.mp H; obtain ⟨t304, A30, H⟩ := H; have A3 := ak A30; clear A30; replace H := Option.bind_eq_some_iff.mp H; obtain ⟨t307, A40, H⟩ := H; have A4 := ak A40; clear A40
  by_cases c5 : t307 = true
  · subst c5; rw [if_pos rfl] at H; obtain rfl := Option.some.inj H
    go_enter Try.func183, Try.ntmps183
    go_wp2_with (first | ((with_reducible refine gate_dst (N := 3) rfl ?_); refine bxe_ (N := 3) (cs := #[.int .i64 a1]) (t := 3) ?_; intro gb303 hg w6 hbox hb; have BK303 := ak (hbox); have GW303 := ak (lg_ hg (bl_ HB.out)); have GE303 := ak (lg_ hg (bl_ HB.out)); replace HB := ak (below_step (bl_ HB.out) hb); clear hb hbox hg) | ((with_reducible refine gate_callee (f := 260) rfl ?_); refine goesM_ (some 8) rfl rfl Try.func260 (by kernel_rfl) rfl #[.slice A0 l0.length c0] rfl ?_; (with_reducible refine (slices_Clone_int_int.calls _ _ l0 t304 _ ?side1 ?side2 A3.out).mono ?_); (case side1 => exact cb_ HR0.out HB.out); (case side2 => exact HC0.out); rintro e w7 ⟨v305, rfl, ho0, hb⟩; refine ⟨_, rfl, ?_⟩; have HO306 := ak (Kd.R_lower (Kd.R_newB ho0 (g := gb303) (o := .cells #[.int .i64 a1] 3 (0, 0)) (bk_ BK303.out)) (below_size (bs1_ HB.out GE303.out))); replace BK303 := ak (blk_below (bk_ BK303.out) hb); replace HB := ak (below_step (bs1_ HB.out GE303.out) hb); (try clear hb); (try clear hb2); (try clear hk); (try clear hi); (try clear ho0); have hcz8_0 := bc_ BK303.out 0; have hfz8_0 := blk_frozen BK303.out 0) | ((with_reducible refine gate_callee (f := 169) rfl ?_); refine goesM_ (some 11) rfl rfl Try.func169 (by kernel_rfl) rfl #[.slice A0 l0.length c0, .int .i64 a1] rfl ?_; (with_reducible refine (impl_NumIn.calls k _ _ l0 a1 true _ ?side1 ?side2 A4.out).mono ?_); (case side1 => exact cb_ HR0.out HB.out); (case side2 => exact HC0.out); rintro e w' ⟨rfl, ⟨nd, rfl⟩⟩; refine ⟨_, rfl, ?_⟩))
    go_ret
    exact ⟨_, by first | rfl | (simp [errW_none, errW_some] <;> rfl) | (simp [*, errW_none, errW_some] <;> rfl), by (with_reducible repeat (first | apply Kd.R_alloc | apply Kd.R_drewN | apply Kd.R_drew)); exact Kd.R_mono HO306.out (fun _ hk => trivial), by repeat (first | (with_reducible first | exact HB.out | apply below_alloc | apply pw_below_drewN | apply below_drew1 | refine below_set ?_ GE303.out) | exact HB.out)⟩
  replace c5 := Bool.eq_false_iff.mpr c5; subst c5; rw [if_neg (show ¬ (false = true) by decide)] at H; replace H := Option.bind_eq_some_iff.mp H; obtain ⟨t308, A90, H⟩ := H; have A9 := ak A90; clear A90
  by_cases c10 : t308 < 0
  · rw [if_pos c10] at H; have c10b0 := decide_eq_true c10; clear c10; obtain ⟨y309, hy309⟩ : ∃ y_ : List Int, y_ = (([a1] : List Int)) := ⟨_, rfl⟩; replace H : ((slices_Insert_int_int.f t304 (l0.length : Int) y309).bind fun t312 => (some t312)) = some r := by first | (rw [hy309]; with_reducible exact H) | (have H2_ := (Option.bind_some _ _).symm.trans H; rw [hy309]; with_reducible exact H2_) | (have H2_ := (Option.bind_some _ _).symm.trans H; with_reducible exact H2_) | with_reducible exact H | (rw [hy309]; exact H) | exact H
    have Ny309 := ak hy309; clear hy309; replace H := Option.bind_eq_some_iff.mp H; obtain ⟨t312, A110, H⟩ := H; have A11 := ak A110; clear A110; obtain rfl := Option.some.inj H
    go_enter Try.func183, Try.ntmps183
    go_wp2_with (first | ((with_reducible refine gate_dst (N := 3) rfl ?_); refine bxe_ (N := 3) (cs := #[.int .i64 a1]) (t := 3) ?_; intro gb303 hg w12 hbox hb; have BK303 := ak (hbox); have GW303 := ak (lg_ hg (bl_ HB.out)); have GE303 := ak (lg_ hg (bl_ HB.out)); replace HB := ak (below_step (bl_ HB.out) hb); clear hb hbox hg) | ((with_reducible refine gate_callee (f := 260) rfl ?_); refine goesM_ (some 8) rfl rfl Try.func260 (by kernel_rfl) rfl #[.slice A0 l0.length c0] rfl ?_; (with_reducible refine (slices_Clone_int_int.calls _ _ l0 t304 _ ?side1 ?side2 A3.out).mono ?_); (case side1 => exact cb_ HR0.out HB.out); (case side2 => exact HC0.out); rintro e w13 ⟨v305, rfl, ho0, hb⟩; refine ⟨_, rfl, ?_⟩; have HO306 := ak (Kd.R_lower (Kd.R_newB ho0 (g := gb303) (o := .cells #[.int .i64 a1] 3 (0, 0)) (bk_ BK303.out)) (below_size (bs1_ HB.out GE303.out))); replace BK303 := ak (blk_below (bk_ BK303.out) hb); replace HB := ak (below_step (bs1_ HB.out GE303.out) hb); (try clear hb); (try clear hb2); (try clear hk); (try clear hi); (try clear ho0); have hcz14_0 := bc_ BK303.out 0; have hfz14_0 := blk_frozen BK303.out 0) | ((with_reducible refine gate_callee (f := 169) rfl ?_); refine goesM_ (some 11) rfl rfl Try.func169 (by kernel_rfl) rfl #[.slice A0 l0.length c0, .int .i64 a1] rfl ?_; (with_reducible refine (impl_NumIn.calls k _ _ l0 a1 false _ ?side1 ?side2 A4.out).mono ?_); (case side1 => exact cb_ HR0.out HB.out); (case side2 => exact HC0.out); rintro e w' ⟨rfl, ⟨nd, rfl⟩⟩; refine ⟨_, rfl, ?_⟩) | ((with_reducible refine gate_callee (f := 227) rfl ?_); refine goesM_ (some 15) rfl rfl Try.func227 (by kernel_rfl) rfl #[.slice A0 l0.length c0, .func (.func 261) #[] #[.pointer (some ⟨gb303, 0, none⟩)]] rfl ?_; (with_reducible refine (slices_IndexFunc_int_int__with_impl_NumAdd_1.calls k _ _ l0  gb303 a1 t308 _ ?side1 ?side2 ?side3 A9.out).mono ?_); (case side1 => exact ca_ (Kd.C_below HR0.out (bs1_ HB.out GE303.out))); (case side2 => exact HC0.out); (case side3 => exact (bk_ BK303.out)); rintro e w' ⟨rfl, ⟨nd, rfl⟩⟩; refine ⟨_, rfl, ?_⟩) | ((with_reducible refine gate_dst (N := 23) rfl ?_); refine Kd.R_lit (Kd.int .i64) _ 3 ?hg (N := 23) ?hd (xs := ([a1] : List Int)) (inner := [.int .i64 a1]) (ok := fun _ => True) (okp := fun _ => True) ?hr ?hp (fun _ hk => hk) trivial (Below.refl _ _) (Nat.le_refl _) (by simp) ?_; (case hd => rfl); (case hg => rfl); (case hr => first | (go_simp; done) | (go_simp; rfl)); (case hp => exact (Reps.one (show Kd.M (Kd.int .i64) _ _ _ a1 [.int .i64 a1] from rfl) (Reps.none _ _))); intro v310 w15 ho16 hb hg_ hnew_; clear hg_ hnew_; (first | rw [← Ny309.out] at ho16 | (simp only [Int.reduceToNat] at ho16; rw [← Ny309.out] at ho16)); have HO311 := ak (Kd.R_lower (Kd.R_newB (Kd.R_new' ho16 (Kd.R_lt (ra_ HO306.out))) (g := gb303) (o := .cells #[.int .i64 a1] 3 (0, 0)) (bk_ BK303.out)) (below_size (bs1_ HB.out GE303.out))); replace HO306 := ak (Kd.R_elder' (ra_ HO306.out) (Kd.R_base ho16) hb); replace BK303 := ak (blk_below (bk_ BK303.out) hb); replace HB := ak (below_step (bs1_ HB.out GE303.out) hb); clear hb ho16; obtain ⟨Ao17, co17, eo17⟩ := Kd.R_slice HO306.out; subst eo17; obtain ⟨Ao18, co18, eo18⟩ := Kd.R_slice HO311.out; subst eo18) | ((with_reducible refine gate_callee (f := 262) rfl ?_); refine goesM_ (some 24) rfl rfl Try.func262 (by kernel_rfl) rfl #[.slice Ao17 t304.length co17, .int .i64 (l0.length : Int), .slice Ao18 y309.length co18] rfl ?_; (with_reducible refine (slices_Insert_int_int.calls (fun k_ => some k_ = (.slice Ao17 t304.length co17 : Value).ownBlock) (.slice Ao17 t304.length co17) t304 (l0.length : Int) (fun k_ => some k_ = (.slice Ao18 y309.length co18 : Value).ownBlock) (.slice Ao18 y309.length co18) y309 t312 w _ ?side1 ?side2 ?side3 ?side4 ?side5 A11.out).mono ?_); (case side1 => repeat (first | (with_reducible first | exact HB.out | apply below_alloc | apply pw_below_drewN | apply below_drew1 | refine below_set ?_ GE303.out) | exact HB.out)); (case side2 => exact Kd.R_tight rfl HO306.out); (case side3 => exact fun k_ e_ => (HO306.out.1 k_ e_.symm).2); (case side4 => exact Kd.R_tight rfl HO311.out); (case side5 => exact fun k_ e_ => (HO311.out.1 k_ e_.symm).1.2); rintro e w19 ⟨v313, rfl, ho0, hb, hkp⟩; refine ⟨_, rfl, ?_⟩; have HO314 := ak (Kd.R_mono (ok' := fun k_ => k_ ≠ gb303) ho0 (fun k_ hk_ => Or.elim hk_ (fun hs_ => Or.elim hs_ (fun hs_ => fun e_ => (Kd.R_away HO306.out (fun _ hk => hk.1.2)) (by rw [← e_]; exact hs_)) (fun hs_ => fun e_ => (Kd.R_away HO311.out (fun _ hk => hk.2)) (by rw [← e_]; exact hs_))) (fun hn_ => (Kd.freshB (g := gb303) (o := .cells #[.int .i64 a1] 3 (0, 0)) (bk_ BK303.out) k_ hn_)))); replace BK303 := ak (blk_kept (bk_ BK303.out) hkp (fun hs_ => Or.elim hs_ (fun e_ => (fun e_ => (Kd.R_away HO306.out (fun _ hk => hk.1.2)) e_) e_) (fun e_ => (fun e_ => (Kd.R_away HO311.out (fun _ hk => hk.2)) e_) e_))); replace HB := ak (hb); clear HO306 HO311; (try clear hb); (try clear hkp); (try clear ho0)))
    go_ret
    exact ⟨_, by first | rfl | (simp [errW_none, errW_some] <;> rfl) | (simp [*, errW_none, errW_some] <;> rfl), by (with_reducible repeat (first | apply Kd.R_alloc | apply Kd.R_drewN | apply Kd.R_drew)); exact Kd.R_mono HO314.out (fun _ hk => trivial), by repeat (first | (with_reducible first | exact HB.out | apply below_alloc | apply pw_below_drewN | apply below_drew1 | refine below_set ?_ GE303.out) | exact HB.out)⟩
  rw [if_neg c10] at H; have c10b0 := decide_eq_false c10; clear c10; obtain ⟨y315, hy315⟩ : ∃ y_ : List Int, y_ = (([a1] : List Int)) := ⟨_, rfl⟩; replace H : ((slices_Insert_int_int.f t304 t308 y315).bind fun t318 => (some t318)) = some r := by first | (rw [hy315]; with_reducible exact H) | (have H2_ := (Option.bind_some _ _).symm.trans H; rw [hy315]; with_reducible exact H2_) | (have H2_ := (Option.bind_some _ _).symm.trans H; with_reducible exact H2_) | with_reducible exact H | (rw [hy315]; exact H) | exact H
  have Ny315 := ak hy315; clear hy315; replace H := Option.bind_eq_some_iff.mp H; obtain ⟨t318, A200, H⟩ := H; have A20 := ak A200; clear A200; obtain rfl := Option.some.inj H
  go_enter Try.func183, Try.ntmps183
  go_wp2_with (first | ((with_reducible refine gate_dst (N := 3) rfl ?_); refine bxe_ (N := 3) (cs := #[.int .i64 a1]) (t := 3) ?_; intro gb303 hg w21 hbox hb; have BK303 := ak (hbox); have GW303 := ak (lg_ hg (bl_ HB.out)); have GE303 := ak (lg_ hg (bl_ HB.out)); replace HB := ak (below_step (bl_ HB.out) hb); clear hb hbox hg) | ((with_reducible refine gate_callee (f := 260) rfl ?_); refine goesM_ (some 8) rfl rfl Try.func260 (by kernel_rfl) rfl #[.slice A0 l0.length c0] rfl ?_; (with_reducible refine (slices_Clone_int_int.calls _ _ l0 t304 _ ?side1 ?side2 A3.out).mono ?_); (case side1 => exact cb_ HR0.out HB.out); (case side2 => exact HC0.out); rintro e w22 ⟨v305, rfl, ho0, hb⟩; refine ⟨_, rfl, ?_⟩; have HO306 := ak (Kd.R_lower (Kd.R_newB ho0 (g := gb303) (o := .cells #[.int .i64 a1] 3 (0, 0)) (bk_ BK303.out)) (below_size (bs1_ HB.out GE303.out))); replace BK303 := ak (blk_below (bk_ BK303.out) hb); replace HB := ak (below_step (bs1_ HB.out GE303.out) hb); (try clear hb); (try clear hb2); (try clear hk); (try clear hi); (try clear ho0); have hcz23_0 := bc_ BK303.out 0; have hfz23_0 := blk_frozen BK303.out 0) | ((with_reducible refine gate_callee (f := 169) rfl ?_); refine goesM_ (some 11) rfl rfl Try.func169 (by kernel_rfl) rfl #[.slice A0 l0.length c0, .int .i64 a1] rfl ?_; (with_reducible refine (impl_NumIn.calls k _ _ l0 a1 false _ ?side1 ?side2 A4.out).mono ?_); (case side1 => exact cb_ HR0.out HB.out); (case side2 => exact HC0.out); rintro e w' ⟨rfl, ⟨nd, rfl⟩⟩; refine ⟨_, rfl, ?_⟩) | ((with_reducible refine gate_callee (f := 227) rfl ?_); refine goesM_ (some 15) rfl rfl Try.func227 (by kernel_rfl) rfl #[.slice A0 l0.length c0, .func (.func 261) #[] #[.pointer (some ⟨gb303, 0, none⟩)]] rfl ?_; (with_reducible refine (slices_IndexFunc_int_int__with_impl_NumAdd_1.calls k _ _ l0  gb303 a1 t308 _ ?side1 ?side2 ?side3 A9.out).mono ?_); (case side1 => exact ca_ (Kd.C_below HR0.out (bs1_ HB.out GE303.out))); (case side2 => exact HC0.out); (case side3 => exact (bk_ BK303.out)); rintro e w' ⟨rfl, ⟨nd, rfl⟩⟩; refine ⟨_, rfl, ?_⟩) | ((with_reducible refine gate_dst (N := 23) rfl ?_); refine Kd.R_lit (Kd.int .i64) _ 3 ?hg (N := 23) ?hd (xs := ([a1] : List Int)) (inner := [.int .i64 a1]) (ok := fun _ => True) (okp := fun _ => True) ?hr ?hp (fun _ hk => hk) trivial (Below.refl _ _) (Nat.le_refl _) (by simp) ?_; (case hd => rfl); (case hg => rfl); (case hr => first | (go_simp; done) | (go_simp; rfl)); (case hp => exact (Reps.one (show Kd.M (Kd.int .i64) _ _ _ a1 [.int .i64 a1] from rfl) (Reps.none _ _))); intro v316 w24 ho25 hb hg_ hnew_; clear hg_ hnew_; (first | rw [← Ny315.out] at ho25 | (simp only [Int.reduceToNat] at ho25; rw [← Ny315.out] at ho25)); have HO317 := ak (Kd.R_lower (Kd.R_newB (Kd.R_new' ho25 (Kd.R_lt (ra_ HO306.out))) (g := gb303) (o := .cells #[.int .i64 a1] 3 (0, 0)) (bk_ BK303.out)) (below_size (bs1_ HB.out GE303.out))); replace HO306 := ak (Kd.R_elder' (ra_ HO306.out) (Kd.R_base ho25) hb); replace BK303 := ak (blk_below (bk_ BK303.out) hb); replace HB := ak (below_step (bs1_ HB.out GE303.out) hb); clear hb ho25; obtain ⟨Ao26, co26, eo26⟩ := Kd.R_slice HO306.out; subst eo26; obtain ⟨Ao27, co27, eo27⟩ := Kd.R_slice HO317.out; subst eo27) | ((with_reducible refine gate_callee (f := 262) rfl ?_); refine goesM_ (some 24) rfl rfl Try.func262 (by kernel_rfl) rfl #[.slice Ao26 t304.length co26, .int .i64 t308, .slice Ao27 y315.length co27] rfl ?_; (with_reducible refine (slices_Insert_int_int.calls (fun k_ => some k_ = (.slice Ao26 t304.length co26 : Value).ownBlock) (.slice Ao26 t304.length co26) t304 t308 (fun k_ => some k_ = (.slice Ao27 y315.length co27 : Value).ownBlock) (.slice Ao27 y315.length co27) y315 t318 w _ ?side1 ?side2 ?side3 ?side4 ?side5 A20.out).mono ?_); (case side1 => repeat (first | (with_reducible first | exact HB.out | apply below_alloc | apply pw_below_drewN | apply below_drew1 | refine below_set ?_ GE303.out) | exact HB.out)); (case side2 => exact Kd.R_tight rfl HO306.out); (case side3 => exact fun k_ e_ => (HO306.out.1 k_ e_.symm).2); (case side4 => exact Kd.R_tight rfl HO317.out); (case side5 => exact fun k_ e_ => (HO317.out.1 k_ e_.symm).1.2); rintro e w28 ⟨v319, rfl, ho0, hb, hkp⟩; refine ⟨_, rfl, ?_⟩; have HO320 := ak (Kd.R_mono (ok' := fun k_ => k_ ≠ gb303) ho0 (fun k_ hk_ => Or.elim hk_ (fun hs_ => Or.elim hs_ (fun hs_ => fun e_ => (Kd.R_away HO306.out (fun _ hk => hk.1.2)) (by rw [← e_]; exact hs_)) (fun hs_ => fun e_ => (Kd.R_away HO317.out (fun _ hk => hk.2)) (by rw [← e_]; exact hs_))) (fun hn_ => (Kd.freshB (g := gb303) (o := .cells #[.int .i64 a1] 3 (0, 0)) (bk_ BK303.out) k_ hn_)))); replace BK303 := ak (blk_kept (bk_ BK303.out) hkp (fun hs_ => Or.elim hs_ (fun e_ => (fun e_ => (Kd.R_away HO306.out (fun _ hk => hk.1.2)) e_) e_) (fun e_ => (fun e_ => (Kd.R_away HO317.out (fun _ hk => hk.2)) e_) e_))); replace HB := ak (hb); clear HO306 HO317; (try clear hb); (try clear hkp); (try clear ho0)))
  go_ret
  exact ⟨_, by first | rfl | (simp [errW_none, errW_some] <;> rfl) | (simp [*, errW_none, errW_some] <;> rfl), by (with_reducible repeat (first | apply Kd.R_alloc | apply Kd.R_drewN | apply Kd.R_drew)); exact Kd.R_mono HO320.out (fun _ hk => trivial), by repeat (first | (with_reducible first | exact HB.out | apply below_alloc | apply pw_below_drewN | apply below_drew1 | refine below_set ?_ GE303.out) | exact HB.out)⟩

/-! ### impl_usesB: function 215 -/
def impl_usesB.f (a0_0 : Int) (a0_1 : Int) (a0_2 : Int) (a0_3 : Int) (a0_4 : Int) (a0_5 : Bool) (a0_6 : Bool) (l0_7 : List Int) (a0_8 : Bool) (l0_9 : List (I_Bind)) (l0_10 : List (I_Lit)) : Option (Bool) := if a0_0 = 4 then (some true) else (some (a0_0 == 5))
set_option maxHeartbeats 8000000 in
set_option maxRecDepth 100000 in
theorem impl_usesB.calls (a0_0 : Int) (a0_1 : Int) (a0_2 : Int) (a0_3 : Int) (a0_4 : Int) (a0_5 : Bool) (a0_6 : Bool) (A0_7 : Option Addr) (c0_7 : Nat) (l0_7 : List Int) (a0_8 : Bool) (A0_9 : Option Addr) (c0_9 : Nat) (l0_9 : List (I_Bind)) (A0_10 : Option Addr) (c0_10 : Nat) (l0_10 : List (I_Lit)) (r : Bool) (w : World) (hr0_7 : Kd.C (Kd.int .i64) w A0_7 l0_7.length l0_7) (hc0_7 : l0_7.length ≤ c0_7) (hr0_9 : Kd.C k107 w A0_9 l0_9.length l0_9) (hc0_9 : l0_9.length ≤ c0_9) (hr0_10 : Kd.C k120 w A0_10 l0_10.length l0_10) (hc0_10 : l0_10.length ≤ c0_10) (h : impl_usesB.f a0_0 a0_1 a0_2 a0_3 a0_4 a0_5 a0_6 l0_7 a0_8 l0_9 l0_10 = some r) :
    Calls Try.prog 215 #[.agg #[.int .i64 a0_0, .int .i64 a0_1, .int .i64 a0_2, .int .i64 a0_3, .int .i64 a0_4, .bool a0_5, .bool a0_6, .slice A0_7 l0_7.length c0_7, .bool a0_8, .slice A0_9 l0_9.length c0_9, .slice A0_10 l0_10.length c0_10]] w fun e w' => e = .returned (.bool r) ∧ Below w.heap.size w w' := by
  have hu193 := Try.underlying193; have HR0_7 := ak hr0_7; have HC0_7 := ak hc0_7; clear hr0_7 hc0_7; have HR0_9 := ak hr0_9; have HC0_9 := ak hc0_9; clear hr0_9 hc0_9; have HR0_10 := ak hr0_10; have HC0_10 := ak hc0_10; clear hr0_10 hc0_10; have HB := ak (Below.refl w.heap.size w); have H : (if a0_0 = 4 then (some true) else (some (a0_0 == 5))) = some r := h; clear h
  by_cases c2 : a0_0 = 4
  · rw [if_pos c2] at H; have c2b0 : (a0_0 == 4) = true := beq_iff_eq.mpr c2; have c2b1 : (a0_0 != 4) = false := bne_eq_false_iff_eq.mpr c2; clear c2; obtain rfl := Option.some.inj H
    go_enter Try.func215, Try.ntmps215
    go_wp2_with (first | ((with_reducible refine gate_dst (N := 1) rfl ?_); refine bxe_ (N := 1) (cs := #[.int .i64 a0_0, .int .i64 a0_1, .int .i64 a0_2, .int .i64 a0_3, .int .i64 a0_4, .bool a0_5, .bool a0_6, .slice A0_7 l0_7.length c0_7, .bool a0_8, .slice A0_9 l0_9.length c0_9, .slice A0_10 l0_10.length c0_10]) (t := 193) ?_; intro gb321 hg w3 hbox hb; have BK321 := ak (hbox); have GW321 := ak (lg_ hg (bl_ HB.out)); have GE321 := ak (lg_ hg (bl_ HB.out)); replace HB := ak (below_step (bl_ HB.out) hb); clear hb hbox hg; have hcz4_0 := bc_ BK321.out 0; have hcz4_1 := bc_ BK321.out 1; have hcz4_2 := bc_ BK321.out 2; have hcz4_3 := bc_ BK321.out 3; have hcz4_4 := bc_ BK321.out 4; have hcz4_5 := bc_ BK321.out 5; have hcz4_6 := bc_ BK321.out 6; have hcz4_7 := bc_ BK321.out 7; have hcz4_8 := bc_ BK321.out 8; have hcz4_9 := bc_ BK321.out 9; have hcz4_10 := bc_ BK321.out 10; have hfz4_0 := blk_frozen BK321.out 0; have hfz4_1 := blk_frozen BK321.out 1; have hfz4_2 := blk_frozen BK321.out 2; have hfz4_3 := blk_frozen BK321.out 3; have hfz4_4 := blk_frozen BK321.out 4; have hfz4_5 := blk_frozen BK321.out 5; have hfz4_6 := blk_frozen BK321.out 6; have hfz4_7 := blk_frozen BK321.out 7; have hfz4_8 := blk_frozen BK321.out 8; have hfz4_9 := blk_frozen BK321.out 9; have hfz4_10 := blk_frozen BK321.out 10))
    go_ret
    exact fin_ (bs1_ HB.out GE321.out)
  rw [if_neg c2] at H; have c2b0 : (a0_0 == 4) = false := beq_eq_false_iff_ne.mpr c2; have c2b1 : (a0_0 != 4) = true := bne_iff_ne.mpr c2; obtain rfl := Option.some.inj H
  go_enter Try.func215, Try.ntmps215
  go_wp2_with (first | ((with_reducible refine gate_dst (N := 1) rfl ?_); refine bxe_ (N := 1) (cs := #[.int .i64 a0_0, .int .i64 a0_1, .int .i64 a0_2, .int .i64 a0_3, .int .i64 a0_4, .bool a0_5, .bool a0_6, .slice A0_7 l0_7.length c0_7, .bool a0_8, .slice A0_9 l0_9.length c0_9, .slice A0_10 l0_10.length c0_10]) (t := 193) ?_; intro gb321 hg w5 hbox hb; have BK321 := ak (hbox); have GW321 := ak (lg_ hg (bl_ HB.out)); have GE321 := ak (lg_ hg (bl_ HB.out)); replace HB := ak (below_step (bl_ HB.out) hb); clear hb hbox hg; have hcz6_0 := bc_ BK321.out 0; have hcz6_1 := bc_ BK321.out 1; have hcz6_2 := bc_ BK321.out 2; have hcz6_3 := bc_ BK321.out 3; have hcz6_4 := bc_ BK321.out 4; have hcz6_5 := bc_ BK321.out 5; have hcz6_6 := bc_ BK321.out 6; have hcz6_7 := bc_ BK321.out 7; have hcz6_8 := bc_ BK321.out 8; have hcz6_9 := bc_ BK321.out 9; have hcz6_10 := bc_ BK321.out 10; have hfz6_0 := blk_frozen BK321.out 0; have hfz6_1 := blk_frozen BK321.out 1; have hfz6_2 := blk_frozen BK321.out 2; have hfz6_3 := blk_frozen BK321.out 3; have hfz6_4 := blk_frozen BK321.out 4; have hfz6_5 := blk_frozen BK321.out 5; have hfz6_6 := blk_frozen BK321.out 6; have hfz6_7 := blk_frozen BK321.out 7; have hfz6_8 := blk_frozen BK321.out 8; have hfz6_9 := blk_frozen BK321.out 9; have hfz6_10 := blk_frozen BK321.out 10))
  go_ret
  exact fin_ (bs1_ HB.out GE321.out)

end Go.Proofs.Ytejfjfhopapaaaa.XDeepOf
