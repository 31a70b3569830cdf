-- printed by a program of this session (xprint, turned from the kit's print) for this claim
import Derived.Test.YtejfjfhopapaaaaXUsesOfx0
import Derived.Test.YtejfjfhopapaaaaXUsesOfx1
import Derived.Test.YtejfjfhopapaaaaXUsesOfx2
import Derived.Test.YtejfjfhopapaaaaXUsesOfx4
import Derived.Test.YtejfjfhopapaaaaXUsesOfx6
import Derived.Test.YtejfjfhopapaaaaXUsesOfx8
namespace Go.Proofs.Ytejfjfhopapaaaa.XUsesOf
open Go.RowKit Go.Proofs.Ytejfjfhopapaaaa.XOpens Go.Proofs.YtejfjfhopapaaaaW.PrintWords Go.Proofs.YtejfjfhopapaaaaW.PrintLast Go.Proofs.YtejfjfhopapaaaaW.PrintMore
attribute [local go_sem] max2_int min2_int max_two min_two max_three min_three max_four min_four   -- for this text's walks alone
set_option linter.unusedVariables false
set_option linter.unusedSimpArgs false

/-! ### laws_FnExactUsesOf: function 7 -/
mutual
def laws_FnExactUsesOf.j0 : Nat → List (L_Step) → Int → Option (Bool)
  | 0, _, _ => none
  | k + 1, x0, x1 => (laws_toStepS.f k x0).bind fun t333 => ((spec_UsesOf.f k t333 x1).bind fun t336 => ((laws_toStepS.f k x0).bind fun t337 => ((impl_UsesOf.f k t337 x1).bind fun t340 => (if t340 = t336 then (laws_FnExactUsesOf.j1 k x0 t337) else (some false)))))
def laws_FnExactUsesOf.j1 : Nat → List (L_Step) → List (I_Step) → Option (Bool)
  | 0, _, _ => none
  | k + 1, x0, x7 => (laws_toStepS.f k x0).bind fun t341 => ((laws_eqStepS.f k x7 t341).bind fun t344 => (if t344 = true then (some true) else (some false)))
end
def laws_FnExactUsesOf.f (k : Nat) (l0 : List (L_Step)) (a1 : Int) : Option (Bool) := (laws_szStepS.f k l0 1048576).bind fun t332 => (if t332 < 0 then (some true) else (laws_FnExactUsesOf.j0 k l0 a1))
theorem laws_FnExactUsesOf.mono_l : ∀ k, (∀ y0 y1, LeO (laws_FnExactUsesOf.j0 k y0 y1) (laws_FnExactUsesOf.j0 (k + 1) y0 y1)) ∧ (∀ y0 y1, LeO (laws_FnExactUsesOf.j1 k y0 y1) (laws_FnExactUsesOf.j1 (k + 1) y0 y1))
  | 0 => ⟨fun _ _ r h => by simp [laws_FnExactUsesOf.j0] at h, fun _ _ r h => by simp [laws_FnExactUsesOf.j1] at h⟩
  | k + 1 => by
    obtain ⟨ih0, ih1⟩ := laws_FnExactUsesOf.mono_l k; refine ⟨?_, ?_⟩
    · intro y0 y1
      unfold laws_FnExactUsesOf.j0
      repeat' first | (with_reducible first | exact ih0 _ _ | exact ih1 _ _ | exact impl_UsesOf.mono _ _ _ | exact laws_eqStepS.mono _ _ _ | exact laws_szStepS.mono _ _ _ | exact laws_toStepS.mono _ _ | exact spec_UsesOf.mono _ _ _ | exact LeO.refl _ | exact LeO.none _ | refine LeO.ite ?_ ?_ | refine LeO.bind ?_ (fun _ => ?_)) | exact ih0 _ _ | exact ih1 _ _ | exact impl_UsesOf.mono _ _ _ | exact laws_eqStepS.mono _ _ _ | exact laws_szStepS.mono _ _ _ | exact laws_toStepS.mono _ _ | exact spec_UsesOf.mono _ _ _ | exact LeO.none _ | refine LeO.ite ?_ ?_ | refine LeO.bind ?_ (fun _ => ?_)
    · intro y0 y1
      unfold laws_FnExactUsesOf.j1
      repeat' first | (with_reducible first | exact ih0 _ _ | exact ih1 _ _ | exact impl_UsesOf.mono _ _ _ | exact laws_eqStepS.mono _ _ _ | exact laws_szStepS.mono _ _ _ | exact laws_toStepS.mono _ _ | exact spec_UsesOf.mono _ _ _ | exact LeO.refl _ | exact LeO.none _ | refine LeO.ite ?_ ?_ | refine LeO.bind ?_ (fun _ => ?_)) | exact ih0 _ _ | exact ih1 _ _ | exact impl_UsesOf.mono _ _ _ | exact laws_eqStepS.mono _ _ _ | exact laws_szStepS.mono _ _ _ | exact laws_toStepS.mono _ _ | exact spec_UsesOf.mono _ _ _ | exact LeO.none _ | refine LeO.ite ?_ ?_ | refine LeO.bind ?_ (fun _ => ?_)
theorem laws_FnExactUsesOf.mono : ∀ a0 a1 k, LeO (laws_FnExactUsesOf.f k a0 a1) (laws_FnExactUsesOf.f (k + 1) a0 a1) := by
  intro a0 a1 k; obtain ⟨ih0, ih1⟩ := laws_FnExactUsesOf.mono_l k
  unfold laws_FnExactUsesOf.f
  repeat' first
      | (with_reducible exact ih0 _ _)
      | (with_reducible exact ih1 _ _)
      | (with_reducible exact impl_UsesOf.mono _ _ _)
      | (with_reducible exact laws_eqStepS.mono _ _ _)
      | (with_reducible exact laws_szStepS.mono _ _ _)
      | (with_reducible exact laws_toStepS.mono _ _)
      | (with_reducible exact spec_UsesOf.mono _ _ _)
      | (with_reducible exact LeO.refl _)
      | (with_reducible exact LeO.none _)
      | (with_reducible refine LeO.ite ?_ ?_)
      | (with_reducible refine LeO.bind ?_ (fun _ => ?_))
      | exact ih0 _ _
      | exact ih1 _ _
      | exact impl_UsesOf.mono _ _ _
      | exact laws_eqStepS.mono _ _ _
      | exact laws_szStepS.mono _ _ _
      | exact laws_toStepS.mono _ _
      | exact spec_UsesOf.mono _ _ _
      | exact LeO.none _
      | refine LeO.ite ?_ ?_
      | refine LeO.bind ?_ (fun _ => ?_)
set_option maxHeartbeats 8000000 in
set_option maxRecDepth 100000 in
theorem laws_FnExactUsesOf.calls (k : Nat) (A0 : Option Addr) (c0 : Nat) (l0 : List (L_Step)) (a1 : Int) (r : Bool) (w : World) (hr0 : Kd.C k189 w A0 l0.length l0) (hc0 : l0.length ≤ c0) (h : laws_FnExactUsesOf.f k l0 a1 = some r) :
    Calls Try.prog 7 #[.slice A0 l0.length c0, .int .i64 a1] w fun e w' => e = .returned (.bool r) ∧ Below w.heap.size w w' := by
  have HR0 := ak hr0; have HC0 := ak hc0; clear hr0 hc0; have HB := ak (Below.refl w.heap.size w); have H : ((laws_szStepS.f k l0 1048576).bind fun t332 => (if t332 < 0 then (some true) else (laws_FnExactUsesOf.j0 k l0 a1))) = some r := h; clear h; replace H := Option.bind_eq_some_iff.mp H; obtain ⟨t332, A30, H⟩ := H; have A3 := ak A30; clear A30; have HC4 := ak H; clear H
  go_enter Try.func7, Try.ntmps7
  go_upto_if 13 with (first | ((with_reducible refine gate_callee (f := 66) rfl ?_); refine goesM_ (some 11) rfl rfl Try.func66 (by kernel_rfl) rfl #[.slice A0 l0.length c0, .int .i64 1048576] rfl ?_; (with_reducible refine (laws_szStepS.calls k _ _ l0 1048576 t332 _ ?side1 ?side2 A3.out).mono ?_); (case side1 => exact ca_ HR0.out); (case side2 => exact HC0.out); rintro e w5 ⟨rfl, hb⟩; refine ⟨_, rfl, ?_⟩; replace HB := ak (below_step (bl_ HB.out) hb); (try clear hb); (try clear hb2); (try clear hk); (try clear hi)))
  (try simp only [Act.put, List.setIfInBounds_toArray, List.set_cons_zero, List.set_cons_succ])
  go_cut [] (fun wc => ∃ (kq : Nat), Aside0 (laws_FnExactUsesOf.j0 kq l0 a1 = some r) ∧ Aside0 (kq ≤ k) ∧ Aside0 (Below w.heap.size w wc))
  case first =>
    have H := HC4.out; clear HC4
    by_cases c6 : t332 < 0
    · rw [if_pos c6] at H; have c6b0 := decide_eq_true c6; clear c6; (first | rw [c6b0] | (simp only [i64_w, i32_w]; rw [c6b0]) | (rw [show ∀ x_ y_ : Bool, (!(x_ == y_)) = (x_ != y_) from fun _ _ => rfl, c6b0]) | skip); obtain rfl := Option.some.inj H
      go_wp2
      go_ret
      exact fin_ (bl_ HB.out)
    rw [if_neg c6] at H; have c6b0 := decide_eq_false c6; clear c6; (first | rw [c6b0] | (simp only [i64_w, i32_w]; rw [c6b0]) | (rw [show ∀ x_ y_ : Bool, (!(x_ == y_)) = (x_ != y_) from fun _ _ => rfl, c6b0]) | skip); have H' := ak H; clear H
    go_wp2
    go_meet
    case rel => exact ⟨_, H', ⟨by first | omega | exact Nat.le_refl _⟩, ⟨by repeat (first | (with_reducible first | exact HB.out | apply below_alloc | apply pw_below_drewN | apply below_drew1) | exact HB.out)⟩⟩
  clear HC4; (try clear p2); (try clear c6); (try clear c6b0); obtain ⟨kq, HA, HJ3, HB⟩ := hcut
  cases kq with
  | zero => exact absurd HA.out (by simp [laws_FnExactUsesOf.j0])
  | succ kj3 => ?_
  have H := HA.out; clear HA
  simp only [laws_FnExactUsesOf.j0] at H
  replace H := Option.bind_eq_some_iff.mp H; obtain ⟨t333, A70, H⟩ := H; have A7 := ak A70; clear A70; replace H := Option.bind_eq_some_iff.mp H; obtain ⟨t336, A80, H⟩ := H; have A8 := ak A80; clear A80; replace H := Option.bind_eq_some_iff.mp H; obtain ⟨t337, A90, H⟩ := H; have A9 := ak A90; clear A90; replace H := Option.bind_eq_some_iff.mp H; obtain ⟨t340, A100, H⟩ := H; have A10 := ak A100; clear A100; have HC11 := ak H; clear H
  go_upto_if 25 with (first | ((with_reducible refine gate_callee (f := 68) rfl ?_); refine goesM_ (some 15) rfl rfl Try.func68 (by kernel_rfl) rfl #[.slice A0 l0.length c0] rfl ?_; (with_reducible refine (laws_toStepS.calls kj3 _ _ l0 t333 _ ?side1 ?side2 A7.out).mono ?_); (case side1 => exact cb_ HR0.out HB.out); (case side2 => exact HC0.out); rintro e w12 ⟨v334, rfl, ho0, hb⟩; refine ⟨_, rfl, ?_⟩; have HO335 := ak (Kd.R_lower ho0 (below_size (bl_ HB.out))); replace HB := ak (below_step (bl_ HB.out) hb); (try clear hb); (try clear hb2); (try clear hk); (try clear hi); (try clear ho0); obtain ⟨Ao13, co13, eo13⟩ := Kd.R_slice HO335.out; subst eo13) | ((with_reducible refine gate_callee (f := 67) rfl ?_); refine goesM_ (some 17) rfl rfl Try.func67 (by kernel_rfl) rfl #[.slice Ao13 t333.length co13, .int .i64 a1] rfl ?_; (with_reducible refine (spec_UsesOf.calls kj3 _ _ t333 a1 t336 _ ?side1 ?side2 A8.out).mono ?_); (case side1 => exact ca_ (Kd.R_reads' HO335.out).2.2); (case side2 => exact (Kd.R_reads' HO335.out).2.1); rintro e w14 ⟨rfl, hb⟩; refine ⟨_, rfl, ?_⟩; replace HO335 := ak (Kd.R_below (ra_ HO335.out) hb); replace HB := ak (below_step (bl_ HB.out) hb); (try clear hb); (try clear hb2); (try clear hk); (try clear hi)) | ((with_reducible refine gate_callee (f := 68) rfl ?_); refine goesM_ (some 19) rfl rfl Try.func68 (by kernel_rfl) rfl #[.slice A0 l0.length c0] rfl ?_; (with_reducible refine (laws_toStepS.calls kj3 _ _ l0 t337 _ ?side1 ?side2 A9.out).mono ?_); (case side1 => exact cb_ HR0.out HB.out); (case side2 => exact HC0.out); rintro e w15 ⟨v338, rfl, ho0, hb⟩; refine ⟨_, rfl, ?_⟩; have HO339 := ak (Kd.R_lower (Kd.R_new' ho0 (Kd.R_lt (ra_ HO335.out))) (below_size (bl_ HB.out))); replace HO335 := ak (Kd.R_elder' (ra_ HO335.out) (Kd.R_base ho0) hb); replace HB := ak (below_step (bl_ HB.out) hb); (try clear hb); (try clear hb2); (try clear hk); (try clear hi); (try clear ho0); obtain ⟨Ao16, co16, eo16⟩ := Kd.R_slice HO339.out; subst eo16) | ((with_reducible refine gate_callee (f := 69) rfl ?_); refine goesM_ (some 22) rfl rfl Try.func69 (by kernel_rfl) rfl #[.slice Ao16 t337.length co16, .int .i64 a1] rfl ?_; (with_reducible refine (impl_UsesOf.calls kj3 _ _ t337 a1 t340 _ ?side1 ?side2 A10.out).mono ?_); (case side1 => exact ca_ (Kd.R_reads' HO339.out).2.2); (case side2 => exact (Kd.R_reads' HO339.out).2.1); rintro e w17 ⟨rfl, hb⟩; refine ⟨_, rfl, ?_⟩; replace HO335 := ak (Kd.R_below (ra_ HO335.out) hb); replace HO339 := ak (Kd.R_below (ra_ HO339.out) hb); replace HB := ak (below_step (bl_ HB.out) hb); (try clear hb); (try clear hb2); (try clear hk); (try clear hi)))
  (try simp only [Act.put, List.setIfInBounds_toArray, List.set_cons_zero, List.set_cons_succ])
  go_cut [] (fun wc => ∃ (kq : Nat), Aside0 (laws_FnExactUsesOf.j1 kq l0 t337 = some r) ∧ Aside0 (kq ≤ kj3) ∧ Aside0 (Kd.R k193 193 wc w.heap.size (fun _ => True) (.slice Ao16 t337.length co16) t337) ∧ Aside0 (Below w.heap.size w wc))
  case first =>
    have H := HC11.out; clear HC11
    by_cases c18 : t340 = t336
    · rw [if_pos c18] at H; have c18b0 : (t340 == t336) = true := beq_iff_eq.mpr c18; have c18b1 : (t340 != t336) = false := bne_eq_false_iff_eq.mpr c18; clear c18; (first | rw [c18b0] | (simp only [i64_w, i32_w]; rw [c18b0]) | (rw [show ∀ x_ y_ : Bool, (!(x_ == y_)) = (x_ != y_) from fun _ _ => rfl, c18b0]) | skip); have H' := ak H; clear H
      go_wp2
      go_meet
      case rel => exact ⟨_, H', ⟨by have := HJ3.out; first | omega | exact Nat.le_refl _⟩, ⟨by (with_reducible repeat (first | apply Kd.R_alloc | apply Kd.R_drewN | apply Kd.R_drew)); exact Kd.R_mono HO339.out (fun _ hk => trivial)⟩, ⟨by repeat (first | (with_reducible first | exact HB.out | apply below_alloc | apply pw_below_drewN | apply below_drew1) | exact HB.out)⟩⟩
    rw [if_neg c18] at H; have c18b0 : (t340 == t336) = false := beq_eq_false_iff_ne.mpr c18; have c18b1 : (t340 != t336) = true := bne_iff_ne.mpr c18; (first | rw [c18b0] | (simp only [i64_w, i32_w]; rw [c18b0]) | (rw [show ∀ x_ y_ : Bool, (!(x_ == y_)) = (x_ != y_) from fun _ _ => rfl, c18b0]) | skip); obtain rfl := Option.some.inj H
    go_wp2
    go_ret
    exact fin_ (bl_ HB.out)
  clear HC11; (try clear c1); (try clear p2); (try clear c7); (try clear c18); (try clear c18b0); (try clear c18b1); (try clear p2); obtain ⟨kq, HA, HJ10, HO_7, HB⟩ := hcut
  cases kq with
  | zero => exact absurd HA.out (by simp [laws_FnExactUsesOf.j1])
  | succ kj10 => ?_
  have H := HA.out; clear HA
  simp only [laws_FnExactUsesOf.j1] at H
  replace H := Option.bind_eq_some_iff.mp H; obtain ⟨t341, A190, H⟩ := H; have A19 := ak A190; clear A190; replace H := Option.bind_eq_some_iff.mp H; obtain ⟨t344, A200, H⟩ := H; have A20 := ak A200; clear A200
  by_cases c21 : t344 = true
  · subst c21; rw [if_pos rfl] at H; obtain rfl := Option.some.inj H
    go_wp2_with (first | ((with_reducible refine gate_callee (f := 68) rfl ?_); refine goesM_ (some 28) rfl rfl Try.func68 (by kernel_rfl) rfl #[.slice A0 l0.length c0] rfl ?_; (with_reducible refine (laws_toStepS.calls kj10 _ _ l0 t341 _ ?side1 ?side2 A19.out).mono ?_); (case side1 => exact cb_ HR0.out HB.out); (case side2 => exact HC0.out); rintro e w22 ⟨v342, rfl, ho0, hb⟩; refine ⟨_, rfl, ?_⟩; have HO343 := ak (Kd.R_lower (Kd.R_new' ho0 (Kd.R_lt (ra_ HO_7.out))) (below_size (bl_ HB.out))); replace HO_7 := ak (Kd.R_elder' (ra_ HO_7.out) (Kd.R_base ho0) hb); replace HB := ak (below_step (bl_ HB.out) hb); (try clear hb); (try clear hb2); (try clear hk); (try clear hi); (try clear ho0); obtain ⟨Ao23, co23, eo23⟩ := Kd.R_slice HO343.out; subst eo23) | ((with_reducible refine gate_callee (f := 70) rfl ?_); refine goesM_ (some 29) rfl rfl Try.func70 (by kernel_rfl) rfl #[.slice Ao16 t337.length co16, .slice Ao23 t341.length co23] rfl ?_; (with_reducible refine (laws_eqStepS.calls kj10 _ _ t337 _ _ t341 true _ ?side1 ?side2 ?side3 ?side4 A20.out).mono ?_); (case side1 => exact ca_ (Kd.R_reads' HO_7.out).2.2); (case side2 => exact (Kd.R_reads' HO_7.out).2.1); (case side3 => exact ca_ (Kd.R_reads' HO343.out).2.2); (case side4 => exact (Kd.R_reads' HO343.out).2.1); rintro e w24 ⟨rfl, hb⟩; refine ⟨_, rfl, ?_⟩; replace HO_7 := ak (Kd.R_below (ra_ HO_7.out) hb); replace HO343 := ak (Kd.R_below (ra_ HO343.out) hb); replace HB := ak (below_step (bl_ HB.out) hb); (try clear hb); (try clear hb2); (try clear hk); (try clear hi)))
    go_ret
    exact fin_ (bl_ HB.out)
  replace c21 := Bool.eq_false_iff.mpr c21; subst c21; rw [if_neg (show ¬ (false = true) by decide)] at H; obtain rfl := Option.some.inj H
  go_wp2_with (first | ((with_reducible refine gate_callee (f := 68) rfl ?_); refine goesM_ (some 28) rfl rfl Try.func68 (by kernel_rfl) rfl #[.slice A0 l0.length c0] rfl ?_; (with_reducible refine (laws_toStepS.calls kj10 _ _ l0 t341 _ ?side1 ?side2 A19.out).mono ?_); (case side1 => exact cb_ HR0.out HB.out); (case side2 => exact HC0.out); rintro e w25 ⟨v342, rfl, ho0, hb⟩; refine ⟨_, rfl, ?_⟩; have HO343 := ak (Kd.R_lower (Kd.R_new' ho0 (Kd.R_lt (ra_ HO_7.out))) (below_size (bl_ HB.out))); replace HO_7 := ak (Kd.R_elder' (ra_ HO_7.out) (Kd.R_base ho0) hb); replace HB := ak (below_step (bl_ HB.out) hb); (try clear hb); (try clear hb2); (try clear hk); (try clear hi); (try clear ho0); obtain ⟨Ao26, co26, eo26⟩ := Kd.R_slice HO343.out; subst eo26) | ((with_reducible refine gate_callee (f := 70) rfl ?_); refine goesM_ (some 29) rfl rfl Try.func70 (by kernel_rfl) rfl #[.slice Ao16 t337.length co16, .slice Ao26 t341.length co26] rfl ?_; (with_reducible refine (laws_eqStepS.calls kj10 _ _ t337 _ _ t341 false _ ?side1 ?side2 ?side3 ?side4 A20.out).mono ?_); (case side1 => exact ca_ (Kd.R_reads' HO_7.out).2.2); (case side2 => exact (Kd.R_reads' HO_7.out).2.1); (case side3 => exact ca_ (Kd.R_reads' HO343.out).2.2); (case side4 => exact (Kd.R_reads' HO343.out).2.1); rintro e w27 ⟨rfl, hb⟩; refine ⟨_, rfl, ?_⟩; replace HO_7 := ak (Kd.R_below (ra_ HO_7.out) hb); replace HO343 := ak (Kd.R_below (ra_ HO343.out) hb); replace HB := ak (below_step (bl_ HB.out) hb); (try clear hb); (try clear hb2); (try clear hk); (try clear hi)))
  go_ret
  exact fin_ (bl_ HB.out)

open Go.Proofs.Ytejfjfhopapaaaa.XOpens in
inductive Wf_L_Term : L_Term → Prop
  | mk (x : L_Term) (h0 : (Lit.int .i64 x.f0).wf = true) (h1 : (Lit.int .i64 x.f1).wf = true) (h2 : x.f2.length ≤ maxLen) (g2 : ∀ y ∈ x.f2, Wf_L_Term y) : Wf_L_Term x

open Go.Proofs.Ytejfjfhopapaaaa.XOpens in
theorem opens_L_Term {H : Type} {enc : TypeId × Value → H} {w : World} (n : Nat) : Opens enc Try.prog w 25 k25 Wf_L_Term n := by
  induction n using Nat.strongRecOn with
  | _ n ih =>
  intro cs x h
  obtain ⟨xs, m, rfl, _, hl, hxl, hf⟩ := DataW.trod_struct Try.underlying25 h
  rw [show Try.prog.cellsOf 25 = 3 from by kernel_rfl] at hl
  have g0 : DataW.trod enc Try.prog w 0 (fun _ => true) true m 3 (List.take (Try.prog.cellsOf 3) (List.drop 0 cs)) = xs[0]? := hf 0 _ rfl
  rw [List.getElem?_eq_getElem (show 0 < xs.length by rw [hxl]; simp)] at g0
  rw [show Try.prog.cellsOf 3 = 1 from by kernel_rfl] at g0
  obtain ⟨a0, k0_, w0⟩ := ((opens_int Try.underlying3) : Opens enc Try.prog w 3 (Kd.int .i64) (fun a => (Lit.int .i64 a).wf = true) m) _ _ g0
  have e0 : (cs.drop 0).take 1 = [.int .i64 a0] := k0_
  have g1 : DataW.trod enc Try.prog w 0 (fun _ => true) true m 3 (List.take (Try.prog.cellsOf 3) (List.drop 1 cs)) = xs[1]? := hf 1 _ rfl
  rw [List.getElem?_eq_getElem (show 1 < xs.length by rw [hxl]; simp)] at g1
  rw [show Try.prog.cellsOf 3 = 1 from by kernel_rfl] at g1
  obtain ⟨a1, k1_, w1⟩ := ((opens_int Try.underlying3) : Opens enc Try.prog w 3 (Kd.int .i64) (fun a => (Lit.int .i64 a).wf = true) m) _ _ g1
  have e1 : (cs.drop 1).take 1 = [.int .i64 a1] := k1_
  have g2 : DataW.trod enc Try.prog w 0 (fun _ => true) true m 23 (List.take (Try.prog.cellsOf 23) (List.drop 2 cs)) = xs[2]? := hf 2 _ rfl
  rw [List.getElem?_eq_getElem (show 2 < xs.length by rw [hxl]; simp)] at g2
  rw [show Try.prog.cellsOf 23 = 1 from by kernel_rfl] at g2
  obtain ⟨a2, k2_, w2⟩ := ((opens_slice Try.underlying23 (by kernel_rfl) (fun m_ hm_ => (ih m_ (by omega)))) : Opens enc Try.prog w 23 (Kd.slice 25 k25) (fun a => (a.length ≤ maxLen ∧ ∀ y ∈ a, Wf_L_Term y)) m) _ _ g2
  obtain ⟨A2, c2, e2, l2, q2⟩ := k2_
  have hc := (List.drop_zero (l := cs)).symm.trans ((show cs.drop 0 = (cs.drop 0).take 1 ++ cs.drop 1 from seg_split cs 0 1).trans (congrArg ((cs.drop 0).take 1 ++ ·) ((show cs.drop 1 = (cs.drop 1).take 1 ++ cs.drop 2 from seg_split cs 1 1).trans (congrArg ((cs.drop 1).take 1 ++ ·) ((show cs.drop 2 = (cs.drop 2).take 1 ++ cs.drop 3 from seg_split cs 2 1).trans (congrArg ((cs.drop 2).take 1 ++ ·) (seg_end cs 3 hl)))))))
  rw [e0, e1, e2] at hc
  simp only [List.cons_append, List.nil_append, List.append_nil] at hc
  exact ⟨⟨a0, a1, a2⟩, by rw [hc]; exact k25_mk w ⟨a0, a1, a2⟩ l2 q2, Wf_L_Term.mk _ w0 w1 w2.1 w2.2⟩

open Go.Proofs.Ytejfjfhopapaaaa.XOpens in
def Wf_L_Bind (x : L_Bind) : Prop := (Lit.int .i64 x.f0).wf = true ∧ Wf_L_Term x.f1

open Go.Proofs.Ytejfjfhopapaaaa.XOpens in
theorem opens_L_Bind {H : Type} {enc : TypeId × Value → H} {w : World} (n : Nat) : Opens enc Try.prog w 273 k273 Wf_L_Bind n := by
  induction n using Nat.strongRecOn with
  | _ n ih =>
  intro cs x h
  obtain ⟨xs, m, rfl, _, hl, hxl, hf⟩ := DataW.trod_struct Try.underlying273 h
  rw [show Try.prog.cellsOf 273 = 4 from by kernel_rfl] at hl
  have g0 : DataW.trod enc Try.prog w 0 (fun _ => true) true m 3 (List.take (Try.prog.cellsOf 3) (List.drop 0 cs)) = xs[0]? := hf 0 _ rfl
  rw [List.getElem?_eq_getElem (show 0 < xs.length by rw [hxl]; simp)] at g0
  rw [show Try.prog.cellsOf 3 = 1 from by kernel_rfl] at g0
  obtain ⟨a0, k0_, w0⟩ := ((opens_int Try.underlying3) : Opens enc Try.prog w 3 (Kd.int .i64) (fun a => (Lit.int .i64 a).wf = true) m) _ _ g0
  have e0 : (cs.drop 0).take 1 = [.int .i64 a0] := k0_
  have g1 : DataW.trod enc Try.prog w 0 (fun _ => true) true m 25 (List.take (Try.prog.cellsOf 25) (List.drop 1 cs)) = xs[1]? := hf 1 _ rfl
  rw [List.getElem?_eq_getElem (show 1 < xs.length by rw [hxl]; simp)] at g1
  rw [show Try.prog.cellsOf 25 = 3 from by kernel_rfl] at g1
  obtain ⟨a1, k1_, w1⟩ := ((opens_L_Term _) : Opens enc Try.prog w 25 k25 (fun a => Wf_L_Term a) m) _ _ g1
  obtain ⟨A1_2, c1_2, e1, l1_2, q1_2⟩ := k25_open k1_
  have hc := (List.drop_zero (l := cs)).symm.trans ((show cs.drop 0 = (cs.drop 0).take 1 ++ cs.drop 1 from seg_split cs 0 1).trans (congrArg ((cs.drop 0).take 1 ++ ·) ((show cs.drop 1 = (cs.drop 1).take 3 ++ cs.drop 4 from seg_split cs 1 3).trans (congrArg ((cs.drop 1).take 3 ++ ·) (seg_end cs 4 hl)))))
  rw [e0, e1] at hc
  simp only [List.cons_append, List.nil_append, List.append_nil] at hc
  exact ⟨⟨a0, a1⟩, by rw [hc]; exact k273_mk w ⟨a0, a1⟩ l1_2 q1_2, ⟨w0, w1⟩⟩

open Go.Proofs.Ytejfjfhopapaaaa.XOpens in
def Wf_L_Lit (x : L_Lit) : Prop := True ∧ Wf_L_Term x.f1 ∧ Wf_L_Term x.f2

open Go.Proofs.Ytejfjfhopapaaaa.XOpens in
theorem opens_L_Lit {H : Type} {enc : TypeId × Value → H} {w : World} (n : Nat) : Opens enc Try.prog w 139 k139 Wf_L_Lit n := by
  induction n using Nat.strongRecOn with
  | _ n ih =>
  intro cs x h
  obtain ⟨xs, m, rfl, _, hl, hxl, hf⟩ := DataW.trod_struct Try.underlying139 h
  rw [show Try.prog.cellsOf 139 = 7 from by kernel_rfl] at hl
  have g0 : DataW.trod enc Try.prog w 0 (fun _ => true) true m 4 (List.take (Try.prog.cellsOf 4) (List.drop 0 cs)) = xs[0]? := hf 0 _ rfl
  rw [List.getElem?_eq_getElem (show 0 < xs.length by rw [hxl]; simp)] at g0
  rw [show Try.prog.cellsOf 4 = 1 from by kernel_rfl] at g0
  obtain ⟨a0, k0_, w0⟩ := ((opens_bool Try.underlying4) : Opens enc Try.prog w 4 Kd.bool (fun a => True) m) _ _ g0
  have e0 : (cs.drop 0).take 1 = [.bool a0] := k0_
  have g1 : DataW.trod enc Try.prog w 0 (fun _ => true) true m 25 (List.take (Try.prog.cellsOf 25) (List.drop 1 cs)) = xs[1]? := hf 1 _ rfl
  rw [List.getElem?_eq_getElem (show 1 < xs.length by rw [hxl]; simp)] at g1
  rw [show Try.prog.cellsOf 25 = 3 from by kernel_rfl] at g1
  obtain ⟨a1, k1_, w1⟩ := ((opens_L_Term _) : Opens enc Try.prog w 25 k25 (fun a => Wf_L_Term a) m) _ _ g1
  obtain ⟨A1_2, c1_2, e1, l1_2, q1_2⟩ := k25_open k1_
  have g2 : DataW.trod enc Try.prog w 0 (fun _ => true) true m 25 (List.take (Try.prog.cellsOf 25) (List.drop 4 cs)) = xs[2]? := hf 2 _ rfl
  rw [List.getElem?_eq_getElem (show 2 < xs.length by rw [hxl]; simp)] at g2
  rw [show Try.prog.cellsOf 25 = 3 from by kernel_rfl] at g2
  obtain ⟨a2, k2_, w2⟩ := ((opens_L_Term _) : Opens enc Try.prog w 25 k25 (fun a => Wf_L_Term a) m) _ _ g2
  obtain ⟨A2_2, c2_2, e2, l2_2, q2_2⟩ := k25_open k2_
  have hc := (List.drop_zero (l := cs)).symm.trans ((show cs.drop 0 = (cs.drop 0).take 1 ++ cs.drop 1 from seg_split cs 0 1).trans (congrArg ((cs.drop 0).take 1 ++ ·) ((show cs.drop 1 = (cs.drop 1).take 3 ++ cs.drop 4 from seg_split cs 1 3).trans (congrArg ((cs.drop 1).take 3 ++ ·) ((show cs.drop 4 = (cs.drop 4).take 3 ++ cs.drop 7 from seg_split cs 4 3).trans (congrArg ((cs.drop 4).take 3 ++ ·) (seg_end cs 7 hl)))))))
  rw [e0, e1, e2] at hc
  simp only [List.cons_append, List.nil_append, List.append_nil] at hc
  exact ⟨⟨a0, a1, a2⟩, by rw [hc]; exact k139_mk w ⟨a0, a1, a2⟩ l1_2 q1_2 l2_2 q2_2, ⟨w0, w1, w2⟩⟩

open Go.Proofs.Ytejfjfhopapaaaa.XOpens in
def Wf_L_Clause (x : L_Clause) : Prop := (x.f0.length ≤ maxLen ∧ ∀ y ∈ x.f0, Wf_L_Lit y)

open Go.Proofs.Ytejfjfhopapaaaa.XOpens in
theorem opens_L_Clause {H : Type} {enc : TypeId × Value → H} {w : World} (n : Nat) : Opens enc Try.prog w 187 k187 Wf_L_Clause n := by
  induction n using Nat.strongRecOn with
  | _ n ih =>
  intro cs x h
  obtain ⟨xs, m, rfl, _, hl, hxl, hf⟩ := DataW.trod_struct Try.underlying187 h
  rw [show Try.prog.cellsOf 187 = 1 from by kernel_rfl] at hl
  have g0 : DataW.trod enc Try.prog w 0 (fun _ => true) true m 22 (List.take (Try.prog.cellsOf 22) (List.drop 0 cs)) = xs[0]? := hf 0 _ rfl
  rw [List.getElem?_eq_getElem (show 0 < xs.length by rw [hxl]; simp)] at g0
  rw [show Try.prog.cellsOf 22 = 1 from by kernel_rfl] at g0
  obtain ⟨a0, k0_, w0⟩ := ((opens_slice Try.underlying22 (by kernel_rfl) (fun m_ hm_ => (opens_L_Lit _))) : Opens enc Try.prog w 22 (Kd.slice 139 k139) (fun a => (a.length ≤ maxLen ∧ ∀ y ∈ a, Wf_L_Lit y)) m) _ _ g0
  obtain ⟨A0, c0, e0, l0, q0⟩ := k0_
  have hc := (List.drop_zero (l := cs)).symm.trans ((show cs.drop 0 = (cs.drop 0).take 1 ++ cs.drop 1 from seg_split cs 0 1).trans (congrArg ((cs.drop 0).take 1 ++ ·) (seg_end cs 1 hl)))
  rw [e0] at hc
  simp only [List.cons_append, List.nil_append, List.append_nil] at hc
  exact ⟨⟨a0⟩, by rw [hc]; exact k187_mk w ⟨a0⟩ l0 q0, w0⟩

open Go.Proofs.Ytejfjfhopapaaaa.XOpens in
def Wf_L_Step (x : L_Step) : Prop := (Lit.int .i64 x.f0).wf = true ∧ (Lit.int .i64 x.f1).wf = true ∧ (Lit.int .i64 x.f2).wf = true ∧ (Lit.int .i64 x.f3).wf = true ∧ (Lit.int .i64 x.f4).wf = true ∧ True ∧ True ∧ (x.f7.length ≤ maxLen ∧ ∀ y ∈ x.f7, (Lit.int .i64 y).wf = true) ∧ True ∧ (x.f9.length ≤ maxLen ∧ ∀ y ∈ x.f9, Wf_L_Bind y) ∧ Wf_L_Clause x.f10

open Go.Proofs.Ytejfjfhopapaaaa.XOpens in
theorem opens_L_Step {H : Type} {enc : TypeId × Value → H} {w : World} (n : Nat) : Opens enc Try.prog w 189 k189 Wf_L_Step n := by
  induction n using Nat.strongRecOn with
  | _ n ih =>
  intro cs x h
  obtain ⟨xs, m, rfl, _, hl, hxl, hf⟩ := DataW.trod_struct Try.underlying189 h
  rw [show Try.prog.cellsOf 189 = 11 from by kernel_rfl] at hl
  have g0 : DataW.trod enc Try.prog w 0 (fun _ => true) true m 3 (List.take (Try.prog.cellsOf 3) (List.drop 0 cs)) = xs[0]? := hf 0 _ rfl
  rw [List.getElem?_eq_getElem (show 0 < xs.length by rw [hxl]; simp)] at g0
  rw [show Try.prog.cellsOf 3 = 1 from by kernel_rfl] at g0
  obtain ⟨a0, k0_, w0⟩ := ((opens_int Try.underlying3) : Opens enc Try.prog w 3 (Kd.int .i64) (fun a => (Lit.int .i64 a).wf = true) m) _ _ g0
  have e0 : (cs.drop 0).take 1 = [.int .i64 a0] := k0_
  have g1 : DataW.trod enc Try.prog w 0 (fun _ => true) true m 3 (List.take (Try.prog.cellsOf 3) (List.drop 1 cs)) = xs[1]? := hf 1 _ rfl
  rw [List.getElem?_eq_getElem (show 1 < xs.length by rw [hxl]; simp)] at g1
  rw [show Try.prog.cellsOf 3 = 1 from by kernel_rfl] at g1
  obtain ⟨a1, k1_, w1⟩ := ((opens_int Try.underlying3) : Opens enc Try.prog w 3 (Kd.int .i64) (fun a => (Lit.int .i64 a).wf = true) m) _ _ g1
  have e1 : (cs.drop 1).take 1 = [.int .i64 a1] := k1_
  have g2 : DataW.trod enc Try.prog w 0 (fun _ => true) true m 3 (List.take (Try.prog.cellsOf 3) (List.drop 2 cs)) = xs[2]? := hf 2 _ rfl
  rw [List.getElem?_eq_getElem (show 2 < xs.length by rw [hxl]; simp)] at g2
  rw [show Try.prog.cellsOf 3 = 1 from by kernel_rfl] at g2
  obtain ⟨a2, k2_, w2⟩ := ((opens_int Try.underlying3) : Opens enc Try.prog w 3 (Kd.int .i64) (fun a => (Lit.int .i64 a).wf = true) m) _ _ g2
  have e2 : (cs.drop 2).take 1 = [.int .i64 a2] := k2_
  have g3 : DataW.trod enc Try.prog w 0 (fun _ => true) true m 3 (List.take (Try.prog.cellsOf 3) (List.drop 3 cs)) = xs[3]? := hf 3 _ rfl
  rw [List.getElem?_eq_getElem (show 3 < xs.length by rw [hxl]; simp)] at g3
  rw [show Try.prog.cellsOf 3 = 1 from by kernel_rfl] at g3
  obtain ⟨a3, k3_, w3⟩ := ((opens_int Try.underlying3) : Opens enc Try.prog w 3 (Kd.int .i64) (fun a => (Lit.int .i64 a).wf = true) m) _ _ g3
  have e3 : (cs.drop 3).take 1 = [.int .i64 a3] := k3_
  have g4 : DataW.trod enc Try.prog w 0 (fun _ => true) true m 3 (List.take (Try.prog.cellsOf 3) (List.drop 4 cs)) = xs[4]? := hf 4 _ rfl
  rw [List.getElem?_eq_getElem (show 4 < xs.length by rw [hxl]; simp)] at g4
  rw [show Try.prog.cellsOf 3 = 1 from by kernel_rfl] at g4
  obtain ⟨a4, k4_, w4⟩ := ((opens_int Try.underlying3) : Opens enc Try.prog w 3 (Kd.int .i64) (fun a => (Lit.int .i64 a).wf = true) m) _ _ g4
  have e4 : (cs.drop 4).take 1 = [.int .i64 a4] := k4_
  have g5 : DataW.trod enc Try.prog w 0 (fun _ => true) true m 4 (List.take (Try.prog.cellsOf 4) (List.drop 5 cs)) = xs[5]? := hf 5 _ rfl
  rw [List.getElem?_eq_getElem (show 5 < xs.length by rw [hxl]; simp)] at g5
  rw [show Try.prog.cellsOf 4 = 1 from by kernel_rfl] at g5
  obtain ⟨a5, k5_, w5⟩ := ((opens_bool Try.underlying4) : Opens enc Try.prog w 4 Kd.bool (fun a => True) m) _ _ g5
  have e5 : (cs.drop 5).take 1 = [.bool a5] := k5_
  have g6 : DataW.trod enc Try.prog w 0 (fun _ => true) true m 4 (List.take (Try.prog.cellsOf 4) (List.drop 6 cs)) = xs[6]? := hf 6 _ rfl
  rw [List.getElem?_eq_getElem (show 6 < xs.length by rw [hxl]; simp)] at g6
  rw [show Try.prog.cellsOf 4 = 1 from by kernel_rfl] at g6
  obtain ⟨a6, k6_, w6⟩ := ((opens_bool Try.underlying4) : Opens enc Try.prog w 4 Kd.bool (fun a => True) m) _ _ g6
  have e6 : (cs.drop 6).take 1 = [.bool a6] := k6_
  have g7 : DataW.trod enc Try.prog w 0 (fun _ => true) true m 52 (List.take (Try.prog.cellsOf 52) (List.drop 7 cs)) = xs[7]? := hf 7 _ rfl
  rw [List.getElem?_eq_getElem (show 7 < xs.length by rw [hxl]; simp)] at g7
  rw [show Try.prog.cellsOf 52 = 1 from by kernel_rfl] at g7
  obtain ⟨a7, k7_, w7⟩ := ((opens_slice Try.underlying52 (by kernel_rfl) (fun m_ hm_ => (opens_int Try.underlying3))) : Opens enc Try.prog w 52 (Kd.slice 3 (Kd.int .i64)) (fun a => (a.length ≤ maxLen ∧ ∀ y ∈ a, (Lit.int .i64 y).wf = true)) m) _ _ g7
  obtain ⟨A7, c7, e7, l7, q7⟩ := k7_
  have g8 : DataW.trod enc Try.prog w 0 (fun _ => true) true m 4 (List.take (Try.prog.cellsOf 4) (List.drop 8 cs)) = xs[8]? := hf 8 _ rfl
  rw [List.getElem?_eq_getElem (show 8 < xs.length by rw [hxl]; simp)] at g8
  rw [show Try.prog.cellsOf 4 = 1 from by kernel_rfl] at g8
  obtain ⟨a8, k8_, w8⟩ := ((opens_bool Try.underlying4) : Opens enc Try.prog w 4 Kd.bool (fun a => True) m) _ _ g8
  have e8 : (cs.drop 8).take 1 = [.bool a8] := k8_
  have g9 : DataW.trod enc Try.prog w 0 (fun _ => true) true m 185 (List.take (Try.prog.cellsOf 185) (List.drop 9 cs)) = xs[9]? := hf 9 _ rfl
  rw [List.getElem?_eq_getElem (show 9 < xs.length by rw [hxl]; simp)] at g9
  rw [show Try.prog.cellsOf 185 = 1 from by kernel_rfl] at g9
  obtain ⟨a9, k9_, w9⟩ := ((opens_slice Try.underlying185 (by kernel_rfl) (fun m_ hm_ => (opens_L_Bind _))) : Opens enc Try.prog w 185 (Kd.slice 273 k273) (fun a => (a.length ≤ maxLen ∧ ∀ y ∈ a, Wf_L_Bind y)) m) _ _ g9
  obtain ⟨A9, c9, e9, l9, q9⟩ := k9_
  have g10 : DataW.trod enc Try.prog w 0 (fun _ => true) true m 187 (List.take (Try.prog.cellsOf 187) (List.drop 10 cs)) = xs[10]? := hf 10 _ rfl
  rw [List.getElem?_eq_getElem (show 10 < xs.length by rw [hxl]; simp)] at g10
  rw [show Try.prog.cellsOf 187 = 1 from by kernel_rfl] at g10
  obtain ⟨a10, k10_, w10⟩ := ((opens_L_Clause _) : Opens enc Try.prog w 187 k187 (fun a => Wf_L_Clause a) m) _ _ g10
  obtain ⟨A10_0, c10_0, e10, l10_0, q10_0⟩ := k187_open k10_
  have hc := (List.drop_zero (l := cs)).symm.trans ((show cs.drop 0 = (cs.drop 0).take 1 ++ cs.drop 1 from seg_split cs 0 1).trans (congrArg ((cs.drop 0).take 1 ++ ·) ((show cs.drop 1 = (cs.drop 1).take 1 ++ cs.drop 2 from seg_split cs 1 1).trans (congrArg ((cs.drop 1).take 1 ++ ·) ((show cs.drop 2 = (cs.drop 2).take 1 ++ cs.drop 3 from seg_split cs 2 1).trans (congrArg ((cs.drop 2).take 1 ++ ·) ((show cs.drop 3 = (cs.drop 3).take 1 ++ cs.drop 4 from seg_split cs 3 1).trans (congrArg ((cs.drop 3).take 1 ++ ·) ((show cs.drop 4 = (cs.drop 4).take 1 ++ cs.drop 5 from seg_split cs 4 1).trans (congrArg ((cs.drop 4).take 1 ++ ·) ((show cs.drop 5 = (cs.drop 5).take 1 ++ cs.drop 6 from seg_split cs 5 1).trans (congrArg ((cs.drop 5).take 1 ++ ·) ((show cs.drop 6 = (cs.drop 6).take 1 ++ cs.drop 7 from seg_split cs 6 1).trans (congrArg ((cs.drop 6).take 1 ++ ·) ((show cs.drop 7 = (cs.drop 7).take 1 ++ cs.drop 8 from seg_split cs 7 1).trans (congrArg ((cs.drop 7).take 1 ++ ·) ((show cs.drop 8 = (cs.drop 8).take 1 ++ cs.drop 9 from seg_split cs 8 1).trans (congrArg ((cs.drop 8).take 1 ++ ·) ((show cs.drop 9 = (cs.drop 9).take 1 ++ cs.drop 10 from seg_split cs 9 1).trans (congrArg ((cs.drop 9).take 1 ++ ·) ((show cs.drop 10 = (cs.drop 10).take 1 ++ cs.drop 11 from seg_split cs 10 1).trans (congrArg ((cs.drop 10).take 1 ++ ·) (seg_end cs 11 hl)))))))))))))))))))))))
  rw [e0, e1, e2, e3, e4, e5, e6, e7, e8, e9, e10] at hc
  simp only [List.cons_append, List.nil_append, List.append_nil] at hc
  exact ⟨⟨a0, a1, a2, a3, a4, a5, a6, a7, a8, a9, a10⟩, by rw [hc]; exact k189_mk w ⟨a0, a1, a2, a3, a4, a5, a6, a7, a8, a9, a10⟩ l7 q7 l9 q9 l10_0 q10_0, ⟨w0, w1, w2, w3, w4, w5, w6, w7, w8, w9, w10⟩⟩

/-- THE ONE PURE STATEMENT of laws_FnExactUsesOf. -/
def laws_FnExactUsesOf.Pure : Prop := ∀ (l0 : List (L_Step)) (a1 : Int), (l0.length ≤ maxLen ∧ ∀ y ∈ l0, Wf_L_Step y) → (Lit.int .i64 a1).wf = true → ∃ k, laws_FnExactUsesOf.f k l0 a1 = some true

end Go.Proofs.Ytejfjfhopapaaaa.XUsesOf
