-- printed by a program of this session (xprint, turned from the kit's print) for this claim
import Derived.Test.YtcboagkbcoihjaaXCloseOkx0
import Derived.Test.YtcboagkbcoihjaaXCloseOkx8
namespace Go.Proofs.Ytcboagkbcoihjaa.XCloseOk
open Go.RowKit Go.Proofs.Ytcboagkbcoihjaa.XOpens Go.Proofs.YtcboagkbcoihjaaW.PrintWords Go.Proofs.YtcboagkbcoihjaaW.PrintLast Go.Proofs.YtcboagkbcoihjaaW.PrintMore
attribute [local go_sem] max2_int min2_int max_two min_two max_three min_three max_four min_four   -- for this text's walks alone
set_option linter.unusedVariables false
set_option linter.unusedSimpArgs false

/-! ### impl_Sym__with_impl_SymOf_1: function 192 -/
def impl_Sym__with_impl_SymOf_1.l0 : Nat → List (I_Sym) → Int → Int → ByteArray → Option (Int)
  | 0, _, _, _, _ => none
  | k + 1, x0, x7, x8, x3000 => if x8 < x7 then (if 0 ≤ x8 then (if x8 < (x0.length : Int) then ((impl_SymOf_1.f ((rd_I_Sym x0 x8).f0) ((rd_I_Sym x0 x8).f1) ((rd_I_Sym x0 x8).f2) x3000).bind fun t261 => (if t261 = true then (some x8) else (impl_Sym__with_impl_SymOf_1.l0 k x0 x7 (wrap64 (x8 + 1)) x3000))) else (none)) else (none)) else (some (-1))
def impl_Sym__with_impl_SymOf_1.f (k : Nat) (l0 : List (I_Sym))  (a2_0 : ByteArray) : Option (Int) := impl_Sym__with_impl_SymOf_1.l0 k l0 (l0.length : Int) 0 a2_0
theorem impl_Sym__with_impl_SymOf_1.mono_l : ∀ k, (∀ y0 y1 y2 y3, LeO (impl_Sym__with_impl_SymOf_1.l0 k y0 y1 y2 y3) (impl_Sym__with_impl_SymOf_1.l0 (k + 1) y0 y1 y2 y3))
  | 0 => fun _ _ _ _ r h => by simp [impl_Sym__with_impl_SymOf_1.l0] at h
  | k + 1 => by
    have ih0 := impl_Sym__with_impl_SymOf_1.mono_l k
    · intro y0 y1 y2 y3
      unfold impl_Sym__with_impl_SymOf_1.l0
      repeat' first
      | (with_reducible exact ih0 _ _ _ _)
      | (with_reducible exact LeO.refl _)
      | (with_reducible exact LeO.none _)
      | (with_reducible refine LeO.ite ?_ ?_)
      | (with_reducible refine LeO.bind ?_ (fun _ => ?_))
      | exact ih0 _ _ _ _
      | exact LeO.none _
      | refine LeO.ite ?_ ?_
      | refine LeO.bind ?_ (fun _ => ?_)
theorem impl_Sym__with_impl_SymOf_1.mono : ∀ a0 a1 k, LeO (impl_Sym__with_impl_SymOf_1.f k a0 a1) (impl_Sym__with_impl_SymOf_1.f (k + 1) a0 a1) := by
  intro a0 a1 k; have ih0 := impl_Sym__with_impl_SymOf_1.mono_l k
  unfold impl_Sym__with_impl_SymOf_1.f
  repeat' first
      | (with_reducible exact ih0 _ _ _ _)
      | (with_reducible exact LeO.refl _)
      | (with_reducible exact LeO.none _)
      | (with_reducible refine LeO.ite ?_ ?_)
      | (with_reducible refine LeO.bind ?_ (fun _ => ?_))
      | exact ih0 _ _ _ _
      | exact LeO.none _
      | refine LeO.ite ?_ ?_
      | refine LeO.bind ?_ (fun _ => ?_)
set_option maxHeartbeats 8000000 in
set_option maxRecDepth 100000 in
theorem impl_Sym__with_impl_SymOf_1.calls (k : Nat) (A0 : Option Addr) (c0 : Nat) (l0 : List (I_Sym))  (G2 : Nat) (a2_0 : ByteArray) (r : Int) (w : World) (hr0 : Kd.C k99 w A0 l0.length l0) (hc0 : l0.length ≤ c0) (hG2 : w.heap[G2]? = some (.cells #[.string a2_0] 9 (0, 0))) (h : impl_Sym__with_impl_SymOf_1.f k l0 a2_0 = some r) :
    Calls Try.prog 171 #[.slice A0 l0.length c0, .func (.func 172) #[] #[.pointer (some ⟨G2, 0, none⟩)]] w fun e w' => e = .returned (.int .i64 r) ∧ Below w.heap.size w w' := by
  have hu99 := Try.underlying99; have HR0 := Aside0.mk hr0; have HC0 := Aside0.mk hc0; clear hr0 hc0; have BK2 := Aside0.mk hG2; clear hG2; have HB := Aside0.mk (Below.refl w.heap.size w); have H : (impl_Sym__with_impl_SymOf_1.l0 k l0 (l0.length : Int) 0 a2_0) = some r := h; clear h; have H' := Aside0.mk H; clear H
  go_enter Try.func171, Try.ntmps171
  go_wp2
  go_loopg [8] k (fun kq v8 w' => ∃ (x8_1 : Int), v8 = .int .i64 x8_1 ∧ Aside0 (impl_Sym__with_impl_SymOf_1.l0 kq l0 (l0.length : Int) x8_1 a2_0 = some r) ∧ Aside0 (kq ≤ k) ∧ Aside0 (w'.heap[G2]? = some (.cells #[.string a2_0] 9 (0, 0))) ∧ Aside0 (Below w.heap.size w w'))
  case atStart => exact ⟨(0), (by first | rfl | (simp; done) | (simp [*]; done)), H', ⟨Nat.le_refl _⟩, ⟨bk_ BK2.out⟩, ⟨bl_ HB.out⟩⟩
  case round =>
    clear H'; (try clear c1); (try clear p2); obtain ⟨x8_1, rfl, HA, HK1, BK2, HB⟩ := hrel
    cases gk with
    | zero => exact absurd HA.out (by simp [impl_Sym__with_impl_SymOf_1.l0])
    | succ k1 =>
      have H := HA.out; clear HA
      simp only [impl_Sym__with_impl_SymOf_1.l0] at H
      by_cases c4 : x8_1 < (l0.length : Int)
      · rw [if_pos c4] at H; have c4b0 := decide_eq_true c4; clear c4
        by_cases c5 : 0 ≤ x8_1
        · rw [if_pos c5] at H; have c5b0 := decide_eq_true c5; clear c5
          by_cases c6 : x8_1 < (l0.length : Int)
          · rw [if_pos c6] at H; have c6b0 := decide_eq_true c6; clear c6; replace H := Option.bind_eq_some_iff.mp H; obtain ⟨t261, A70, H⟩ := H; replace H : (if t261 = true then (some x8_1) else (impl_Sym__with_impl_SymOf_1.l0 k1 l0 (l0.length : Int) (wrap64 (x8_1 + 1)) a2_0)) = some r := H; have A7 := Aside0.mk A70; clear A70
            by_cases c8 : t261 = true
            · subst c8; rw [if_pos rfl] at H; obtain rfl := Option.some.inj H; have p260 : 0 ≤ (x8_1 : Int) := as_; have q260 : x8_1 < (l0.length : Int) := as_; obtain ⟨ad260, e260, hx260_0, hx260_1, hx260_2⟩ := at_T99 HR0.out x8_1 p260 q260
              cases e260
              replace hx260_0 := hbc_ HB.out hx260_0; replace hx260_1 := hbc_ HB.out hx260_1; replace hx260_2 := hbc_ HB.out hx260_2; replace p260 := eq_true p260; replace q260 := eq_true q260
              go_wp2_with (first | ((with_reducible refine Go.Proofs.Ytcboagkbcoihjaa.XOpens.gate_calleeV (t := 11) rfl ?_); refine Go.Proofs.Ytcboagkbcoihjaa.XOpens.goesV_ (some 16) rfl rfl Try.func172 (by kernel_rfl) rfl #[.agg #[.string ((rd_I_Sym l0 x8_1).f0), .int .i64 ((rd_I_Sym l0 x8_1).f1), .bool ((rd_I_Sym l0 x8_1).f2)], .pointer (some ⟨G2, 0, none⟩)] rfl rfl (by (try simp only [List.map_toArray, List.map_cons, List.map_nil]); first | done | rfl | (simp only [List.length_drop, List.length_take]; rfl)) ?_; (with_reducible refine (impl_SymOf_1.calls ((rd_I_Sym l0 x8_1).f0) ((rd_I_Sym l0 x8_1).f1) ((rd_I_Sym l0 x8_1).f2) G2 a2_0 true _ ?side1 A7.out).mono ?_); (case side1 => exact (bk_ BK2.out)); rintro e w9 ⟨rfl, hb⟩; refine ⟨_, rfl, ?_⟩; have n0_ := Aside0.mk (blk_below (bk_ BK2.out) hb); have n1_ := Aside0.mk (below_step (bl_ HB.out) hb); clear BK2; clear HB; have BK2 := n0_; have HB := n1_; clear n0_ n1_; (try clear hb); (try clear hb2); (try clear hk); (try clear hi)))
              go_ret
              exact fin_ (bl_ HB.out)
            · replace c8 := Bool.eq_false_iff.mpr c8; subst c8; rw [if_neg (show ¬ (false = true) by decide)] at H; have H' := Aside0.mk H; clear H; have p260 : 0 ≤ (x8_1 : Int) := as_; have q260 : x8_1 < (l0.length : Int) := as_; obtain ⟨ad260, e260, hx260_0, hx260_1, hx260_2⟩ := at_T99 HR0.out x8_1 p260 q260
              cases e260
              replace hx260_0 := hbc_ HB.out hx260_0; replace hx260_1 := hbc_ HB.out hx260_1; replace hx260_2 := hbc_ HB.out hx260_2; replace p260 := eq_true p260; replace q260 := eq_true q260
              go_wp2_with (first | ((with_reducible refine Go.Proofs.Ytcboagkbcoihjaa.XOpens.gate_calleeV (t := 11) rfl ?_); refine Go.Proofs.Ytcboagkbcoihjaa.XOpens.goesV_ (some 16) rfl rfl Try.func172 (by kernel_rfl) rfl #[.agg #[.string ((rd_I_Sym l0 x8_1).f0), .int .i64 ((rd_I_Sym l0 x8_1).f1), .bool ((rd_I_Sym l0 x8_1).f2)], .pointer (some ⟨G2, 0, none⟩)] rfl rfl (by (try simp only [List.map_toArray, List.map_cons, List.map_nil]); first | done | rfl | (simp only [List.length_drop, List.length_take]; rfl)) ?_; (with_reducible refine (impl_SymOf_1.calls ((rd_I_Sym l0 x8_1).f0) ((rd_I_Sym l0 x8_1).f1) ((rd_I_Sym l0 x8_1).f2) G2 a2_0 false _ ?side1 A7.out).mono ?_); (case side1 => exact (bk_ BK2.out)); rintro e w10 ⟨rfl, hb⟩; refine ⟨_, rfl, ?_⟩; have n0_ := Aside0.mk (blk_below (bk_ BK2.out) hb); have n1_ := Aside0.mk (below_step (bl_ HB.out) hb); clear BK2; clear HB; have BK2 := n0_; have HB := n1_; clear n0_ n1_; (try clear hb); (try clear hb2); (try clear hk); (try clear hi)))
              go_roundg k1
              case measure => have := HK1.out; omega
              case rel => exact ⟨(wrap64 (x8_1 + 1)), (by first | rfl | (simp; done) | (simp [*]; done)), H', ⟨by have := HK1.out; omega⟩, ⟨bk_ BK2.out⟩, ⟨bl_ HB.out⟩⟩
          · rw [if_neg c6] at H; exact absurd H (by simp)
        · rw [if_neg c5] at H; exact absurd H (by simp)
      · rw [if_neg c4] at H; have c4b0 := decide_eq_false c4; clear c4; obtain rfl := Option.some.inj H
        go_wp2
        go_ret
        exact fin_ (bl_ HB.out)

/-! ### impl_SymOf: function 145 -/
def impl_SymOf.f (k : Nat) (l0 : List (I_Sym)) (a1 : ByteArray) : Option (Int) := (impl_Sym__with_impl_SymOf_1.f k l0 a1).bind fun t263 => (some t263)
theorem impl_SymOf.mono : ∀ a0 a1 k, LeO (impl_SymOf.f k a0 a1) (impl_SymOf.f (k + 1) a0 a1) := by
  intro a0 a1 k
  unfold impl_SymOf.f
  repeat' first
      | (with_reducible exact impl_Sym__with_impl_SymOf_1.mono _ _ _)
      | (with_reducible exact LeO.refl _)
      | (with_reducible exact LeO.none _)
      | (with_reducible refine LeO.ite ?_ ?_)
      | (with_reducible refine LeO.bind ?_ (fun _ => ?_))
      | exact impl_Sym__with_impl_SymOf_1.mono _ _ _
      | exact LeO.none _
      | refine LeO.ite ?_ ?_
      | refine LeO.bind ?_ (fun _ => ?_)
set_option maxHeartbeats 8000000 in
set_option maxRecDepth 100000 in
theorem impl_SymOf.calls (k : Nat) (A0 : Option Addr) (c0 : Nat) (l0 : List (I_Sym)) (a1 : ByteArray) (r : Int) (w : World) (hr0 : Kd.C k99 w A0 l0.length l0) (hc0 : l0.length ≤ c0) (h : impl_SymOf.f k l0 a1 = some r) :
    Calls Try.prog 145 #[.slice A0 l0.length c0, .string a1] w fun e w' => e = .returned (.int .i64 r) ∧ Below w.heap.size w w' := by
  have HR0 := Aside0.mk hr0; have HC0 := Aside0.mk hc0; clear hr0 hc0; have HB := Aside0.mk (Below.refl w.heap.size w); have H : ((impl_Sym__with_impl_SymOf_1.f k l0 a1).bind fun t263 => (some t263)) = some r := h; clear h; replace H := Option.bind_eq_some_iff.mp H; obtain ⟨t263, A30, H⟩ := H; replace H : (some t263) = some r := H; have A3 := Aside0.mk A30; clear A30; obtain rfl := Option.some.inj H
  go_enter Try.func145, Try.ntmps145
  go_wp2_with (first | ((with_reducible refine gate_dst (N := 3) rfl ?_); refine bxe_ (N := 3) (cs := #[.string a1]) (t := 9) ?_; intro gb262 hg w4 hbox hb; have n0_ := Aside0.mk (below_step (bl_ HB.out) hb); have n1_ := Aside0.mk (hbox); have n2_ := Aside0.mk (lg_ hg (bl_ HB.out)); have n3_ := Aside0.mk (lg_ hg (bl_ HB.out)); clear HB; have HB := n0_; have BK262 := n1_; have GW262 := n2_; have GE262 := n3_; clear n0_ n1_ n2_ n3_; clear hb hbox hg) | ((with_reducible refine gate_callee (f := 171) rfl ?_); refine goesM_ (some 7) rfl rfl Try.func171 (by kernel_rfl) rfl #[.slice A0 l0.length c0, .func (.func 172) #[] #[.pointer (some ⟨gb262, 0, none⟩)]] rfl ?_; (with_reducible refine (impl_Sym__with_impl_SymOf_1.calls k _ _ l0  gb262 a1 t263 _ ?side1 ?side2 ?side3 A3.out).mono ?_); (case side1 => exact cb_ HR0.out HB.out); (case side2 => exact HC0.out); (case side3 => exact (bk_ BK262.out)); rintro e w5 ⟨rfl, hb⟩; refine ⟨_, rfl, ?_⟩; have n0_ := Aside0.mk (blk_below (bk_ BK262.out) hb); have n1_ := Aside0.mk (below_step (bs1_ HB.out GE262.out) hb); clear BK262; clear HB; have BK262 := n0_; have HB := n1_; clear n0_ n1_; (try clear hb); (try clear hb2); (try clear hk); (try clear hi)))
  go_ret
  exact fin_ (bs1_ HB.out GE262.out)

/-! ### impl_SigOk: function 86 -/
def impl_SigOk.l0 : Nat → List (I_Sym) → List (I_Sym) → Int → Int → Option (Bool)
  | 0, _, _, _, _ => none
  | k + 1, x0, x5, x6, x7 => if x7 < x6 then (if 0 ≤ x7 then (if x7 < (x5.length : Int) then ((impl_NameOk.f k ((rd_I_Sym x5 x7).f0)).bind fun t269 => (if t269 = true then ((impl_SymOf.f k x0 ((rd_I_Sym x5 x7).f0)).bind fun t270 => (if t270 = x7 then ((impl_from.f ((rd_I_Sym x5 x7).f1) 0 3).bind fun t271 => (if t271 = true then (if (rd_I_Sym x5 x7).f2 = true then (if ((rd_I_Sym x5 x7).f1) = 2 then (impl_SigOk.l0 k x0 x5 x6 (wrap64 (x7 + 1))) else (some false)) else (impl_SigOk.l0 k x0 x5 x6 (wrap64 (x7 + 1)))) else (some false))) else (some false))) else (some false))) else (none)) else (none)) else ((impl_from.f (x0.length : Int) 1 8).bind fun t264 => (if t264 = true then (if 0 < (x0.length : Int) then (if ((rd_I_Sym x0 0).f0).toList = ([116, 116] : List UInt8) then (some (((rd_I_Sym x0 0).f1) == 0)) else (some false)) else (none)) else (some false)))
def impl_SigOk.f (k : Nat) (l0 : List (I_Sym)) : Option (Bool) := impl_SigOk.l0 k l0 l0 (l0.length : Int) 0
theorem impl_SigOk.mono_l : ∀ k, (∀ y0 y1 y2 y3, LeO (impl_SigOk.l0 k y0 y1 y2 y3) (impl_SigOk.l0 (k + 1) y0 y1 y2 y3))
  | 0 => fun _ _ _ _ r h => by simp [impl_SigOk.l0] at h
  | k + 1 => by
    have ih0 := impl_SigOk.mono_l k
    · intro y0 y1 y2 y3
      unfold impl_SigOk.l0
      repeat' first
      | (with_reducible exact ih0 _ _ _ _)
      | (with_reducible exact impl_NameOk.mono _ _)
      | (with_reducible exact impl_SymOf.mono _ _ _)
      | (with_reducible exact LeO.refl _)
      | (with_reducible exact LeO.none _)
      | (with_reducible refine LeO.ite ?_ ?_)
      | (with_reducible refine LeO.bind ?_ (fun _ => ?_))
      | exact ih0 _ _ _ _
      | exact impl_NameOk.mono _ _
      | exact impl_SymOf.mono _ _ _
      | exact LeO.none _
      | refine LeO.ite ?_ ?_
      | refine LeO.bind ?_ (fun _ => ?_)
theorem impl_SigOk.mono : ∀ a0 k, LeO (impl_SigOk.f k a0) (impl_SigOk.f (k + 1) a0) := by
  intro a0 k; have ih0 := impl_SigOk.mono_l k
  unfold impl_SigOk.f
  repeat' first
      | (with_reducible exact ih0 _ _ _ _)
      | (with_reducible exact impl_NameOk.mono _ _)
      | (with_reducible exact impl_SymOf.mono _ _ _)
      | (with_reducible exact LeO.refl _)
      | (with_reducible exact LeO.none _)
      | (with_reducible refine LeO.ite ?_ ?_)
      | (with_reducible refine LeO.bind ?_ (fun _ => ?_))
      | exact ih0 _ _ _ _
      | exact impl_NameOk.mono _ _
      | exact impl_SymOf.mono _ _ _
      | exact LeO.none _
      | refine LeO.ite ?_ ?_
      | refine LeO.bind ?_ (fun _ => ?_)
set_option maxHeartbeats 8000000 in
set_option maxRecDepth 100000 in
theorem impl_SigOk.calls (k : Nat) (A0 : Option Addr) (c0 : Nat) (l0 : List (I_Sym)) (r : Bool) (w : World) (hr0 : Kd.C k99 w A0 l0.length l0) (hc0 : l0.length ≤ c0) (h : impl_SigOk.f k l0 = some r) :
    Calls Try.prog 86 #[.slice A0 l0.length c0] w fun e w' => e = .returned (.bool r) ∧ Below w.heap.size w w' := by
  have hu99 := Try.underlying99; have HR0 := Aside0.mk hr0; have HC0 := Aside0.mk hc0; clear hr0 hc0; have HB := Aside0.mk (Below.refl w.heap.size w); have H : (impl_SigOk.l0 k l0 l0 (l0.length : Int) 0) = some r := h; clear h; have H' := Aside0.mk H; clear H
  go_enter Try.func86, Try.ntmps86
  go_wp2
  go_loopg [7] k (fun kq v7 w' => ∃ (x7_1 : Int), v7 = .int .i64 x7_1 ∧ Aside0 (impl_SigOk.l0 kq l0 l0 (l0.length : Int) x7_1 = some r) ∧ Aside0 (kq ≤ k) ∧ Aside0 (Below w.heap.size w w'))
  case atStart => exact ⟨(0), (by first | rfl | (simp; done) | (simp [*]; done)), H', ⟨Nat.le_refl _⟩, ⟨by repeat (first | (with_reducible first | exact HB.out | apply below_alloc | apply pw_below_drewN | apply below_drew1) | exact HB.out)⟩⟩
  case round =>
    clear H'; obtain ⟨x7_1, rfl, HA, HK1, HB⟩ := hrel
    cases gk with
    | zero => exact absurd HA.out (by simp [impl_SigOk.l0])
    | succ k1 =>
      have H := HA.out; clear HA
      simp only [impl_SigOk.l0] at H
      by_cases c2 : x7_1 < (l0.length : Int)
      · rw [if_pos c2] at H; have c2b0 := decide_eq_true c2; clear c2
        by_cases c3 : 0 ≤ x7_1
        · rw [if_pos c3] at H; have c3b0 := decide_eq_true c3; clear c3
          by_cases c4 : x7_1 < (l0.length : Int)
          · rw [if_pos c4] at H; have c4b0 := decide_eq_true c4; clear c4; replace H := Option.bind_eq_some_iff.mp H; obtain ⟨t269, A50, H⟩ := H; replace H : (if t269 = true then ((impl_SymOf.f k1 l0 ((rd_I_Sym l0 x7_1).f0)).bind fun t270 => (if t270 = x7_1 then ((impl_from.f ((rd_I_Sym l0 x7_1).f1) 0 3).bind fun t271 => (if t271 = true then (if (rd_I_Sym l0 x7_1).f2 = true then (if ((rd_I_Sym l0 x7_1).f1) = 2 then (impl_SigOk.l0 k1 l0 l0 (l0.length : Int) (wrap64 (x7_1 + 1))) else (some false)) else (impl_SigOk.l0 k1 l0 l0 (l0.length : Int) (wrap64 (x7_1 + 1)))) else (some false))) else (some false))) else (some false)) = some r := H; have A5 := Aside0.mk A50; clear A50
            by_cases c6 : t269 = true
            · subst c6; rw [if_pos rfl] at H; replace H := Option.bind_eq_some_iff.mp H; obtain ⟨t270, A70, H⟩ := H; replace H : (if t270 = x7_1 then ((impl_from.f ((rd_I_Sym l0 x7_1).f1) 0 3).bind fun t271 => (if t271 = true then (if (rd_I_Sym l0 x7_1).f2 = true then (if ((rd_I_Sym l0 x7_1).f1) = 2 then (impl_SigOk.l0 k1 l0 l0 (l0.length : Int) (wrap64 (x7_1 + 1))) else (some false)) else (impl_SigOk.l0 k1 l0 l0 (l0.length : Int) (wrap64 (x7_1 + 1)))) else (some false))) else (some false)) = some r := H; have A7 := Aside0.mk A70; clear A70
              by_cases c8 : t270 = x7_1
              · rw [if_pos c8] at H; have c8b0 : (t270 == x7_1) = true := beq_iff_eq.mpr c8; have c8b1 : (t270 != x7_1) = false := bne_eq_false_iff_eq.mpr c8; clear c8; replace H := Option.bind_eq_some_iff.mp H; obtain ⟨t271, A90, H⟩ := H; replace H : (if t271 = true then (if (rd_I_Sym l0 x7_1).f2 = true then (if ((rd_I_Sym l0 x7_1).f1) = 2 then (impl_SigOk.l0 k1 l0 l0 (l0.length : Int) (wrap64 (x7_1 + 1))) else (some false)) else (impl_SigOk.l0 k1 l0 l0 (l0.length : Int) (wrap64 (x7_1 + 1)))) else (some false)) = some r := H; have A9 := Aside0.mk A90; clear A90
                by_cases c10 : t271 = true
                · subst c10; rw [if_pos rfl] at H; obtain ⟨bq11, hbq11⟩ : ∃ b_ : Bool, b_ = ((rd_I_Sym l0 x7_1).f2) := ⟨_, rfl⟩; replace H : (if bq11 = true then (if ((rd_I_Sym l0 x7_1).f1) = 2 then (impl_SigOk.l0 k1 l0 l0 (l0.length : Int) (wrap64 (x7_1 + 1))) else (some false)) else (impl_SigOk.l0 k1 l0 l0 (l0.length : Int) (wrap64 (x7_1 + 1)))) = some r := by rw [← hbq11] at H; exact H
                  have Nbq11 := Aside0.mk hbq11; clear hbq11
                  by_cases c12 : bq11 = true
                  · subst c12; rw [if_pos rfl] at H
                    by_cases c13 : ((rd_I_Sym l0 x7_1).f1) = 2
                    · rw [if_pos c13] at H; have c13b0 : (((rd_I_Sym l0 x7_1).f1) == 2) = true := beq_iff_eq.mpr c13; have c13b1 : (((rd_I_Sym l0 x7_1).f1) != 2) = false := bne_eq_false_iff_eq.mpr c13; clear c13; have H' := Aside0.mk H; clear H; have p267 : 0 ≤ (x7_1 : Int) := as_; have q267 : x7_1 < (l0.length : Int) := as_; obtain ⟨ad267, e267, hx267_0, hx267_1, hx267_2⟩ := at_T99 HR0.out x7_1 p267 q267; (try rw [← Nbq11.out] at hx267_2); (try rw [← Nbq11.out] at hw267_2)
                      cases e267
                      replace hx267_0 := hbc_ HB.out hx267_0; replace hx267_1 := hbc_ HB.out hx267_1; replace hx267_2 := hbc_ HB.out hx267_2; replace p267 := eq_true p267; replace q267 := eq_true q267
                      go_wp2_with (first | ((with_reducible refine gate_dst (N := 4) rfl ?_); refine bxe_ (N := 4) (cs := #[.string (⟨#[]⟩ : ByteArray), .int .i64 0, .bool false]) (t := 99) ?_; intro gb268 hg w14 hbox hb; have n0_ := Aside0.mk (below_step (bl_ HB.out) hb); have n1_ := Aside0.mk (hbox); have n2_ := Aside0.mk (lg_ hg (bl_ HB.out)); have n3_ := Aside0.mk (lg_ hg (bl_ HB.out)); clear HB; have HB := n0_; have BK268 := n1_; have GW268 := n2_; have GE268 := n3_; clear n0_ n1_ n2_ n3_; clear hb hbox hg; have hcz15_0 := bc_ BK268.out 0; have hcz15_1 := bc_ BK268.out 1; have hcz15_2 := bc_ BK268.out 2; have hfz15_0 := blk_frozen BK268.out 0; have hfz15_1 := blk_frozen BK268.out 1; have hfz15_2 := blk_frozen BK268.out 2) | ((with_reducible refine gate_callee (f := 144) rfl ?_); refine goesM_ (some 14) rfl rfl Try.func144 (by kernel_rfl) rfl #[.string ((rd_I_Sym l0 x7_1).f0)] rfl ?_; (with_reducible refine (impl_NameOk.calls k1 ((rd_I_Sym l0 x7_1).f0) true _ A5.out).mono ?_); rintro e w' ⟨rfl, ⟨nd, rfl⟩⟩; refine ⟨_, rfl, ?_⟩) | (go_at_call 145; (with_reducible refine (impl_SymOf.calls k1 _ _ l0 ((rd_I_Sym l0 x7_1).f0) t270 _ ?side1 ?side2 A7.out).mono ?_); (case side1 => exact Kd.C_below HR0.out (bs1_ HB.out GE268.out)); (case side2 => exact HC0.out); rintro e w16 ⟨rfl, hb⟩; have n0_ := Aside0.mk (blk_below (g := gb268) (o := .cells #[.string ((rd_I_Sym l0 x7_1).f0), .int .i64 ((rd_I_Sym l0 x7_1).f1), .bool true] 99 (0, 0)) (by (with_reducible repeat (first | refine blk_drewN ?_ _ | refine blk_drew ?_ | refine blk_alloc ?_ _)); refine blk_put (cs := #[.string ((rd_I_Sym l0 x7_1).f0), .int .i64 ((rd_I_Sym l0 x7_1).f1), .bool false]) ?_ 2 _ rfl; (with_reducible repeat (first | refine blk_drewN ?_ _ | refine blk_drew ?_ | refine blk_alloc ?_ _)); refine blk_put (cs := #[.string ((rd_I_Sym l0 x7_1).f0), .int .i64 0, .bool false]) ?_ 1 _ rfl; (with_reducible repeat (first | refine blk_drewN ?_ _ | refine blk_drew ?_ | refine blk_alloc ?_ _)); refine blk_put (cs := #[.string (⟨#[]⟩ : ByteArray), .int .i64 0, .bool false]) ?_ 0 _ rfl; (with_reducible repeat (first | refine blk_drewN ?_ _ | refine blk_drew ?_ | refine blk_alloc ?_ _)); exact BK268.out) hb); have n1_ := Aside0.mk (below_step (bs1_ HB.out GE268.out) hb); clear BK268; clear HB; have BK268 := n0_; have HB := n1_; clear n0_ n1_; (try clear hb); (try clear hb2); (try clear hk); (try clear hi); have hcz17_0 := bc_ BK268.out 0; have hcz17_1 := bc_ BK268.out 1; have hcz17_2 := bc_ BK268.out 2; have hfz17_0 := blk_frozen BK268.out 0; have hfz17_1 := blk_frozen BK268.out 1; have hfz17_2 := blk_frozen BK268.out 2) | (go_at_call 87; (with_reducible refine (impl_from.calls ((rd_I_Sym l0 x7_1).f1) 0 3 true _ A9.out).mono ?_); rintro e w' ⟨rfl, ⟨nd, rfl⟩⟩))
                      go_roundg k1
                      case measure => have := HK1.out; omega
                      case rel => exact ⟨(wrap64 (x7_1 + 1)), (by first | rfl | (simp; done) | (simp [*]; done)), H', ⟨by have := HK1.out; omega⟩, ⟨bs1_ HB.out GE268.out⟩⟩
                    · rw [if_neg c13] at H; have c13b0 : (((rd_I_Sym l0 x7_1).f1) == 2) = false := beq_eq_false_iff_ne.mpr c13; have c13b1 : (((rd_I_Sym l0 x7_1).f1) != 2) = true := bne_iff_ne.mpr c13; obtain rfl := Option.some.inj H; have p267 : 0 ≤ (x7_1 : Int) := as_; have q267 : x7_1 < (l0.length : Int) := as_; obtain ⟨ad267, e267, hx267_0, hx267_1, hx267_2⟩ := at_T99 HR0.out x7_1 p267 q267; (try rw [← Nbq11.out] at hx267_2); (try rw [← Nbq11.out] at hw267_2)
                      cases e267
                      replace hx267_0 := hbc_ HB.out hx267_0; replace hx267_1 := hbc_ HB.out hx267_1; replace hx267_2 := hbc_ HB.out hx267_2; replace p267 := eq_true p267; replace q267 := eq_true q267
                      go_wp2_with (first | ((with_reducible refine gate_dst (N := 4) rfl ?_); refine bxe_ (N := 4) (cs := #[.string (⟨#[]⟩ : ByteArray), .int .i64 0, .bool false]) (t := 99) ?_; intro gb268 hg w18 hbox hb; have n0_ := Aside0.mk (below_step (bl_ HB.out) hb); have n1_ := Aside0.mk (hbox); have n2_ := Aside0.mk (lg_ hg (bl_ HB.out)); have n3_ := Aside0.mk (lg_ hg (bl_ HB.out)); clear HB; have HB := n0_; have BK268 := n1_; have GW268 := n2_; have GE268 := n3_; clear n0_ n1_ n2_ n3_; clear hb hbox hg; have hcz19_0 := bc_ BK268.out 0; have hcz19_1 := bc_ BK268.out 1; have hcz19_2 := bc_ BK268.out 2; have hfz19_0 := blk_frozen BK268.out 0; have hfz19_1 := blk_frozen BK268.out 1; have hfz19_2 := blk_frozen BK268.out 2) | ((with_reducible refine gate_callee (f := 144) rfl ?_); refine goesM_ (some 14) rfl rfl Try.func144 (by kernel_rfl) rfl #[.string ((rd_I_Sym l0 x7_1).f0)] rfl ?_; (with_reducible refine (impl_NameOk.calls k1 ((rd_I_Sym l0 x7_1).f0) true _ A5.out).mono ?_); rintro e w' ⟨rfl, ⟨nd, rfl⟩⟩; refine ⟨_, rfl, ?_⟩) | (go_at_call 145; (with_reducible refine (impl_SymOf.calls k1 _ _ l0 ((rd_I_Sym l0 x7_1).f0) t270 _ ?side1 ?side2 A7.out).mono ?_); (case side1 => exact Kd.C_below HR0.out (bs1_ HB.out GE268.out)); (case side2 => exact HC0.out); rintro e w20 ⟨rfl, hb⟩; have n0_ := Aside0.mk (blk_below (g := gb268) (o := .cells #[.string ((rd_I_Sym l0 x7_1).f0), .int .i64 ((rd_I_Sym l0 x7_1).f1), .bool true] 99 (0, 0)) (by (with_reducible repeat (first | refine blk_drewN ?_ _ | refine blk_drew ?_ | refine blk_alloc ?_ _)); refine blk_put (cs := #[.string ((rd_I_Sym l0 x7_1).f0), .int .i64 ((rd_I_Sym l0 x7_1).f1), .bool false]) ?_ 2 _ rfl; (with_reducible repeat (first | refine blk_drewN ?_ _ | refine blk_drew ?_ | refine blk_alloc ?_ _)); refine blk_put (cs := #[.string ((rd_I_Sym l0 x7_1).f0), .int .i64 0, .bool false]) ?_ 1 _ rfl; (with_reducible repeat (first | refine blk_drewN ?_ _ | refine blk_drew ?_ | refine blk_alloc ?_ _)); refine blk_put (cs := #[.string (⟨#[]⟩ : ByteArray), .int .i64 0, .bool false]) ?_ 0 _ rfl; (with_reducible repeat (first | refine blk_drewN ?_ _ | refine blk_drew ?_ | refine blk_alloc ?_ _)); exact BK268.out) hb); have n1_ := Aside0.mk (below_step (bs1_ HB.out GE268.out) hb); clear BK268; clear HB; have BK268 := n0_; have HB := n1_; clear n0_ n1_; (try clear hb); (try clear hb2); (try clear hk); (try clear hi); have hcz21_0 := bc_ BK268.out 0; have hcz21_1 := bc_ BK268.out 1; have hcz21_2 := bc_ BK268.out 2; have hfz21_0 := blk_frozen BK268.out 0; have hfz21_1 := blk_frozen BK268.out 1; have hfz21_2 := blk_frozen BK268.out 2) | (go_at_call 87; (with_reducible refine (impl_from.calls ((rd_I_Sym l0 x7_1).f1) 0 3 true _ A9.out).mono ?_); rintro e w' ⟨rfl, ⟨nd, rfl⟩⟩))
                      go_ret
                      exact fin_ (bs1_ HB.out GE268.out)
                  · replace c12 := Bool.eq_false_iff.mpr c12; subst c12; rw [if_neg (show ¬ (false = true) by decide)] at H; have H' := Aside0.mk H; clear H; have p267 : 0 ≤ (x7_1 : Int) := as_; have q267 : x7_1 < (l0.length : Int) := as_; obtain ⟨ad267, e267, hx267_0, hx267_1, hx267_2⟩ := at_T99 HR0.out x7_1 p267 q267; (try rw [← Nbq11.out] at hx267_2); (try rw [← Nbq11.out] at hw267_2)
                    cases e267
                    replace hx267_0 := hbc_ HB.out hx267_0; replace hx267_1 := hbc_ HB.out hx267_1; replace hx267_2 := hbc_ HB.out hx267_2; replace p267 := eq_true p267; replace q267 := eq_true q267
                    go_wp2_with (first | ((with_reducible refine gate_dst (N := 4) rfl ?_); refine bxe_ (N := 4) (cs := #[.string (⟨#[]⟩ : ByteArray), .int .i64 0, .bool false]) (t := 99) ?_; intro gb268 hg w22 hbox hb; have n0_ := Aside0.mk (below_step (bl_ HB.out) hb); have n1_ := Aside0.mk (hbox); have n2_ := Aside0.mk (lg_ hg (bl_ HB.out)); have n3_ := Aside0.mk (lg_ hg (bl_ HB.out)); clear HB; have HB := n0_; have BK268 := n1_; have GW268 := n2_; have GE268 := n3_; clear n0_ n1_ n2_ n3_; clear hb hbox hg; have hcz23_0 := bc_ BK268.out 0; have hcz23_1 := bc_ BK268.out 1; have hcz23_2 := bc_ BK268.out 2; have hfz23_0 := blk_frozen BK268.out 0; have hfz23_1 := blk_frozen BK268.out 1; have hfz23_2 := blk_frozen BK268.out 2) | ((with_reducible refine gate_callee (f := 144) rfl ?_); refine goesM_ (some 14) rfl rfl Try.func144 (by kernel_rfl) rfl #[.string ((rd_I_Sym l0 x7_1).f0)] rfl ?_; (with_reducible refine (impl_NameOk.calls k1 ((rd_I_Sym l0 x7_1).f0) true _ A5.out).mono ?_); rintro e w' ⟨rfl, ⟨nd, rfl⟩⟩; refine ⟨_, rfl, ?_⟩) | (go_at_call 145; (with_reducible refine (impl_SymOf.calls k1 _ _ l0 ((rd_I_Sym l0 x7_1).f0) t270 _ ?side1 ?side2 A7.out).mono ?_); (case side1 => exact Kd.C_below HR0.out (bs1_ HB.out GE268.out)); (case side2 => exact HC0.out); rintro e w24 ⟨rfl, hb⟩; have n0_ := Aside0.mk (blk_below (g := gb268) (o := .cells #[.string ((rd_I_Sym l0 x7_1).f0), .int .i64 ((rd_I_Sym l0 x7_1).f1), .bool false] 99 (0, 0)) (by (with_reducible repeat (first | refine blk_drewN ?_ _ | refine blk_drew ?_ | refine blk_alloc ?_ _)); refine blk_put (cs := #[.string ((rd_I_Sym l0 x7_1).f0), .int .i64 ((rd_I_Sym l0 x7_1).f1), .bool false]) ?_ 2 _ rfl; (with_reducible repeat (first | refine blk_drewN ?_ _ | refine blk_drew ?_ | refine blk_alloc ?_ _)); refine blk_put (cs := #[.string ((rd_I_Sym l0 x7_1).f0), .int .i64 0, .bool false]) ?_ 1 _ rfl; (with_reducible repeat (first | refine blk_drewN ?_ _ | refine blk_drew ?_ | refine blk_alloc ?_ _)); refine blk_put (cs := #[.string (⟨#[]⟩ : ByteArray), .int .i64 0, .bool false]) ?_ 0 _ rfl; (with_reducible repeat (first | refine blk_drewN ?_ _ | refine blk_drew ?_ | refine blk_alloc ?_ _)); exact BK268.out) hb); have n1_ := Aside0.mk (below_step (bs1_ HB.out GE268.out) hb); clear BK268; clear HB; have BK268 := n0_; have HB := n1_; clear n0_ n1_; (try clear hb); (try clear hb2); (try clear hk); (try clear hi); have hcz25_0 := bc_ BK268.out 0; have hcz25_1 := bc_ BK268.out 1; have hcz25_2 := bc_ BK268.out 2; have hfz25_0 := blk_frozen BK268.out 0; have hfz25_1 := blk_frozen BK268.out 1; have hfz25_2 := blk_frozen BK268.out 2) | (go_at_call 87; (with_reducible refine (impl_from.calls ((rd_I_Sym l0 x7_1).f1) 0 3 true _ A9.out).mono ?_); rintro e w' ⟨rfl, ⟨nd, rfl⟩⟩))
                    go_roundg k1
                    case measure => have := HK1.out; omega
                    case rel => exact ⟨(wrap64 (x7_1 + 1)), (by first | rfl | (simp; done) | (simp [*]; done)), H', ⟨by have := HK1.out; omega⟩, ⟨bs1_ HB.out GE268.out⟩⟩
                · replace c10 := Bool.eq_false_iff.mpr c10; subst c10; rw [if_neg (show ¬ (false = true) by decide)] at H; obtain rfl := Option.some.inj H; have p267 : 0 ≤ (x7_1 : Int) := as_; have q267 : x7_1 < (l0.length : Int) := as_; obtain ⟨ad267, e267, hx267_0, hx267_1, hx267_2⟩ := at_T99 HR0.out x7_1 p267 q267
                  cases e267
                  replace hx267_0 := hbc_ HB.out hx267_0; replace hx267_1 := hbc_ HB.out hx267_1; replace hx267_2 := hbc_ HB.out hx267_2; replace p267 := eq_true p267; replace q267 := eq_true q267
                  go_wp2_with (first | ((with_reducible refine gate_dst (N := 4) rfl ?_); refine bxe_ (N := 4) (cs := #[.string (⟨#[]⟩ : ByteArray), .int .i64 0, .bool false]) (t := 99) ?_; intro gb268 hg w26 hbox hb; have n0_ := Aside0.mk (below_step (bl_ HB.out) hb); have n1_ := Aside0.mk (hbox); have n2_ := Aside0.mk (lg_ hg (bl_ HB.out)); have n3_ := Aside0.mk (lg_ hg (bl_ HB.out)); clear HB; have HB := n0_; have BK268 := n1_; have GW268 := n2_; have GE268 := n3_; clear n0_ n1_ n2_ n3_; clear hb hbox hg; have hcz27_0 := bc_ BK268.out 0; have hcz27_1 := bc_ BK268.out 1; have hcz27_2 := bc_ BK268.out 2; have hfz27_0 := blk_frozen BK268.out 0; have hfz27_1 := blk_frozen BK268.out 1; have hfz27_2 := blk_frozen BK268.out 2) | ((with_reducible refine gate_callee (f := 144) rfl ?_); refine goesM_ (some 14) rfl rfl Try.func144 (by kernel_rfl) rfl #[.string ((rd_I_Sym l0 x7_1).f0)] rfl ?_; (with_reducible refine (impl_NameOk.calls k1 ((rd_I_Sym l0 x7_1).f0) true _ A5.out).mono ?_); rintro e w' ⟨rfl, ⟨nd, rfl⟩⟩; refine ⟨_, rfl, ?_⟩) | (go_at_call 145; (with_reducible refine (impl_SymOf.calls k1 _ _ l0 ((rd_I_Sym l0 x7_1).f0) t270 _ ?side1 ?side2 A7.out).mono ?_); (case side1 => exact Kd.C_below HR0.out (bs1_ HB.out GE268.out)); (case side2 => exact HC0.out); rintro e w28 ⟨rfl, hb⟩; have n0_ := Aside0.mk (blk_below (g := gb268) (o := .cells #[.string ((rd_I_Sym l0 x7_1).f0), .int .i64 ((rd_I_Sym l0 x7_1).f1), .bool ((rd_I_Sym l0 x7_1).f2)] 99 (0, 0)) (by (with_reducible repeat (first | refine blk_drewN ?_ _ | refine blk_drew ?_ | refine blk_alloc ?_ _)); refine blk_put (cs := #[.string ((rd_I_Sym l0 x7_1).f0), .int .i64 ((rd_I_Sym l0 x7_1).f1), .bool false]) ?_ 2 _ rfl; (with_reducible repeat (first | refine blk_drewN ?_ _ | refine blk_drew ?_ | refine blk_alloc ?_ _)); refine blk_put (cs := #[.string ((rd_I_Sym l0 x7_1).f0), .int .i64 0, .bool false]) ?_ 1 _ rfl; (with_reducible repeat (first | refine blk_drewN ?_ _ | refine blk_drew ?_ | refine blk_alloc ?_ _)); refine blk_put (cs := #[.string (⟨#[]⟩ : ByteArray), .int .i64 0, .bool false]) ?_ 0 _ rfl; (with_reducible repeat (first | refine blk_drewN ?_ _ | refine blk_drew ?_ | refine blk_alloc ?_ _)); exact BK268.out) hb); have n1_ := Aside0.mk (below_step (bs1_ HB.out GE268.out) hb); clear BK268; clear HB; have BK268 := n0_; have HB := n1_; clear n0_ n1_; (try clear hb); (try clear hb2); (try clear hk); (try clear hi); have hcz29_0 := bc_ BK268.out 0; have hcz29_1 := bc_ BK268.out 1; have hcz29_2 := bc_ BK268.out 2; have hfz29_0 := blk_frozen BK268.out 0; have hfz29_1 := blk_frozen BK268.out 1; have hfz29_2 := blk_frozen BK268.out 2) | (go_at_call 87; (with_reducible refine (impl_from.calls ((rd_I_Sym l0 x7_1).f1) 0 3 false _ A9.out).mono ?_); rintro e w' ⟨rfl, ⟨nd, rfl⟩⟩))
                  go_ret
                  exact fin_ (bs1_ HB.out GE268.out)
              · rw [if_neg c8] at H; have c8b0 : (t270 == x7_1) = false := beq_eq_false_iff_ne.mpr c8; have c8b1 : (t270 != x7_1) = true := bne_iff_ne.mpr c8; obtain rfl := Option.some.inj H; have p267 : 0 ≤ (x7_1 : Int) := as_; have q267 : x7_1 < (l0.length : Int) := as_; obtain ⟨ad267, e267, hx267_0, hx267_1, hx267_2⟩ := at_T99 HR0.out x7_1 p267 q267
                cases e267
                replace hx267_0 := hbc_ HB.out hx267_0; replace hx267_1 := hbc_ HB.out hx267_1; replace hx267_2 := hbc_ HB.out hx267_2; replace p267 := eq_true p267; replace q267 := eq_true q267
                go_wp2_with (first | ((with_reducible refine gate_dst (N := 4) rfl ?_); refine bxe_ (N := 4) (cs := #[.string (⟨#[]⟩ : ByteArray), .int .i64 0, .bool false]) (t := 99) ?_; intro gb268 hg w30 hbox hb; have n0_ := Aside0.mk (below_step (bl_ HB.out) hb); have n1_ := Aside0.mk (hbox); have n2_ := Aside0.mk (lg_ hg (bl_ HB.out)); have n3_ := Aside0.mk (lg_ hg (bl_ HB.out)); clear HB; have HB := n0_; have BK268 := n1_; have GW268 := n2_; have GE268 := n3_; clear n0_ n1_ n2_ n3_; clear hb hbox hg; have hcz31_0 := bc_ BK268.out 0; have hcz31_1 := bc_ BK268.out 1; have hcz31_2 := bc_ BK268.out 2; have hfz31_0 := blk_frozen BK268.out 0; have hfz31_1 := blk_frozen BK268.out 1; have hfz31_2 := blk_frozen BK268.out 2) | ((with_reducible refine gate_callee (f := 144) rfl ?_); refine goesM_ (some 14) rfl rfl Try.func144 (by kernel_rfl) rfl #[.string ((rd_I_Sym l0 x7_1).f0)] rfl ?_; (with_reducible refine (impl_NameOk.calls k1 ((rd_I_Sym l0 x7_1).f0) true _ A5.out).mono ?_); rintro e w' ⟨rfl, ⟨nd, rfl⟩⟩; refine ⟨_, rfl, ?_⟩) | (go_at_call 145; (with_reducible refine (impl_SymOf.calls k1 _ _ l0 ((rd_I_Sym l0 x7_1).f0) t270 _ ?side1 ?side2 A7.out).mono ?_); (case side1 => exact Kd.C_below HR0.out (bs1_ HB.out GE268.out)); (case side2 => exact HC0.out); rintro e w32 ⟨rfl, hb⟩; have n0_ := Aside0.mk (blk_below (g := gb268) (o := .cells #[.string ((rd_I_Sym l0 x7_1).f0), .int .i64 ((rd_I_Sym l0 x7_1).f1), .bool ((rd_I_Sym l0 x7_1).f2)] 99 (0, 0)) (by (with_reducible repeat (first | refine blk_drewN ?_ _ | refine blk_drew ?_ | refine blk_alloc ?_ _)); refine blk_put (cs := #[.string ((rd_I_Sym l0 x7_1).f0), .int .i64 ((rd_I_Sym l0 x7_1).f1), .bool false]) ?_ 2 _ rfl; (with_reducible repeat (first | refine blk_drewN ?_ _ | refine blk_drew ?_ | refine blk_alloc ?_ _)); refine blk_put (cs := #[.string ((rd_I_Sym l0 x7_1).f0), .int .i64 0, .bool false]) ?_ 1 _ rfl; (with_reducible repeat (first | refine blk_drewN ?_ _ | refine blk_drew ?_ | refine blk_alloc ?_ _)); refine blk_put (cs := #[.string (⟨#[]⟩ : ByteArray), .int .i64 0, .bool false]) ?_ 0 _ rfl; (with_reducible repeat (first | refine blk_drewN ?_ _ | refine blk_drew ?_ | refine blk_alloc ?_ _)); exact BK268.out) hb); have n1_ := Aside0.mk (below_step (bs1_ HB.out GE268.out) hb); clear BK268; clear HB; have BK268 := n0_; have HB := n1_; clear n0_ n1_; (try clear hb); (try clear hb2); (try clear hk); (try clear hi)))
                go_ret
                exact fin_ (bs1_ HB.out GE268.out)
            · replace c6 := Bool.eq_false_iff.mpr c6; subst c6; rw [if_neg (show ¬ (false = true) by decide)] at H; obtain rfl := Option.some.inj H; have p267 : 0 ≤ (x7_1 : Int) := as_; have q267 : x7_1 < (l0.length : Int) := as_; obtain ⟨ad267, e267, hx267_0, hx267_1, hx267_2⟩ := at_T99 HR0.out x7_1 p267 q267
              cases e267
              replace hx267_0 := hbc_ HB.out hx267_0; replace hx267_1 := hbc_ HB.out hx267_1; replace hx267_2 := hbc_ HB.out hx267_2; replace p267 := eq_true p267; replace q267 := eq_true q267
              go_wp2_with (first | ((with_reducible refine gate_dst (N := 4) rfl ?_); refine bxe_ (N := 4) (cs := #[.string (⟨#[]⟩ : ByteArray), .int .i64 0, .bool false]) (t := 99) ?_; intro gb268 hg w33 hbox hb; have n0_ := Aside0.mk (below_step (bl_ HB.out) hb); have n1_ := Aside0.mk (hbox); have n2_ := Aside0.mk (lg_ hg (bl_ HB.out)); have n3_ := Aside0.mk (lg_ hg (bl_ HB.out)); clear HB; have HB := n0_; have BK268 := n1_; have GW268 := n2_; have GE268 := n3_; clear n0_ n1_ n2_ n3_; clear hb hbox hg; have hcz34_0 := bc_ BK268.out 0; have hcz34_1 := bc_ BK268.out 1; have hcz34_2 := bc_ BK268.out 2; have hfz34_0 := blk_frozen BK268.out 0; have hfz34_1 := blk_frozen BK268.out 1; have hfz34_2 := blk_frozen BK268.out 2) | ((with_reducible refine gate_callee (f := 144) rfl ?_); refine goesM_ (some 14) rfl rfl Try.func144 (by kernel_rfl) rfl #[.string ((rd_I_Sym l0 x7_1).f0)] rfl ?_; (with_reducible refine (impl_NameOk.calls k1 ((rd_I_Sym l0 x7_1).f0) false _ A5.out).mono ?_); rintro e w' ⟨rfl, ⟨nd, rfl⟩⟩; refine ⟨_, rfl, ?_⟩))
              go_ret
              exact fin_ (bs1_ HB.out GE268.out)
          · rw [if_neg c4] at H; exact absurd H (by simp)
        · rw [if_neg c3] at H; exact absurd H (by simp)
      · rw [if_neg c2] at H; have c2b0 := decide_eq_false c2; clear c2; replace H := Option.bind_eq_some_iff.mp H; obtain ⟨t264, A350, H⟩ := H; replace H : (if t264 = true then (if 0 < (l0.length : Int) then (if ((rd_I_Sym l0 0).f0).toList = ([116, 116] : List UInt8) then (some (((rd_I_Sym l0 0).f1) == 0)) else (some false)) else (none)) else (some false)) = some r := H; have A35 := Aside0.mk A350; clear A350
        by_cases c36 : t264 = true
        · subst c36; rw [if_pos rfl] at H
          by_cases c37 : 0 < (l0.length : Int)
          · rw [if_pos c37] at H; have c37b0 := decide_eq_true c37; have c37b1 : decide (0 < l0.length) = true := decide_eq_true (by omega); clear c37
            by_cases c38 : ((rd_I_Sym l0 0).f0).toList = ([116, 116] : List UInt8)
            · rw [if_pos c38] at H; have c38b0 : (((rd_I_Sym l0 0).f0).toList == ([116, 116] : List UInt8)) = true := beq_iff_eq.mpr c38; have c38b1 : (((rd_I_Sym l0 0).f0).toList != ([116, 116] : List UInt8)) = false := bne_eq_false_iff_eq.mpr c38; clear c38; obtain rfl := Option.some.inj H
              go_wp2_with (first | ((with_reducible refine gate_callee (f := 87) rfl ?_); refine goesM_ (some 42) rfl rfl Try.func87 (by kernel_rfl) rfl #[.int .i64 (l0.length : Int), .int .i64 1, .int .i64 8] rfl ?_; (with_reducible refine (impl_from.calls (l0.length : Int) 1 8 true _ A35.out).mono ?_); rintro e w' ⟨rfl, ⟨nd, rfl⟩⟩; refine ⟨_, rfl, ?_⟩; have p265 : 0 ≤ (0 : Int) := (by omega); have q265 : 0 < (l0.length : Int) := as_; obtain ⟨ad265, e265, hx265_0, hx265_1, hx265_2⟩ := at_T99 HR0.out 0 p265 q265; cases e265; have qi265 : (0 < l0.length) = True := eq_true (by omega); (try rw [show ((0 : Int)).toNat = 0 from rfl] at hx265_0); (try rw [show 0 * 3 = 0 from rfl] at hx265_0); (try rw [Addr.add_zero'] at hx265_0); (try rw [show ((0 : Int)).toNat = 0 from rfl] at hx265_1); (try rw [show 0 * 3 = 0 from rfl] at hx265_1); (try rw [Addr.add_zero'] at hx265_1); (try rw [show ((0 : Int)).toNat = 0 from rfl] at hx265_2); (try rw [show 0 * 3 = 0 from rfl] at hx265_2); (try rw [Addr.add_zero'] at hx265_2); replace hx265_0 := hbc_ HB.out hx265_0; replace hx265_1 := hbc_ HB.out hx265_1; replace hx265_2 := hbc_ HB.out hx265_2; replace p265 := eq_true p265; replace q265 := eq_true q265; have p266 : 0 ≤ (0 : Int) := (by omega); have q266 : 0 < (l0.length : Int) := as_; obtain ⟨ad266, e266, hx266_0, hx266_1, hx266_2⟩ := at_T99 HR0.out 0 p266 q266; obtain rfl : ad265 = ad266 := (by injection e266); have qi266 : (0 < l0.length) = True := eq_true (by omega); (try rw [show ((0 : Int)).toNat = 0 from rfl] at hx266_0); (try rw [show 0 * 3 = 0 from rfl] at hx266_0); (try rw [Addr.add_zero'] at hx266_0); (try rw [show ((0 : Int)).toNat = 0 from rfl] at hx266_1); (try rw [show 0 * 3 = 0 from rfl] at hx266_1); (try rw [Addr.add_zero'] at hx266_1); (try rw [show ((0 : Int)).toNat = 0 from rfl] at hx266_2); (try rw [show 0 * 3 = 0 from rfl] at hx266_2); (try rw [Addr.add_zero'] at hx266_2); replace hx266_0 := hbc_ HB.out hx266_0; replace hx266_1 := hbc_ HB.out hx266_1; replace hx266_2 := hbc_ HB.out hx266_2; replace p266 := eq_true p266; replace q266 := eq_true q266))
              go_ret
              exact fin_ (bl_ HB.out)
            · rw [if_neg c38] at H; have c38b0 : (((rd_I_Sym l0 0).f0).toList == ([116, 116] : List UInt8)) = false := beq_eq_false_iff_ne.mpr c38; have c38b1 : (((rd_I_Sym l0 0).f0).toList != ([116, 116] : List UInt8)) = true := bne_iff_ne.mpr c38; obtain rfl := Option.some.inj H
              go_wp2_with (first | ((with_reducible refine gate_callee (f := 87) rfl ?_); refine goesM_ (some 42) rfl rfl Try.func87 (by kernel_rfl) rfl #[.int .i64 (l0.length : Int), .int .i64 1, .int .i64 8] rfl ?_; (with_reducible refine (impl_from.calls (l0.length : Int) 1 8 true _ A35.out).mono ?_); rintro e w' ⟨rfl, ⟨nd, rfl⟩⟩; refine ⟨_, rfl, ?_⟩; have p265 : 0 ≤ (0 : Int) := (by omega); have q265 : 0 < (l0.length : Int) := as_; obtain ⟨ad265, e265, hx265_0, hx265_1, hx265_2⟩ := at_T99 HR0.out 0 p265 q265; cases e265; have qi265 : (0 < l0.length) = True := eq_true (by omega); (try rw [show ((0 : Int)).toNat = 0 from rfl] at hx265_0); (try rw [show 0 * 3 = 0 from rfl] at hx265_0); (try rw [Addr.add_zero'] at hx265_0); (try rw [show ((0 : Int)).toNat = 0 from rfl] at hx265_1); (try rw [show 0 * 3 = 0 from rfl] at hx265_1); (try rw [Addr.add_zero'] at hx265_1); (try rw [show ((0 : Int)).toNat = 0 from rfl] at hx265_2); (try rw [show 0 * 3 = 0 from rfl] at hx265_2); (try rw [Addr.add_zero'] at hx265_2); replace hx265_0 := hbc_ HB.out hx265_0; replace hx265_1 := hbc_ HB.out hx265_1; replace hx265_2 := hbc_ HB.out hx265_2; replace p265 := eq_true p265; replace q265 := eq_true q265))
              go_ret
              exact fin_ (bl_ HB.out)
          · rw [if_neg c37] at H; exact absurd H (by simp)
        · replace c36 := Bool.eq_false_iff.mpr c36; subst c36; rw [if_neg (show ¬ (false = true) by decide)] at H; obtain rfl := Option.some.inj H
          go_wp2_with (first | ((with_reducible refine gate_callee (f := 87) rfl ?_); refine goesM_ (some 42) rfl rfl Try.func87 (by kernel_rfl) rfl #[.int .i64 (l0.length : Int), .int .i64 1, .int .i64 8] rfl ?_; (with_reducible refine (impl_from.calls (l0.length : Int) 1 8 false _ A35.out).mono ?_); rintro e w' ⟨rfl, ⟨nd, rfl⟩⟩; refine ⟨_, rfl, ?_⟩))
          go_ret
          exact fin_ (bl_ HB.out)

/-- A state of type 3 at block g of W; what its slices lead to came in by w0. -/
def IsS3 (w0 W : World) (g : Nat) (f0 : Int) : Prop := W.heap[g]? = some (.cells #[.int .i64 f0] 3 (0, 0)) ∧ w0.heap.size ≤ g
theorem IsS3.grown {w0 W : World} {g : Nat} {f0 : Int} {W1 : World} {row : Option Nat} (h : IsS3 w0 W g f0) (hw : W.grownBy W1 row) (hne : some g ≠ row) : IsS3 w0 W1 g f0 := by
  obtain ⟨hb, hg⟩ := h; exact ⟨blk_grown hb hw hne, hg⟩
theorem IsS3.own_neN {w0 W : World} {g : Nat} {f0 : Int} {α : Type} {d : Kd α} {e : Nat} {base : Nat} {ok : Nat → Prop} {v : Value} {xs : List α} (h : IsS3 w0 W g f0) (ho : Kd.N d e W base ok v xs) (ht : e ≠ 3) : some g ≠ v.ownBlock := by
  obtain ⟨hb, hg⟩ := h; exact Kd.N_ne ho hb ht
theorem IsS3.fresh {w0 W : World} {g : Nat} {f0 : Int} (h : IsS3 w0 W g f0) : ∀ k, W.heap.size ≤ k → k ≠ g := by
  obtain ⟨hb, hg⟩ := h; exact Kd.freshB hb
theorem IsS3.kept {w0 W : World} {g : Nat} {f0 : Int} {W1 : World} {S : Nat → Prop} (h : IsS3 w0 W g f0) (hk : Kept W W1 S) (hne : ¬ S g) : IsS3 w0 W1 g f0 := by
  obtain ⟨hb, hg⟩ := h; exact ⟨blk_kept hb hk hne, hg⟩
theorem IsS3.below {w0 W : World} {g : Nat} {f0 : Int} {W1 : World} (h : IsS3 w0 W g f0) (hw : Below W.heap.size W W1) : IsS3 w0 W1 g f0 := h.grown (grown_of_below hw none) (by simp)
theorem IsS3.alloc {w0 W : World} {g : Nat} {f0 : Int} (h : IsS3 w0 W g f0) (o : Obj) : IsS3 w0 (W.alloc o) g f0 := h.below (below_alloc (Below.refl _ _) o)
theorem IsS3.drewN {w0 W : World} {g : Nat} {f0 : Int} (h : IsS3 w0 W g f0) (m : Nat) : IsS3 w0 (W.drewN m) g f0 := h
theorem IsS3.drew {w0 W : World} {g : Nat} {f0 : Int} (h : IsS3 w0 W g f0) : IsS3 w0 W.drew g f0 := h
theorem IsS3.at_ {w0 W : World} {g : Nat} {f0 : Int} {w' : World} {m : Nat} (hq : W.drewN m = w') (h : IsS3 w0 W g f0) : IsS3 w0 w' g f0 := by subst hq; exact IsS3.drewN h m
theorem IsS3.apart {w0 W : World} {g : Nat} {f0 : Int} {α : Type} {d : Kd α} {e : Nat} {base : Nat} {ok : Nat → Prop} {v : Value} {xs : List α} (h : IsS3 w0 W g f0) (ho : d.R e W base ok v xs) (ht : ∀ q, q ∈ e :: d.E → q ≠ 3) : d.R e W base (fun k => ok k ∧ k ≠ g) v xs := by
  obtain ⟨hb, hg⟩ := h; exact Kd.R_types ho hb ht
theorem IsS3.own_ne {w0 W : World} {g : Nat} {f0 : Int} {α : Type} {d : Kd α} {e : Nat} {base : Nat} {ok : Nat → Prop} {v : Value} {xs : List α} (h : IsS3 w0 W g f0) (ho : d.R e W base ok v xs) (ht : e ≠ 3) : some g ≠ v.ownBlock := by
  obtain ⟨hb, hg⟩ := h; exact Kd.R_ne ho hb ht
theorem IsS3.apartQ {w0 W : World} {g : Nat} {f0 : Int} {α : Type} {d : Kd α} {e : Nat} {base : Nat} {ok : Nat → Prop} {v : Value} {xs : List α} (h : IsS3 w0 W g f0) (ho : d.Q e W base ok v xs) (ht : ∀ q, q ∈ e :: d.E → q ≠ 3) : d.Q e W base (fun k => ok k ∧ k ≠ g) v xs := by
  obtain ⟨hb, hg⟩ := h; exact Kd.Q_types ho hb ht
theorem IsS3.own_neQ {w0 W : World} {g : Nat} {f0 : Int} {α : Type} {d : Kd α} {e : Nat} {base : Nat} {ok : Nat → Prop} {v : Value} {xs : List α} (h : IsS3 w0 W g f0) (ho : d.Q e W base ok v xs) (ht : e ≠ 3) : some g ≠ v.ownBlock := by
  obtain ⟨hb, hg⟩ := h; exact Kd.Q_ne ho hb ht
theorem IsS3.apartS {w0 W : World} {g : Nat} {f0 : Int} {α : Type} {d : Kd α} {e : Nat} {base : Nat} {ok : Nat → Prop} {v : Value} {xs : List α} (h : IsS3 w0 W g f0) (ho : d.S e W base ok v xs) (ht : ∀ q, q ∈ e :: d.E → q ≠ 3) : d.S e W base (fun k => ok k ∧ k ≠ g) v xs := by
  obtain ⟨hb, hg⟩ := h; exact Kd.S_types ho hb ht
theorem IsS3.own_neS {w0 W : World} {g : Nat} {f0 : Int} {α : Type} {d : Kd α} {e : Nat} {base : Nat} {ok : Nat → Prop} {v : Value} {xs : List α} (h : IsS3 w0 W g f0) (ho : d.S e W base ok v xs) (ht : e ≠ 3) : some g ≠ v.ownBlock := by
  obtain ⟨hb, hg⟩ := h; exact Kd.S_ne ho hb ht
theorem IsS3.lt {w0 W : World} {g : Nat} {f0 : Int} (h : IsS3 w0 W g f0) : g < W.heap.size := by
  obtain ⟨hb, hg⟩ := h; exact blk_lt hb
theorem IsS3.ge {w0 W : World} {g : Nat} {f0 : Int} (h : IsS3 w0 W g f0) : w0.heap.size ≤ g := by
  obtain ⟨hb, hg⟩ := h; exact hg
theorem IsS3.ne_blk {w0 W : World} {g : Nat} {f0 : Int} {a : Nat} {cs : Array Value} {t : TypeId} {fr : Nat × Nat} (h : IsS3 w0 W g f0) (hb2 : W.heap[a]? = some (.cells cs t fr)) (ht : t ≠ 3) : g ≠ a := by
  obtain ⟨hb, hg⟩ := h; rintro rfl; rw [hb] at hb2
  injection hb2 with hb2
  injection hb2 with _ ht2
  exact ht ht2.symm
theorem IsS3.far {w0 W : World} {g : Nat} {f0 : Int} {p : Addr} (h : IsS3 w0 W g f0) (hne : g ≠ p.block) (u : Value) : IsS3 w0 (W.setCell p u) g f0 := by
  obtain ⟨hb, hg⟩ := h; exact ⟨blk_far hb hne u, hg⟩
theorem cellS3_0 {W : World} {g : Nat} {f0 : Int} (h : W.heap[g]? = some (.cells #[.int .i64 f0] 3 (0, 0))) : W.cell? ⟨g, 0, none⟩ = some (.int .i64 f0) := (blk_cell h 0).trans rfl
theorem IsS3.set_0 {w0 W : World} {g : Nat} {f0 : Int} (h : IsS3 w0 W g f0) (x : Int) : IsS3 w0 (W.setCell ⟨g, 0, none⟩ (.int .i64 x)) g x := by
  obtain ⟨hb, hg⟩ := h; exact ⟨by simpa using blk_set hb 0 (.int .i64 x), hg⟩
theorem IsS3.new (w0 W : World) (f0 : Int) (hB : Below w0.heap.size w0 W) : IsS3 w0 (W.alloc (.cells #[.int .i64 f0] 3)) W.heap.size f0 := ⟨by simpa using heap_alloc_new W _, hB.size⟩

/-! ### impl_Parts_1: function 175 -/
def impl_Parts_1.f (a0_0 : Int) (a0_1 : Int) (l0_2 : List (I_Term)) (s1_0 : Int) : Option (Int) := some (wrap64 (s1_0 + 1))
set_option maxHeartbeats 8000000 in
set_option maxRecDepth 100000 in
theorem impl_Parts_1.calls (a0_0 : Int) (a0_1 : Int) (A0_2 : Option Addr) (c0_2 : Nat) (l0_2 : List (I_Term)) (g : Nat) (s1_0 : Int) (r : Int) (w0 w : World) (hI : IsS3 w0 w g s1_0) (hB : Below w0.heap.size w0 w) (hr0_2 : ∀ W_, KeepBut w W_ g none → Kd.C k33 W_ A0_2 l0_2.length l0_2) (hc0_2 : l0_2.length ≤ c0_2) (h : impl_Parts_1.f a0_0 a0_1 l0_2 s1_0 = some r) :
    Calls Try.prog 175 #[.agg #[.int .i64 a0_0, .int .i64 a0_1, .slice A0_2 l0_2.length c0_2], .pointer (some ⟨g, 0, none⟩)] w fun e w' => e = .returned (.tuple #[]) ∧ IsS3 w0 w' g r ∧ Below w0.heap.size w0 w' ∧ KeepBut w w' g none := by
  have hu33 := Try.underlying33; have HR0_2 := Aside0.mk hr0_2; have HC0_2 := Aside0.mk hc0_2; clear hr0_2 hc0_2; have HI1 := Aside0.mk hI; have HK := Aside0.mk (KeepBut.refl w g none); have HL := Aside0.mk hB.size; clear hI; have HW0 := Aside0.mk hB.size; have HB := Aside0.mk hB; clear hB; have H : (some (wrap64 (s1_0 + 1))) = some r := h; clear h; obtain rfl := Option.some.inj H
  go_enter Try.func175, Try.ntmps175
  go_wp2_with (first | ((with_reducible refine gate_dst (N := 2) rfl ?_); refine bxe_ (N := 2) (cs := #[.int .i64 a0_0, .int .i64 a0_1, .slice A0_2 l0_2.length c0_2]) (t := 33) ?_; intro gb272 hg w3 hbox hb; have n0_ := Aside0.mk (IsS3.below (by repeat (first | (with_reducible first | exact HI1.out | apply IsS3.alloc | apply IsS3.drewN | apply IsS3.drew | apply IsS3.set_0) | exact HI1.out)) hb); have n1_ := Aside0.mk (KeepBut.trans (by repeat (first | (with_reducible first | exact HK.out | apply KeepBut.set_ | apply keep_drewN | apply keep_drew | apply keep_alloc) | exact HK.out)) (KeepBut.of_below hb g none) (.inl rfl)); have n2_ := Aside0.mk (below_step (by repeat (first | (with_reducible first | exact HB.out | apply below_alloc | apply pw_below_drewN | apply below_drew1 | refine below_set ?_ (IsS3.ge HI1.out)) | exact HB.out)) hb); have n3_ := Aside0.mk (hbox); have n4_ := Aside0.mk ((by rw [hg]; exact (keep_size (w := w) (g := g) (row := none) (by repeat (first | (with_reducible first | exact HK.out | apply KeepBut.set_ | apply keep_drewN | apply keep_drew | apply keep_alloc) | exact HK.out))) : w.heap.size ≤ gb272)); have n5_ := Aside0.mk ((Nat.le_trans HW0.out (by rw [hg]; exact (keep_size (w := w) (g := g) (row := none) (by repeat (first | (with_reducible first | exact HK.out | apply KeepBut.set_ | apply keep_drewN | apply keep_drew | apply keep_alloc) | exact HK.out))) : w.heap.size ≤ gb272) : w0.heap.size ≤ gb272)); have n6_ := Aside0.mk ((by rw [hg]; exact Nat.ne_of_lt (IsS3.lt (show IsS3 w0 _ g s1_0 from by repeat (first | (with_reducible first | exact HI1.out | apply IsS3.alloc | apply IsS3.drewN | apply IsS3.drew | apply IsS3.set_0) | exact HI1.out))) : g ≠ gb272)); have n7_ := Aside0.mk ((by rw [hg]; exact Nat.ne_of_gt (IsS3.lt (show IsS3 w0 _ g s1_0 from by repeat (first | (with_reducible first | exact HI1.out | apply IsS3.alloc | apply IsS3.drewN | apply IsS3.drew | apply IsS3.set_0) | exact HI1.out))) : gb272 ≠ g)); clear HI1; clear HK; clear HB; have HI1 := n0_; have HK := n1_; have HB := n2_; have BK272 := n3_; have GW272 := n4_; have GE272 := n5_; have NB1_272 := n6_; have NB272_1 := n7_; clear n0_ n1_ n2_ n3_ n4_ n5_ n6_ n7_; clear hb hbox hg; obtain ⟨HGz4, hgz4⟩ := HI1.out; have hcz4_0 := cellS3_0 HGz4; have hfz4_0 := blk_frozen HGz4 0; clear HGz4 hgz4))
  first | go_end0 | ((try simp only [Exit.inBlock, Exit.then]); refine bodyPost_ret (results_none rfl _ _ _) rfl ?_)
  exact fin_ ⟨by repeat (first | (with_reducible first | exact HI1.out | apply IsS3.alloc | apply IsS3.drewN | apply IsS3.drew | apply IsS3.set_0 | refine IsS3.far ?_ NB1_272.out _) | exact HI1.out), by repeat (first | (with_reducible first | exact HB.out | apply below_alloc | apply pw_below_drewN | apply below_drew1 | refine below_set ?_ (IsS3.ge HI1.out) | refine below_set ?_ GE272.out) | exact HB.out), by repeat (first | (with_reducible first | exact HK.out | apply KeepBut.set_ | apply keep_drewN | apply keep_drew | apply keep_alloc | refine keep_far ?_ GW272.out _) | exact HK.out)⟩

/-! ### impl_each_with_impl_Parts_1: function 193 -/
mutual
def impl_each_with_impl_Parts_1.l0 : Nat → List (I_Term) → Int → Int → Int → Option (Int)
  | 0, _, _, _, _ => none
  | k + 1, x10, x11, x12, x3000 => if x12 < x11 then (if 0 ≤ x12 then (if x12 < (x10.length : Int) then ((impl_each_with_impl_Parts_1.f k ((rd_I_Term x10 x12).f0) ((rd_I_Term x10 x12).f1) ((rd_I_Term x10 x12).f2) x3000).bind fun t277 => (impl_each_with_impl_Parts_1.l0 k x10 x11 (wrap64 (x12 + 1)) t277)) else (none)) else (none)) else (some x3000)
def impl_each_with_impl_Parts_1.f : Nat → Int → Int → List (I_Term) → Int → Option (Int)
  | 0, _, _, _, _ => none
  | k + 1, a0_0, a0_1, l0_2, s2_0 => (impl_Parts_1.f a0_0 a0_1 l0_2 s2_0).bind fun t274 => (impl_each_with_impl_Parts_1.l0 k l0_2 (l0_2.length : Int) 0 t274)
end
theorem impl_each_with_impl_Parts_1.mono_l : ∀ k, (∀ y0 y1 y2 y3, LeO (impl_each_with_impl_Parts_1.f k y0 y1 y2 y3) (impl_each_with_impl_Parts_1.f (k + 1) y0 y1 y2 y3)) ∧ (∀ y0 y1 y2 y3, LeO (impl_each_with_impl_Parts_1.l0 k y0 y1 y2 y3) (impl_each_with_impl_Parts_1.l0 (k + 1) y0 y1 y2 y3))
  | 0 => ⟨fun _ _ _ _ r h => by simp [impl_each_with_impl_Parts_1.f] at h, fun _ _ _ _ r h => by simp [impl_each_with_impl_Parts_1.l0] at h⟩
  | k + 1 => by
    obtain ⟨ih0, ih1⟩ := impl_each_with_impl_Parts_1.mono_l k; refine ⟨?_, ?_⟩
    · intro y0 y1 y2 y3
      unfold impl_each_with_impl_Parts_1.f
      repeat' first
      | (with_reducible exact ih0 _ _ _ _)
      | (with_reducible exact ih1 _ _ _ _)
      | (with_reducible exact LeO.refl _)
      | (with_reducible exact LeO.none _)
      | (with_reducible refine LeO.ite ?_ ?_)
      | (with_reducible refine LeO.bind ?_ (fun _ => ?_))
      | exact ih0 _ _ _ _
      | exact ih1 _ _ _ _
      | exact LeO.none _
      | refine LeO.ite ?_ ?_
      | refine LeO.bind ?_ (fun _ => ?_)
    · intro y0 y1 y2 y3
      unfold impl_each_with_impl_Parts_1.l0
      repeat' first
      | (with_reducible exact ih0 _ _ _ _)
      | (with_reducible exact ih1 _ _ _ _)
      | (with_reducible exact LeO.refl _)
      | (with_reducible exact LeO.none _)
      | (with_reducible refine LeO.ite ?_ ?_)
      | (with_reducible refine LeO.bind ?_ (fun _ => ?_))
      | exact ih0 _ _ _ _
      | exact ih1 _ _ _ _
      | exact LeO.none _
      | refine LeO.ite ?_ ?_
      | refine LeO.bind ?_ (fun _ => ?_)
theorem impl_each_with_impl_Parts_1.mono : ∀ a0 a1 a2 a3 k, LeO (impl_each_with_impl_Parts_1.f k a0 a1 a2 a3) (impl_each_with_impl_Parts_1.f (k + 1) a0 a1 a2 a3) := by
  intro a0 a1 a2 a3 k; obtain ⟨ih0, ih1⟩ := impl_each_with_impl_Parts_1.mono_l k; exact ih0 a0 a1 a2 a3
set_option maxHeartbeats 8000000 in
set_option maxRecDepth 100000 in
theorem impl_each_with_impl_Parts_1.calls (k : Nat) : ∀ (a0_0 : Int) (a0_1 : Int) (A0_2 : Option Addr) (c0_2 : Nat) (l0_2 : List (I_Term))  (g : Nat) (s2_0 : Int) (r : Int) (w0 w : World) (hI : IsS3 w0 w g s2_0) (hB : Below w0.heap.size w0 w) (hr0_2 : ∀ W_, KeepBut w W_ g none → Kd.C k33 W_ A0_2 l0_2.length l0_2) (hc0_2 : l0_2.length ≤ c0_2) (h : impl_each_with_impl_Parts_1.f k a0_0 a0_1 l0_2 s2_0 = some r),
    Calls Try.prog 98 #[.agg #[.int .i64 a0_0, .int .i64 a0_1, .slice A0_2 l0_2.length c0_2], .func (.func 175) #[] #[.pointer (some ⟨g, 0, none⟩)]] w fun e w' => e = .returned (.tuple #[]) ∧ IsS3 w0 w' g r ∧ Below w0.heap.size w0 w' ∧ KeepBut w w' g none := by
  induction k using Nat.strongRecOn with
  | _ k ih =>
  intro a0_0 a0_1 A0_2 c0_2 l0_2 g s2_0 r w0 w hI hB hr0_2 hc0_2 h
  cases k with
  | zero => exact absurd h (by simp [impl_each_with_impl_Parts_1.f])
  | succ k =>
  simp only [impl_each_with_impl_Parts_1.f] at h
  have hu33 := Try.underlying33; have HR0_2 := Aside0.mk hr0_2; have HC0_2 := Aside0.mk hc0_2; clear hr0_2 hc0_2; have HI2 := Aside0.mk hI; have HK := Aside0.mk (KeepBut.refl w g none); have HL := Aside0.mk hB.size; clear hI; have HW0 := Aside0.mk hB.size; have HB := Aside0.mk hB; clear hB; have H : ((impl_Parts_1.f a0_0 a0_1 l0_2 s2_0).bind fun t274 => (impl_each_with_impl_Parts_1.l0 k l0_2 (l0_2.length : Int) 0 t274)) = some r := h; clear h; replace H := Option.bind_eq_some_iff.mp H; obtain ⟨t274, A40, H⟩ := H; replace H : (impl_each_with_impl_Parts_1.l0 k l0_2 (l0_2.length : Int) 0 t274) = some r := H; have A4 := Aside0.mk A40; clear A40; have H' := Aside0.mk H; clear H
  go_enter Try.func98, Try.ntmps98
  go_wp2_with (first | ((with_reducible refine gate_dst (N := 2) rfl ?_); refine bxe_ (N := 2) (cs := #[.int .i64 a0_0, .int .i64 a0_1, .slice A0_2 l0_2.length c0_2]) (t := 33) ?_; intro gb273 hg w5 hbox hb; have n0_ := Aside0.mk (IsS3.below (by repeat (first | (with_reducible first | exact HI2.out | apply IsS3.alloc | apply IsS3.drewN | apply IsS3.drew | apply IsS3.set_0) | exact HI2.out)) hb); have n1_ := Aside0.mk (KeepBut.trans (by repeat (first | (with_reducible first | exact HK.out | apply KeepBut.set_ | apply keep_drewN | apply keep_drew | apply keep_alloc) | exact HK.out)) (KeepBut.of_below hb g none) (.inl rfl)); have n2_ := Aside0.mk (below_step (by repeat (first | (with_reducible first | exact HB.out | apply below_alloc | apply pw_below_drewN | apply below_drew1 | refine below_set ?_ (IsS3.ge HI2.out)) | exact HB.out)) hb); have n3_ := Aside0.mk (hbox); have n4_ := Aside0.mk ((by rw [hg]; exact (keep_size (w := w) (g := g) (row := none) (by repeat (first | (with_reducible first | exact HK.out | apply KeepBut.set_ | apply keep_drewN | apply keep_drew | apply keep_alloc) | exact HK.out))) : w.heap.size ≤ gb273)); have n5_ := Aside0.mk ((Nat.le_trans HW0.out (by rw [hg]; exact (keep_size (w := w) (g := g) (row := none) (by repeat (first | (with_reducible first | exact HK.out | apply KeepBut.set_ | apply keep_drewN | apply keep_drew | apply keep_alloc) | exact HK.out))) : w.heap.size ≤ gb273) : w0.heap.size ≤ gb273)); have n6_ := Aside0.mk ((by rw [hg]; exact Nat.ne_of_lt (IsS3.lt (show IsS3 w0 _ g s2_0 from by repeat (first | (with_reducible first | exact HI2.out | apply IsS3.alloc | apply IsS3.drewN | apply IsS3.drew | apply IsS3.set_0) | exact HI2.out))) : g ≠ gb273)); have n7_ := Aside0.mk ((by rw [hg]; exact Nat.ne_of_gt (IsS3.lt (show IsS3 w0 _ g s2_0 from by repeat (first | (with_reducible first | exact HI2.out | apply IsS3.alloc | apply IsS3.drewN | apply IsS3.drew | apply IsS3.set_0) | exact HI2.out))) : gb273 ≠ g)); clear HI2; clear HK; clear HB; have HI2 := n0_; have HK := n1_; have HB := n2_; have BK273 := n3_; have GW273 := n4_; have GE273 := n5_; have NB2_273 := n6_; have NB273_2 := n7_; clear n0_ n1_ n2_ n3_ n4_ n5_ n6_ n7_; clear hb hbox hg; have hnb6 := NB273_2.out; have hnc6 := NB2_273.out; have hcz7_0 := bc_ BK273.out 0; have hcz7_1 := bc_ BK273.out 1; have hcz7_2 := bc_ BK273.out 2; have hfz7_0 := blk_frozen BK273.out 0; have hfz7_1 := blk_frozen BK273.out 1; have hfz7_2 := blk_frozen BK273.out 2) | ((with_reducible refine Go.Proofs.Ytcboagkbcoihjaa.XOpens.gate_calleeV (t := 6) rfl ?_); refine Go.Proofs.Ytcboagkbcoihjaa.XOpens.goesV_ (some 8) rfl rfl Try.func175 (by kernel_rfl) rfl #[.agg #[.int .i64 a0_0, .int .i64 a0_1, .slice A0_2 l0_2.length c0_2], .pointer (some ⟨g, 0, none⟩)] rfl rfl (by (try simp only [List.map_toArray, List.map_cons, List.map_nil]); first | done | rfl | (simp only [List.length_drop, List.length_take]; rfl)) ?_; (with_reducible refine (impl_Parts_1.calls a0_0 a0_1 _ _ l0_2 g s2_0 t274 w0 _ ?side1 ?side2 ?side3 ?side4 A4.out).mono ?_); (case side1 => repeat (first | (with_reducible first | exact HI2.out | apply IsS3.alloc | apply IsS3.drewN | apply IsS3.drew | apply IsS3.set_0 | refine IsS3.far ?_ NB2_273.out _) | exact HI2.out)); (case side2 => repeat (first | (with_reducible first | exact HB.out | apply below_alloc | apply pw_below_drewN | apply below_drew1 | refine below_set ?_ (IsS3.ge HI2.out) | refine below_set ?_ GE273.out) | exact HB.out)); (case side3 => exact Kd.C_foot_step HR0_2.out (by repeat (first | (with_reducible first | exact HK.out | apply KeepBut.set_ | apply keep_drewN | apply keep_drew | apply keep_alloc | refine keep_far ?_ GW273.out _) | exact HK.out))); (case side4 => exact HC0_2.out); rintro e w8 ⟨rfl, hi, hb, hk⟩; refine ⟨_, rfl, ?_⟩; have n0_ := Aside0.mk (KeepBut.blk hk (g' := gb273) (o := .cells #[.int .i64 a0_0, .int .i64 a0_1, .slice A0_2 l0_2.length c0_2] 33 (0, 0)) (bk_ BK273.out) NB273_2.out (by simp)); have n1_ := Aside0.mk (KeepBut.trans (by repeat (first | (with_reducible first | exact HK.out | apply KeepBut.set_ | apply keep_drewN | apply keep_drew | apply keep_alloc | refine keep_far ?_ GW273.out _) | exact HK.out)) hk (.inl rfl)); have n2_ := Aside0.mk (hb); have n3_ := Aside0.mk (hi); clear BK273; clear HK; clear HB; clear HI2; have BK273 := n0_; have HK := n1_; have HB := n2_; have HI2 := n3_; clear n0_ n1_ n2_ n3_; (try clear hb); (try clear hb2); (try clear hk); (try clear hi); have hcz9_0 := bc_ BK273.out 0; have hcz9_1 := bc_ BK273.out 1; have hcz9_2 := bc_ BK273.out 2; have hfz9_0 := blk_frozen BK273.out 0; have hfz9_1 := blk_frozen BK273.out 1; have hfz9_2 := blk_frozen BK273.out 2))
  go_loopg [12] k (fun kq v12 w' => ∃ (x12_1 : Int) (x3000_1 : Int), v12 = .int .i64 x12_1 ∧ Aside0 (impl_each_with_impl_Parts_1.l0 kq l0_2 (l0_2.length : Int) x12_1 x3000_1 = some r) ∧ Aside0 (kq ≤ k) ∧ Aside0 (w'.heap[gb273]? = some (.cells #[.int .i64 a0_0, .int .i64 a0_1, (.slice A0_2 l0_2.length c0_2)] 33 (0, 0))) ∧ Aside0 (IsS3 w0 w' g x3000_1) ∧ Aside0 (KeepBut w w' g none) ∧ Aside0 (Below w0.heap.size w0 w'))
  case atStart => exact ⟨(0), (t274), (by first | rfl | (simp; done) | (simp [*]; done)), H', ⟨Nat.le_refl _⟩, ⟨bk_ BK273.out⟩, ⟨by repeat (first | (with_reducible first | exact HI2.out | apply IsS3.alloc | apply IsS3.drewN | apply IsS3.drew | apply IsS3.set_0 | refine IsS3.far ?_ NB2_273.out _) | exact HI2.out)⟩, ⟨by repeat (first | (with_reducible first | exact HK.out | apply KeepBut.set_ | apply keep_drewN | apply keep_drew | apply keep_alloc | refine keep_far ?_ GW273.out _) | exact HK.out)⟩, ⟨by repeat (first | (with_reducible first | exact HB.out | apply below_alloc | apply pw_below_drewN | apply below_drew1 | refine below_set ?_ (IsS3.ge HI2.out) | refine below_set ?_ GE273.out) | exact HB.out)⟩⟩
  case round =>
    clear H'; (try clear c1); (try clear p2); (try clear c6); (try clear hcz7_0); (try clear hcz7_1); (try clear hcz7_2); (try clear hcz9_0); (try clear hcz9_1); (try clear hcz9_2); (try clear hfz7_0); (try clear hfz7_1); (try clear hfz7_2); (try clear hfz9_0); (try clear hfz9_1); (try clear hfz9_2); obtain ⟨x12_1, x3000_1, rfl, HA, HK1, BK273, HI2, HK, HB⟩ := hrel
    cases gk with
    | zero => exact absurd HA.out (by simp [impl_each_with_impl_Parts_1.l0])
    | succ k1 =>
      have H := HA.out; clear HA
      simp only [impl_each_with_impl_Parts_1.l0] at H
      by_cases c10 : x12_1 < (l0_2.length : Int)
      · rw [if_pos c10] at H; have c10b0 := decide_eq_true c10; clear c10
        by_cases c11 : 0 ≤ x12_1
        · rw [if_pos c11] at H; have c11b0 := decide_eq_true c11; clear c11
          by_cases c12 : x12_1 < (l0_2.length : Int)
          · rw [if_pos c12] at H; have c12b0 := decide_eq_true c12; clear c12; replace H := Option.bind_eq_some_iff.mp H; obtain ⟨t277, A130, H⟩ := H; replace H : (impl_each_with_impl_Parts_1.l0 k1 l0_2 (l0_2.length : Int) (wrap64 (x12_1 + 1)) t277) = some r := H; have A13 := Aside0.mk A130; clear A130; have H' := Aside0.mk H; clear H; have p275 : 0 ≤ (x12_1 : Int) := as_; have q275 : x12_1 < (l0_2.length : Int) := as_; obtain ⟨ad275, A275_2, c275_2, e275, hx275_0, hx275_1, hx275_2, hl275_2, hi275_2⟩ := at_T33 (Kd.C_foot_now HR0_2.out HK.out) x12_1 p275 q275
            cases e275
            have HR275_2 := Aside0.mk (show ∀ W_, KeepBut w W_ g none → Kd.C k33 W_ A275_2 ((rd_I_Term l0_2 x12_1).f2).length ((rd_I_Term l0_2 x12_1).f2) from by intro W_ hk_; obtain ⟨ad_, a2_, c2_, e_, y0_, y1_, y2_, l2_, i2_⟩ := at_T33 (HR0_2.out W_ hk_) x12_1 p275 q275; cases e_; have hv_ := Go.Proofs.Ytcboagkbcoihjaa.XOpens.foot_leaf HR0_2.out HK.out hk_ (by first | rfl | rw [add_block] | simp) (by omega) (by decide) hx275_2 y2_; injection hv_ with ha_ hn_ hc_; rw [ha_]; exact i2_); have HC275_2 := Aside0.mk hl275_2; clear hi275_2 hl275_2; replace p275 := eq_true p275; replace q275 := eq_true q275
            go_wp2_with (first | ((with_reducible refine gate_dst (N := 5) rfl ?_); refine bxe_ (N := 5) (cs := #[.int .i64 0, .int .i64 0, .slice none 0 0]) (t := 33) ?_; intro gb276 hg w14 hbox hb; have n0_ := Aside0.mk (blk_below (bk_ BK273.out) hb); have n1_ := Aside0.mk (IsS3.below (by repeat (first | (with_reducible first | exact HI2.out | apply IsS3.alloc | apply IsS3.drewN | apply IsS3.drew | apply IsS3.set_0 | refine IsS3.far ?_ NB2_273.out _) | exact HI2.out)) hb); have n2_ := Aside0.mk (KeepBut.trans (by repeat (first | (with_reducible first | exact HK.out | apply KeepBut.set_ | apply keep_drewN | apply keep_drew | apply keep_alloc | refine keep_far ?_ GW273.out _) | exact HK.out)) (KeepBut.of_below hb g none) (.inl rfl)); have n3_ := Aside0.mk (below_step (by repeat (first | (with_reducible first | exact HB.out | apply below_alloc | apply pw_below_drewN | apply below_drew1 | refine below_set ?_ (IsS3.ge HI2.out) | refine below_set ?_ GE273.out) | exact HB.out)) hb); have n4_ := Aside0.mk (hbox); have n5_ := Aside0.mk ((by rw [hg]; exact (keep_size (w := w) (g := g) (row := none) (by repeat (first | (with_reducible first | exact HK.out | apply KeepBut.set_ | apply keep_drewN | apply keep_drew | apply keep_alloc | refine keep_far ?_ GW273.out _) | exact HK.out))) : w.heap.size ≤ gb276)); have n6_ := Aside0.mk ((Nat.le_trans HW0.out (by rw [hg]; exact (keep_size (w := w) (g := g) (row := none) (by repeat (first | (with_reducible first | exact HK.out | apply KeepBut.set_ | apply keep_drewN | apply keep_drew | apply keep_alloc | refine keep_far ?_ GW273.out _) | exact HK.out))) : w.heap.size ≤ gb276) : w0.heap.size ≤ gb276)); have n7_ := Aside0.mk (nl_ hg (bk_ BK273.out)); have n8_ := Aside0.mk (ng_ hg (bk_ BK273.out)); have n9_ := Aside0.mk ((by rw [hg]; exact Nat.ne_of_lt (IsS3.lt (show IsS3 w0 _ g x3000_1 from by repeat (first | (with_reducible first | exact HI2.out | apply IsS3.alloc | apply IsS3.drewN | apply IsS3.drew | apply IsS3.set_0 | refine IsS3.far ?_ NB2_273.out _) | exact HI2.out))) : g ≠ gb276)); have n10_ := Aside0.mk ((by rw [hg]; exact Nat.ne_of_gt (IsS3.lt (show IsS3 w0 _ g x3000_1 from by repeat (first | (with_reducible first | exact HI2.out | apply IsS3.alloc | apply IsS3.drewN | apply IsS3.drew | apply IsS3.set_0 | refine IsS3.far ?_ NB2_273.out _) | exact HI2.out))) : gb276 ≠ g)); clear BK273; clear HI2; clear HK; clear HB; have BK273 := n0_; have HI2 := n1_; have HK := n2_; have HB := n3_; have BK276 := n4_; have GW276 := n5_; have GE276 := n6_; have NB273_276 := n7_; have NB276_273 := n8_; have NB2_276 := n9_; have NB276_2 := n10_; clear n0_ n1_ n2_ n3_ n4_ n5_ n6_ n7_ n8_ n9_ n10_; clear hb hbox hg; have hnb15 := NB276_273.out; have hnc15 := NB273_276.out; have hnb16 := NB276_2.out; have hnc16 := NB2_276.out; have hcz17_0 := bc_ BK276.out 0; have hcz17_1 := bc_ BK276.out 1; have hcz17_2 := bc_ BK276.out 2; have hfz17_0 := blk_frozen BK276.out 0; have hfz17_1 := blk_frozen BK276.out 1; have hfz17_2 := blk_frozen BK276.out 2) | ((with_reducible refine gate_callee (f := 98) rfl ?_); refine goesM_ (some 18) rfl rfl Try.func98 (by kernel_rfl) rfl #[.agg #[.int .i64 ((rd_I_Term l0_2 x12_1).f0), .int .i64 ((rd_I_Term l0_2 x12_1).f1), .slice A275_2 ((rd_I_Term l0_2 x12_1).f2).length c275_2], .func (.func 175) #[] #[.pointer (some ⟨g, 0, none⟩)]] rfl ?_; (with_reducible refine (ih k1 (by have := HK1.out; omega) ((rd_I_Term l0_2 x12_1).f0) ((rd_I_Term l0_2 x12_1).f1) _ _ ((rd_I_Term l0_2 x12_1).f2)  g x3000_1 t277 w0 _ ?side1 ?side2 ?side3 ?side4 A13.out).mono ?_); (case side1 => repeat (first | (with_reducible first | exact HI2.out | apply IsS3.alloc | apply IsS3.drewN | apply IsS3.drew | apply IsS3.set_0 | refine IsS3.far ?_ NB2_273.out _ | refine IsS3.far ?_ NB2_276.out _) | exact HI2.out)); (case side2 => repeat (first | (with_reducible first | exact HB.out | apply below_alloc | apply pw_below_drewN | apply below_drew1 | refine below_set ?_ (IsS3.ge HI2.out) | refine below_set ?_ GE273.out | refine below_set ?_ GE276.out) | exact HB.out)); (case side3 => exact Kd.C_foot_step HR275_2.out (by repeat (first | (with_reducible first | exact HK.out | apply KeepBut.set_ | apply keep_drewN | apply keep_drew | apply keep_alloc | refine keep_far ?_ GW273.out _ | refine keep_far ?_ GW276.out _) | exact HK.out))); (case side4 => exact HC275_2.out); rintro e w18 ⟨rfl, hi, hb, hk⟩; refine ⟨_, rfl, ?_⟩; have n0_ := Aside0.mk (KeepBut.blk hk (g' := gb273) (o := .cells #[.int .i64 a0_0, .int .i64 a0_1, .slice (some ad275) l0_2.length c0_2] 33 (0, 0)) (by (with_reducible repeat (first | refine blk_drewN ?_ _ | refine blk_drew ?_ | refine blk_alloc ?_ _)); refine blk_far ?_ NB273_276.out _; (with_reducible repeat (first | refine blk_drewN ?_ _ | refine blk_drew ?_ | refine blk_alloc ?_ _)); refine blk_far ?_ NB273_276.out _; (with_reducible repeat (first | refine blk_drewN ?_ _ | refine blk_drew ?_ | refine blk_alloc ?_ _)); refine blk_far ?_ NB273_276.out _; (with_reducible repeat (first | refine blk_drewN ?_ _ | refine blk_drew ?_ | refine blk_alloc ?_ _)); exact BK273.out) NB273_2.out (by simp)); have n1_ := Aside0.mk (KeepBut.blk hk (g' := gb276) (o := .cells #[.int .i64 ((rd_I_Term l0_2 x12_1).f0), .int .i64 ((rd_I_Term l0_2 x12_1).f1), .slice A275_2 ((rd_I_Term l0_2 x12_1).f2).length c275_2] 33 (0, 0)) (by (with_reducible repeat (first | refine blk_drewN ?_ _ | refine blk_drew ?_ | refine blk_alloc ?_ _)); refine blk_put (cs := #[.int .i64 ((rd_I_Term l0_2 x12_1).f0), .int .i64 ((rd_I_Term l0_2 x12_1).f1), .slice none 0 0]) ?_ 2 _ rfl; (with_reducible repeat (first | refine blk_drewN ?_ _ | refine blk_drew ?_ | refine blk_alloc ?_ _)); refine blk_put (cs := #[.int .i64 ((rd_I_Term l0_2 x12_1).f0), .int .i64 0, .slice none 0 0]) ?_ 1 _ rfl; (with_reducible repeat (first | refine blk_drewN ?_ _ | refine blk_drew ?_ | refine blk_alloc ?_ _)); refine blk_put (cs := #[.int .i64 0, .int .i64 0, .slice none 0 0]) ?_ 0 _ rfl; (with_reducible repeat (first | refine blk_drewN ?_ _ | refine blk_drew ?_ | refine blk_alloc ?_ _)); exact BK276.out) NB276_2.out (by simp)); have n2_ := Aside0.mk (KeepBut.trans (by repeat (first | (with_reducible first | exact HK.out | apply KeepBut.set_ | apply keep_drewN | apply keep_drew | apply keep_alloc | refine keep_far ?_ GW273.out _ | refine keep_far ?_ GW276.out _) | exact HK.out)) hk (.inl rfl)); have n3_ := Aside0.mk (hb); have n4_ := Aside0.mk (hi); clear BK273; clear BK276; clear HK; clear HB; clear HI2; have BK273 := n0_; have BK276 := n1_; have HK := n2_; have HB := n3_; have HI2 := n4_; clear n0_ n1_ n2_ n3_ n4_; (try clear hb); (try clear hb2); (try clear hk); (try clear hi)))
            go_roundg k1
            case measure => have := HK1.out; omega
            case rel => exact ⟨(wrap64 (x12_1 + 1)), (t277), (by first | rfl | (simp; done) | (simp [*]; done)), H', ⟨by have := HK1.out; omega⟩, ⟨bk_ BK273.out⟩, ⟨by repeat (first | (with_reducible first | exact HI2.out | apply IsS3.alloc | apply IsS3.drewN | apply IsS3.drew | apply IsS3.set_0 | refine IsS3.far ?_ NB2_273.out _ | refine IsS3.far ?_ NB2_276.out _) | exact HI2.out)⟩, ⟨by repeat (first | (with_reducible first | exact HK.out | apply KeepBut.set_ | apply keep_drewN | apply keep_drew | apply keep_alloc | refine keep_far ?_ GW273.out _ | refine keep_far ?_ GW276.out _) | exact HK.out)⟩, ⟨by repeat (first | (with_reducible first | exact HB.out | apply below_alloc | apply pw_below_drewN | apply below_drew1 | refine below_set ?_ (IsS3.ge HI2.out) | refine below_set ?_ GE273.out | refine below_set ?_ GE276.out) | exact HB.out)⟩⟩
          · rw [if_neg c12] at H; exact absurd H (by simp)
        · rw [if_neg c11] at H; exact absurd H (by simp)
      · rw [if_neg c10] at H; have c10b0 := decide_eq_false c10; clear c10; obtain rfl := Option.some.inj H
        go_wp2
        first | go_end0 | ((try simp only [Exit.inBlock, Exit.then]); refine bodyPost_ret (results_none rfl _ _ _) rfl ?_)
        exact fin_ ⟨by repeat (first | (with_reducible first | exact HI2.out | apply IsS3.alloc | apply IsS3.drewN | apply IsS3.drew | apply IsS3.set_0 | refine IsS3.far ?_ NB2_273.out _) | exact HI2.out), by repeat (first | (with_reducible first | exact HB.out | apply below_alloc | apply pw_below_drewN | apply below_drew1 | refine below_set ?_ (IsS3.ge HI2.out) | refine below_set ?_ GE273.out) | exact HB.out), by repeat (first | (with_reducible first | exact HK.out | apply KeepBut.set_ | apply keep_drewN | apply keep_drew | apply keep_alloc | refine keep_far ?_ GW273.out _) | exact HK.out)⟩

/-! ### impl_Parts: function 166 -/
def impl_Parts.f (k : Nat) (a0_0 : Int) (a0_1 : Int) (l0_2 : List (I_Term)) : Option (Int) := (impl_each_with_impl_Parts_1.f k a0_0 a0_1 l0_2 0).bind fun t280 => (some t280)
theorem impl_Parts.mono : ∀ a0 a1 a2 k, LeO (impl_Parts.f k a0 a1 a2) (impl_Parts.f (k + 1) a0 a1 a2) := by
  intro a0 a1 a2 k
  unfold impl_Parts.f
  repeat' first
      | (with_reducible exact impl_each_with_impl_Parts_1.mono _ _ _ _ _)
      | (with_reducible exact LeO.refl _)
      | (with_reducible exact LeO.none _)
      | (with_reducible refine LeO.ite ?_ ?_)
      | (with_reducible refine LeO.bind ?_ (fun _ => ?_))
      | exact impl_each_with_impl_Parts_1.mono _ _ _ _ _
      | exact LeO.none _
      | refine LeO.ite ?_ ?_
      | refine LeO.bind ?_ (fun _ => ?_)
set_option maxHeartbeats 8000000 in
set_option maxRecDepth 100000 in
theorem impl_Parts.calls (k : Nat) (a0_0 : Int) (a0_1 : Int) (A0_2 : Option Addr) (c0_2 : Nat) (l0_2 : List (I_Term)) (r : Int) (w : World) (hr0_2 : Kd.C k33 w A0_2 l0_2.length l0_2) (hc0_2 : l0_2.length ≤ c0_2) (h : impl_Parts.f k a0_0 a0_1 l0_2 = some r) :
    Calls Try.prog 166 #[.agg #[.int .i64 a0_0, .int .i64 a0_1, .slice A0_2 l0_2.length c0_2]] w fun e w' => e = .returned (.int .i64 r) ∧ Below w.heap.size w w' := by
  have hu33 := Try.underlying33; have hu3 := Try.underlying3; have HR0_2 := Aside0.mk hr0_2; have HC0_2 := Aside0.mk hc0_2; clear hr0_2 hc0_2; have HB := Aside0.mk (Below.refl w.heap.size w); have H : ((impl_each_with_impl_Parts_1.f k a0_0 a0_1 l0_2 0).bind fun t280 => (some t280)) = some r := h; clear h; replace H := Option.bind_eq_some_iff.mp H; obtain ⟨t280, A20, H⟩ := H; replace H : (some t280) = some r := H; have A2 := Aside0.mk A20; clear A20; obtain rfl := Option.some.inj H
  go_enter Try.func166, Try.ntmps166
  go_wp2_with (first | ((with_reducible refine gate_dst (N := 1) rfl ?_); refine bxe_ (N := 1) (cs := #[.int .i64 a0_0, .int .i64 a0_1, .slice A0_2 l0_2.length c0_2]) (t := 33) ?_; intro gb278 hg w3 hbox hb; have n0_ := Aside0.mk (below_step (bl_ HB.out) hb); have n1_ := Aside0.mk (hbox); have n2_ := Aside0.mk (lg_ hg (bl_ HB.out)); have n3_ := Aside0.mk (lg_ hg (bl_ HB.out)); clear HB; have HB := n0_; have BK278 := n1_; have GW278 := n2_; have GE278 := n3_; clear n0_ n1_ n2_ n3_; clear hb hbox hg) | ((with_reducible refine gate_dst (N := 3) rfl ?_); refine bxe_ (N := 3) (cs := #[.int .i64 0]) (t := 3) ?_; intro gb279 hg w4 hbox hb; have n0_ := Aside0.mk (blk_below (bk_ BK278.out) hb); have n1_ := Aside0.mk (below_step (bs1_ HB.out GE278.out) hb); have n2_ := Aside0.mk (show IsS3 w w4 gb279 0 from ⟨hbox, (lg_ hg (bs1_ HB.out GE278.out))⟩); have n3_ := Aside0.mk (lg_ hg (bs1_ HB.out GE278.out)); have n4_ := Aside0.mk (lg_ hg (bs1_ HB.out GE278.out)); have n5_ := Aside0.mk (nl_ hg (bk_ BK278.out)); have n6_ := Aside0.mk (ng_ hg (bk_ BK278.out)); clear BK278; clear HB; have BK278 := n0_; have HB := n1_; have HI279 := n2_; have GW279 := n3_; have GE279 := n4_; have NB278_279 := n5_; have NB279_278 := n6_; clear n0_ n1_ n2_ n3_ n4_ n5_ n6_; clear hb hbox hg; obtain ⟨HGz5, hgz5⟩ := HI279.out; have hcz5_0 := cellS3_0 HGz5; have hfz5_0 := blk_frozen HGz5 0; clear HGz5 hgz5; have hnb6 := NB278_279.out; have hnc6 := NB279_278.out; have hcz7_0 := bc_ BK278.out 0; have hcz7_1 := bc_ BK278.out 1; have hcz7_2 := bc_ BK278.out 2; have hfz7_0 := blk_frozen BK278.out 0; have hfz7_1 := blk_frozen BK278.out 1; have hfz7_2 := blk_frozen BK278.out 2) | ((with_reducible refine gate_callee (f := 98) rfl ?_); refine goesM_ (some 6) rfl rfl Try.func98 (by kernel_rfl) rfl #[.agg #[.int .i64 a0_0, .int .i64 a0_1, .slice A0_2 l0_2.length c0_2], .func (.func 175) #[] #[.pointer (some ⟨gb279, 0, none⟩)]] rfl ?_; (with_reducible refine (impl_each_with_impl_Parts_1.calls k a0_0 a0_1 _ _ l0_2  gb279 0 t280 w _ ?side1 ?side2 ?side3 ?side4 A2.out).mono ?_); (case side1 => repeat (first | (with_reducible first | exact HI279.out | apply IsS3.alloc | apply IsS3.drewN | apply IsS3.drew | apply IsS3.set_0 | refine IsS3.far ?_ NB279_278.out _) | exact HI279.out)); (case side2 => repeat (first | (with_reducible first | exact HB.out | apply below_alloc | apply pw_below_drewN | apply below_drew1 | refine below_set ?_ (IsS3.ge HI279.out) | refine below_set ?_ GE278.out) | exact HB.out)); (case side3 => exact Kd.C_foot_came k33_heap HR0_2.out (by repeat (first | (with_reducible first | exact HB.out | apply below_alloc | apply pw_below_drewN | apply below_drew1 | refine below_set ?_ (IsS3.ge HI279.out) | refine below_set ?_ GE278.out) | exact HB.out)) (IsS3.ge HI279.out)); (case side4 => exact HC0_2.out); rintro e w8 ⟨rfl, hi, hb, hk⟩; refine ⟨_, rfl, ?_⟩; have n0_ := Aside0.mk (KeepBut.blk hk (g' := gb278) (o := .cells #[.int .i64 a0_0, .int .i64 a0_1, .slice A0_2 l0_2.length c0_2] 33 (0, 0)) (by (with_reducible repeat (first | refine blk_drewN ?_ _ | refine blk_drew ?_ | refine blk_alloc ?_ _)); refine blk_far ?_ NB278_279.out _; (with_reducible repeat (first | refine blk_drewN ?_ _ | refine blk_drew ?_ | refine blk_alloc ?_ _)); exact BK278.out) NB278_279.out (by simp)); have n1_ := Aside0.mk (hb); have n2_ := Aside0.mk (hi); clear BK278; clear HB; clear HI279; have BK278 := n0_; have HB := n1_; have HI279 := n2_; clear n0_ n1_ n2_; (try clear hb); (try clear hb2); (try clear hk); (try clear hi); obtain ⟨HGz9, hgz9⟩ := HI279.out; have hcz9_0 := cellS3_0 HGz9; have hfz9_0 := blk_frozen HGz9 0; clear HGz9 hgz9))
  go_ret
  exact fin_ (by repeat (first | (with_reducible first | exact HB.out | apply below_alloc | apply pw_below_drewN | apply below_drew1 | refine below_set ?_ (IsS3.ge HI279.out) | refine below_set ?_ GE278.out) | exact HB.out))

end Go.Proofs.Ytcboagkbcoihjaa.XCloseOk
