/- The program's WorldOf returns what the reference's returns, for all arguments. -/
import Derived.Test.YtlgoindmpejgcaaXWorldOfh
namespace Go.Proofs.Ytlgoindmpejgcaa.Pure
open Go.RowKit Go.Proofs.Ytlgoindmpejgcaa.XWorldOf Go.Proofs.Ytlgoindmpejgcaa.XPure Go.Proofs.YtlgoindmpejgcaaW.PrintWords Go.Proofs.YtlgoindmpejgcaaW.PrintLast Go.Proofs.YtlgoindmpejgcaaW.PrintMore
set_option linter.unusedVariables false
set_option linter.unusedSimpArgs false
/-! #### marks on rows of rows, and on symbols -/
def oneI (v : Int) : Int := v
def totI : List (List Int) → Nat
  | [] => 0
  | t :: r => t.length + totI r
def mkSS : Int → List (List Int) → List (List Int)
  | _, [] => []
  | v, t :: r => mkL oneI 1 v t.length :: mkSS (v + (t.length : Nat)) r
theorem mkSS_length : ∀ (T : List (List Int)) (v : Int), (mkSS v T).length = T.length := by
  intro T
  induction T with
  | nil => intro v; rfl
  | cons t r ih => intro v; rw [mkSS, List.length_cons, ih, List.length_cons]
theorem markIntS_ev (l : List Int) (v : Int) (hl : l.length ≤ maxLen) (h0 : 0 ≤ v) (hv : v + (l.length : Nat) ≤ 4611686018427387904) : Ev (fun k => laws_markIntS.f k l v) (v + (l.length : Nat), mkL oneI 1 v l.length) := by
  have hm : maxLen = 9223372036854775807 := rfl
  have h := mark_loop oneI 1 (fun k acc v i => laws_markIntS.l0 k acc v i) (fun k acc v n hn hl h0 hv => by
    simp only [laws_markIntS.l0]
    rw [if_pos (by omega), if_pos (by omega), Int.toNat_natCast, wrap_nat (by omega), wrap_id (by omega) (by omega)]
    rfl) (fun k acc v => by
    simp only [laws_markIntS.l0]
    rw [if_neg (by omega)]) l hl v h0 (by omega)
  rw [Nat.one_mul] at h
  exact h
theorem heldIntS_ev (m : Nat) (v : Int) (hl : m ≤ maxLen) (h0 : 0 ≤ v) (hv : v + (m : Nat) ≤ 4611686018427387904) : Ev (fun k => laws_heldIntS.f k (mkL oneI 1 v m) v) (v + (m : Nat)) := by
  have hm : maxLen = 9223372036854775807 := rfl
  have h := held_loop oneI 1 0 (fun k acc v i => laws_heldIntS.l0 k acc v i) (fun k acc v n hn hl h0 hv e => by
    simp only [laws_heldIntS.l0]
    have e' : rd acc (n : Int) = v := e
    rw [if_pos (by omega), if_pos (by omega), if_pos e', wrap_nat (by omega), wrap_id (by omega) (by omega)]
    rfl) (fun k acc v => by
    simp only [laws_heldIntS.l0]
    rw [if_neg (by omega)]) m hl v h0 (by omega)
  rw [Nat.one_mul] at h
  exact h
theorem rdSS_mid (a : List (List Int)) (t : List Int) (r : List (List Int)) : rd_Ls_i64 (a ++ t :: r) ((a.length : Nat) : Int) = t := by
  show (a ++ t :: r).getD (Int.toNat (a.length : Int)) [] = t
  rw [Int.toNat_natCast, List.getD_eq_getElem?_getD, List.getElem?_append_right (Nat.le_refl _), Nat.sub_self]
  rfl
theorem markIntSS_l : ∀ (r a : List (List Int)) (v : Int), (a ++ r).length ≤ 1048577 → (∀ t ∈ r, t.length ≤ maxLen) → 0 ≤ v → v + (totI r : Nat) ≤ 4611686018427387904 → Ev (fun k => laws_markIntSS.l0 k (a ++ r) v ((a.length : Nat) : Int)) (v + (totI r : Nat), a ++ mkSS v r) := by
  have hm : maxLen = 9223372036854775807 := rfl
  intro r
  induction r with
  | nil =>
    intro a v hl ht h0 hv
    refine Ev.step (fun k => by simp only [laws_markIntSS.l0]; rfl) (Ev.ite_neg (by rw [List.append_nil]; omega) ?_)
    exact Ev.val Ev.some (by simp [totI, mkSS])
  | cons t r ih =>
    intro a v hl ht h0 hv
    have hlen : (a ++ t :: r).length = a.length + (r.length + 1) := by rw [List.length_append, List.length_cons]
    rw [totI] at hv
    refine Ev.step (fun k => by simp only [laws_markIntSS.l0]; rfl) (Ev.ite_pos (by omega) (Ev.ite_pos (by omega) ?_))
    rw [rdSS_mid]
    refine Ev.bind (markIntS_ev t v (ht t (List.mem_cons_self ..)) h0 (by omega)) ?_
    rw [Int.toNat_natCast, wrap_nat (by omega), List.set_append_right _ _ (Nat.le_refl _), Nat.sub_self, List.set_cons_zero]
    have h := ih (a ++ [mkL oneI 1 v t.length]) (v + (t.length : Nat)) (by rw [List.length_append, List.length_append, List.length_cons, List.length_nil]; omega) (fun x hx => ht x (List.mem_cons_of_mem _ hx)) (by omega) (by omega)
    rw [List.length_append, List.length_cons, List.length_nil, List.append_assoc, List.singleton_append, List.append_assoc, List.singleton_append] at h
    refine Ev.val h ?_
    rw [totI, mkSS]
    congr 1
    omega
theorem markIntSS_ev (T : List (List Int)) (v : Int) (hl : T.length ≤ 1048577) (ht : ∀ t ∈ T, t.length ≤ maxLen) (h0 : 0 ≤ v) (hv : v + (totI T : Nat) ≤ 4611686018427387904) : Ev (fun k => laws_markIntSS.f k T v) (v + (totI T : Nat), mkSS v T) := markIntSS_l T [] v hl ht h0 hv
theorem heldIntSS_l : ∀ (r a : List (List Int)) (v : Int), a.length + r.length ≤ 1048577 → (∀ t ∈ r, t.length ≤ maxLen) → 0 ≤ v → v + (totI r : Nat) ≤ 4611686018427387904 → Ev (fun k => laws_heldIntSS.l0 k (a ++ mkSS v r) v ((a.length : Nat) : Int)) (v + (totI r : Nat)) := by
  have hm : maxLen = 9223372036854775807 := rfl
  intro r
  induction r with
  | nil =>
    intro a v hl ht h0 hv
    refine Ev.step (fun k => by simp only [laws_heldIntSS.l0]; rfl) (Ev.ite_neg (by simp [mkSS]) ?_)
    exact Ev.val Ev.some (by simp [totI])
  | cons t r ih =>
    intro a v hl ht h0 hv
    rw [List.length_cons] at hl
    rw [totI] at hv
    rw [mkSS]
    have hlen : (a ++ mkL oneI 1 v t.length :: mkSS (v + (t.length : Nat)) r).length = a.length + (r.length + 1) := by rw [List.length_append, List.length_cons, mkSS_length]
    refine Ev.step (fun k => by simp only [laws_heldIntSS.l0]; rfl) (Ev.ite_pos (by omega) (Ev.ite_pos (by omega) ?_))
    rw [rdSS_mid]
    refine Ev.bind (heldIntS_ev t.length v (ht t (List.mem_cons_self ..)) h0 (by omega)) (Ev.ite_neg (by omega) ?_)
    rw [wrap_nat (by omega)]
    have h := ih (a ++ [mkL oneI 1 v t.length]) (v + (t.length : Nat)) (by rw [List.length_append, List.length_cons, List.length_nil]; omega) (fun x hx => ht x (List.mem_cons_of_mem _ hx)) (by omega) (by omega)
    rw [List.length_append, List.length_cons, List.length_nil, List.append_assoc, List.singleton_append] at h
    refine Ev.val h ?_
    rw [totI]
    omega
theorem heldIntSS_ev (T : List (List Int)) (v : Int) (hl : T.length ≤ 1048577) (ht : ∀ t ∈ T, t.length ≤ maxLen) (h0 : 0 ≤ v) (hv : v + (totI T : Nat) ≤ 4611686018427387904) : Ev (fun k => laws_heldIntSS.f k (mkSS v T) v) (v + (totI T : Nat)) := heldIntSS_l T [] v (by simpa using hl) ht h0 hv
theorem markWorld_ev (z : Int) (T : List (List Int)) (v : Int) (hl : T.length ≤ 1048577) (ht : ∀ t ∈ T, t.length ≤ maxLen) (h0 : 0 ≤ v) (hv : v + (totI T : Nat) ≤ 4611686018427387904) : Ev (fun k => laws_markWorld.f k z T v) (v + (totI T : Nat), mkSS v T) := markIntSS_ev T v hl ht h0 hv
theorem heldWorld_ev (z : Int) (T : List (List Int)) (v : Int) (hl : T.length ≤ 1048577) (ht : ∀ t ∈ T, t.length ≤ maxLen) (h0 : 0 ≤ v) (hv : v + (totI T : Nat) ≤ 4611686018427387904) : Ev (fun k => laws_heldWorld.f k z (mkSS v T) v) (v + (totI T : Nat)) := by
  unfold laws_heldWorld.f
  exact Ev.bind (heldIntSS_ev T v hl ht h0 hv) (Ev.ite_neg (by omega) Ev.some)
theorem totI_le : ∀ T : List (List Int), T.length + totI T ≤ el_IntSS T := by
  intro T
  unfold el_IntSS
  induction T with
  | nil => simp [totI]
  | cons t r ih =>
    rw [totI, List.map_cons, List.sum_cons, List.length_cons]
    have : t.length ≤ el_IntS t := by unfold el_IntS; omega
    omega
theorem el_rows (m : Nat) : ∀ T : List (List Int), (∀ t ∈ T, t.length ≤ m) → el_IntSS T ≤ (m + 1) * T.length := by
  intro T h
  unfold el_IntSS
  induction T with
  | nil => simp
  | cons t r ih =>
    have h1 := ih (fun x hx => h x (List.mem_cons_of_mem _ hx))
    have h2 := h t (List.mem_cons_self ..)
    have h3 : el_IntS t = t.length := by unfold el_IntS; rw [sum_zero _ _ (fun _ => rfl)]; rfl
    rw [List.map_cons, List.sum_cons, List.length_cons, h3, Nat.mul_succ]
    omega
/-! #### copies of tables -/
theorem rdSS_at (T : List (List Int)) (n : Nat) : rd_Ls_i64 T (n : Int) = T.getD n [] := by
  show T.getD (Int.toNat (n : Int)) [] = _
  rw [Int.toNat_natCast]
theorem specTables_ev (T : List (List Int)) (hl : T.length ≤ 1048576) (ht : ∀ x ∈ T, x.length ≤ 1048576) : Ev (fun k => spec_l24Tables.f k T) T := by
  have hm : maxLen = 9223372036854775807 := rfl
  have key : ∀ d n : Nat, n + d = T.length → ∀ acc : List (List Int), acc.length = n → Ev (fun k => spec_l24Tables.l0 k T acc (n : Int)) (acc ++ T.drop n) := by
    intro d
    induction d with
    | zero =>
      intro n hn acc ha
      refine Ev.step (fun k => by simp only [spec_l24Tables.l0]; rfl) (Ev.ite_neg (by omega) (Ev.val Ev.some ?_))
      rw [List.drop_of_length_le (by omega), List.append_nil]
    | succ d ih =>
      intro n hn acc ha
      have hx := ht _ (getD_mem T [] n (by omega))
      refine Ev.step (fun k => by simp only [spec_l24Tables.l0]; rfl) (Ev.ite_pos (by omega) (Ev.bind Ev.some ?_))
      refine Ev.ite_pos (by omega) ?_
      rw [rdSS_at]
      refine Ev.ite_pos (by rw [List.length_nil]; omega) (Ev.ite_pos (by omega) ?_)
      rw [wrap_nat (by omega)]
      refine Ev.val (ih (n + 1) (by omega) _ (by rw [List.length_append, List.length_singleton]; omega)) ?_
      rw [List.append_assoc, List.singleton_append, List.nil_append, ← getD_drop T [] n (by omega)]
  exact key T.length 0 (by omega) [] rfl
theorem implTables_ev (T : List (List Int)) (hl : T.length ≤ 1048576) (ht : ∀ x ∈ T, x.length ≤ 1048576) : Ev (fun k => impl_copyTables.f k T) T := by
  have hm : maxLen = 9223372036854775807 := rfl
  have key : ∀ d n : Nat, n + d = T.length → ∀ acc : List (List Int), acc.length = n → Ev (fun k => impl_copyTables.l0 k acc T (T.length : Int) (n : Int)) (acc ++ T.drop n) := by
    intro d
    induction d with
    | zero =>
      intro n hn acc ha
      refine Ev.step (fun k => by simp only [impl_copyTables.l0]; rfl) (Ev.ite_neg (by omega) (Ev.val Ev.some ?_))
      rw [List.drop_of_length_le (by omega), List.append_nil]
    | succ d ih =>
      intro n hn acc ha
      have hx := ht _ (getD_mem T [] n (by omega))
      have hc : slices_Clone_int_int.f (rd_Ls_i64 T (n : Int)) = some (T.getD n []) := by
        unfold slices_Clone_int_int.f
        rw [rdSS_at, Option.bind_some, if_pos (by rw [List.length_nil]; omega), List.nil_append]
      refine Ev.step (fun k => by simp only [impl_copyTables.l0]; rfl) (Ev.ite_pos (by omega) (Ev.ite_pos (by omega) (Ev.ite_pos (by omega) (Ev.bind (Ev.cst hc) ?_))))
      refine Ev.ite_pos (by omega) ?_
      rw [wrap_nat (by omega)]
      refine Ev.val (ih (n + 1) (by omega) _ (by rw [List.length_append, List.length_singleton]; omega)) ?_
      rw [List.append_assoc, List.singleton_append, ← getD_drop T [] n (by omega)]
  exact key T.length 0 (by omega) [] rfl
theorem specWorldOf_ev (T : List (List Int)) (hl : T.length ≤ 1048576) (ht : ∀ x ∈ T, x.length ≤ 1048576) : Ev (fun k => spec_WorldOf.f k T) (2, T) := by
  unfold spec_WorldOf.f
  exact Ev.bind (specTables_ev T hl ht) Ev.some
theorem implWorldOf_ev (T : List (List Int)) (hl : T.length ≤ 1048576) (ht : ∀ x ∈ T, x.length ≤ 1048576) : Ev (fun k => impl_WorldOf.f k T) (2, T) := by
  unfold impl_WorldOf.f
  exact Ev.bind (implTables_ev T hl ht) Ev.some
theorem markModel_ev (T : List (List Int)) (v : Int) (hl : T.length ≤ 1048577) (ht : ∀ t ∈ T, t.length ≤ maxLen) (h0 : 0 ≤ v) (hv : v + (totI T : Nat) ≤ 4611686018427387904) : Ev (fun k => laws_markModel.f k T v) (v + (totI T : Nat), mkSS v T) := markIntSS_ev T v hl ht h0 hv
theorem tabs_len1 {T : List (List Int)} {m : Nat} (h : el_IntSS T ≤ m) : ∀ x ∈ T, x.length ≤ m := by
  intro x hx
  have := mem_size el_IntS hx
  have e : x.length ≤ el_IntS x := by unfold el_IntS; omega
  unfold el_IntSS at h
  omega
theorem eqWorldL_ev (z : Int) (T : List (List Int)) (h : el_IntSS T ≤ maxLen) : Ev (fun k => laws_eqWorld.f k z T z T) true := by
  unfold laws_eqWorld.f
  exact Ev.ite_pos rfl (Ev.bind (eqIntSS_ev T h) (Ev.ite_pos rfl Ev.some))
theorem FnExactWorldOf : laws_FnExactWorldOf.Pure := by
  intro m_0 hm_0
  refine Ev.rounds (g := fun k => laws_FnExactWorldOf.f k m_0) ?_
  unfold laws_FnExactWorldOf.f
  have hm : maxLen = 9223372036854775807 := rfl
  have W2 : Wf_L_Model (⟨m_0⟩ : L_Model) := hm_0
  refine law_sz (by omega) (by omega) (szModel_ev (⟨m_0⟩ : L_Model) W2 1048576 (by omega) (by omega)) fun q1 a1 b1 S1 => ?_
  have K1 : el_Model (cv_Model (⟨m_0⟩ : L_Model)) ≤ 1048576 := by have := el_cv_Model (⟨m_0⟩ : L_Model); omega
  obtain ⟨V, hV⟩ : ∃ V, cv_Model (⟨m_0⟩ : L_Model) = V := ⟨_, rfl⟩
  have tV := toModel_ev (⟨m_0⟩ : L_Model) S1
  rw [hV] at tV K1
  have hT : el_IntSS V.f0 ≤ 1048576 := by unfold el_Model at K1; omega
  have hTl := totI_le V.f0
  have hTs := tabs_len1 hT
  have hTx : ∀ x ∈ V.f0, x.length ≤ maxLen := fun x hx => by have := hTs x hx; omega
  have sp := specWorldOf_ev V.f0 (by omega) hTs
  have im := implWorldOf_ev V.f0 (by omega) hTs
  have eG := eqWorldL_ev 2 V.f0 (by omega)
  refine Ev.nxt ?_
  simp only [laws_FnExactWorldOf.j0]
  refine Ev.bind tV (Ev.bind sp (Ev.bind tV (Ev.bind im (Ev.bind eG (Ev.ite_pos rfl ?_)))))
  refine Ev.nxt ?_
  simp only [laws_FnExactWorldOf.j1]
  refine Ev.bind tV (Ev.bind (eqModel_ev V (by omega)) (Ev.ite_pos rfl ?_))
  refine Ev.nxt ?_
  simp only [laws_FnExactWorldOf.j2]
  refine Ev.bind (markModel_ev V.f0 1 (by omega) hTx (by omega) (by omega)) (Ev.ite_neg (by dsimp only; omega) (Ev.bind eG ?_))
  refine Ev.nxt ?_
  simp only [laws_FnExactWorldOf.j3]
  refine Ev.ite_neg (by simp) ?_
  refine Ev.nxt ?_
  simp only [laws_FnExactWorldOf.j4]
  refine Ev.bind (markWorld_ev _ V.f0 1 (by omega) hTx (by omega) (by omega)) (Ev.bind (heldWorld_ev _ V.f0 1 (by omega) hTx (by omega) (by omega)) ?_)
  refine Ev.ite_neg (by omega) ?_
  refine Ev.nxt ?_
  simp only [laws_FnExactWorldOf.j5]
  refine Ev.ite_pos (by first | rfl | trivial) ?_
  refine Ev.nxt ?_
  simp only [laws_FnExactWorldOf.j6]
  refine Ev.bind tV (Ev.bind im (Ev.bind eG (Ev.ite_pos rfl ?_)))
  refine Ev.nxt ?_
  simp only [laws_FnExactWorldOf.j7]
  refine Ev.bind (heldWorld_ev _ V.f0 1 (by omega) hTx (by omega) (by omega)) (Ev.ite_neg (by omega) (Ev.ite_pos rfl Ev.some))
end Go.Proofs.Ytlgoindmpejgcaa.Pure
