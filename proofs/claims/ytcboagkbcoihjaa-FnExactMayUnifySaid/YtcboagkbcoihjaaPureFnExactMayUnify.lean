/- The program's MayUnify returns what the reference's returns, for all arguments. -/
import Derived.Test.YtcboagkbcoihjaaXMayUnifyh
namespace Go.Proofs.Ytcboagkbcoihjaa.Pure
open Go.RowKit Go.Proofs.Ytcboagkbcoihjaa.XMayUnify Go.Proofs.Ytcboagkbcoihjaa.XPure Go.Proofs.YtcboagkbcoihjaaW.PrintWords Go.Proofs.YtcboagkbcoihjaaW.PrintLast Go.Proofs.YtcboagkbcoihjaaW.PrintMore
set_option linter.unusedVariables false
set_option linter.unusedSimpArgs false
/-! #### which functions are blind -/
theorem specIn_ev (a b c : Int) : spec_l1In.f a b c = some (decide (b ≤ a) && decide (a ≤ c)) := by
  unfold spec_l1In.f
  by_cases h : a ≥ b
  · rw [if_pos h]; simp [show b ≤ a from h]
  · rw [if_neg h]; simp [show ¬ b ≤ a from h]
theorem implIn_ev (a b c : Int) : impl_from.f a b c = some (decide (b ≤ a) && decide (a ≤ c)) := by
  unfold impl_from.f
  by_cases h : a ≥ b
  · rw [if_pos h]; simp [show b ≤ a from h]
  · rw [if_neg h]; simp [show ¬ b ≤ a from h]
def isSym (l : List I_Sym) (f : Int) : Bool := decide (0 ≤ f) && decide (f ≤ (l.length : Int) - 1)
def blind (l : List I_Sym) (f : Int) : Bool := isSym l f && (rd_I_Sym l f).f2
theorem len_wrap {l : List I_Sym} (hl : l.length ≤ maxLen) : wrap64 ((l.length : Int) - 1) = (l.length : Int) - 1 := by
  have hm : maxLen = 9223372036854775807 := rfl
  exact wrap_id (by omega) (by omega)
theorem specBlind_ev (l : List I_Sym) (hl : l.length ≤ maxLen) (f : Int) : spec_Blind.f l f = some (blind l f) := by
  unfold spec_Blind.f
  rw [len_wrap hl, specIn_ev, Option.bind_some]
  unfold blind isSym
  by_cases h0 : 0 ≤ f <;> by_cases h1 : f ≤ (l.length : Int) - 1 <;> simp [h0, h1]
  omega
theorem implIsSym_ev (l : List I_Sym) (hl : l.length ≤ maxLen) (f : Int) : impl_isSym.f l f = some (isSym l f) := by
  unfold impl_isSym.f
  rw [len_wrap hl, implIn_ev, Option.bind_some]
  rfl
theorem implBlind_ev (l : List I_Sym) (hl : l.length ≤ maxLen) (f : Int) : impl_Blind.f l f = some (blind l f) := by
  unfold impl_Blind.f
  rw [implIsSym_ev l hl, Option.bind_some]
  unfold blind isSym
  by_cases h0 : 0 ≤ f <;> by_cases h1 : f ≤ (l.length : Int) - 1 <;> simp [h0, h1]
  omega
theorem elSymS_len {l : List I_Sym} (h : el_SymS l ≤ maxLen) : l.length ≤ maxLen := by unfold el_SymS at h; omega
/-! #### fingers -/
def top (f : Int) : Int := if f < 0 then -1 else f
def fgAny (s : List I_Sym) (t : I_Term) : Bool := decide (t.f0 < 0) || blind s t.f0
def fgAt (s : List I_Sym) (t : I_Term) (i : Nat) : Int := if fgAny s t = true then -3 else if i < t.f2.length then top (rd_I_Term t.f2 i).f0 else -2
def finger (s : List I_Sym) (t : I_Term) : List Int := [top t.f0, fgAt s t 0, fgAt s t 1, fgAt s t 2]
theorem specTop_ev (a b : Int) (l : List I_Term) : spec_l27Top.f a b l = some (top a) := by unfold spec_l27Top.f top; split <;> rfl
theorem implTop_ev (a b : Int) (l : List I_Term) : impl_headOf.f a b l = some (top a) := by
  unfold impl_headOf.f top mx
  congr 1
  split <;> split <;> omega
theorem wrap3 {i : Nat} (h : i < 3) : wrap64 ((i : Int) + 1) = ((i + 1 : Nat) : Int) := by
  rw [wrap_id (by omega) (by omega)]
  rfl
theorem specFinger_step (s : List I_Sym) (hs : s.length ≤ maxLen) (t : I_Term) (i : Nat) (hi : i < 3) (out : List Int) (ho : out.length < 17592186044416) (r : List Int)
    (h : Ev (fun k => spec_Finger.l0 k s (out ++ [fgAt s t i]) ((i + 1 : Nat) : Int) t.f0 t.f1 t.f2) r) : Ev (fun k => spec_Finger.l0 k s out (i : Int) t.f0 t.f1 t.f2) r := by
  have j1 : Ev (fun k => spec_Finger.j1 k s out (i : Int) (fgAny s t) t.f0 t.f1 t.f2) r := by
    refine Ev.step (fun k => by simp only [spec_Finger.j1]; rfl) ?_
    by_cases ha : fgAny s t = true
    · refine Ev.ite_pos ha (Ev.ite_pos ho ?_)
      rw [wrap3 hi]
      rw [show fgAt s t i = -3 from by unfold fgAt; rw [if_pos ha]] at h
      exact h
    · refine Ev.ite_neg ha ?_
      by_cases hk : i < t.f2.length
      · refine Ev.ite_pos (by omega) (Ev.ite_pos (by omega) ?_)
        rw [show fgAt s t i = top (rd_I_Term t.f2 i).f0 from by unfold fgAt; rw [if_neg ha, if_pos hk]] at h
        refine Ev.bind (Ev.cst (specTop_ev _ _ _)) (Ev.ite_pos ho ?_)
        rw [wrap3 hi]
        exact h
      · refine Ev.ite_neg (by omega) (Ev.ite_pos ho ?_)
        rw [wrap3 hi]
        rw [show fgAt s t i = -2 from by unfold fgAt; rw [if_neg ha, if_neg hk]] at h
        exact h
  refine Ev.step (fun k => by simp only [spec_Finger.l0]; rfl) (Ev.ite_pos (by omega) ?_)
  by_cases hf : t.f0 < 0
  · refine Ev.ite_pos hf ?_
    rw [show fgAny s t = true from by simp [fgAny, hf]] at j1
    exact j1
  · refine Ev.ite_neg hf (Ev.bind (Ev.cst (specBlind_ev s hs _)) ?_)
    rw [show fgAny s t = blind s t.f0 from by simp [fgAny, hf]] at j1
    exact j1
theorem specFinger_ev (s : List I_Sym) (hs : s.length ≤ maxLen) (t : I_Term) : Ev (fun k => spec_Finger.f k s t.f0 t.f1 t.f2) (finger s t) := by
  unfold spec_Finger.f
  refine Ev.bind (Ev.cst (specTop_ev _ _ _)) ?_
  refine specFinger_step s hs t 0 (by omega) _ (by simp) _ (specFinger_step s hs t 1 (by omega) _ (by simp) _ (specFinger_step s hs t 2 (by omega) _ (by simp) _ ?_))
  exact Ev.step (fun k => by simp only [spec_Finger.l0]; rfl) (Ev.ite_neg (by omega) Ev.some)
theorem implFinger_step (s : List I_Sym) (hs : s.length ≤ maxLen) (t : I_Term) (i : Nat) (hi : i < 3) (out : List Int) (ho : out.length < 17592186044416) (r : List Int)
    (h : Ev (fun k => impl_Finger.l0 k s (out ++ [fgAt s t i]) ((i + 1 : Nat) : Int) t.f0 t.f1 t.f2) r) : Ev (fun k => impl_Finger.l0 k s out (i : Int) t.f0 t.f1 t.f2) r := by
  have j1 : Ev (fun k => impl_Finger.j1 k s out (i : Int) (i : Int) (fgAny s t) t.f0 t.f1 t.f2) r := by
    refine Ev.step (fun k => by simp only [impl_Finger.j1]; rfl) ?_
    by_cases ha : fgAny s t = true
    · refine Ev.ite_pos ha (Ev.ite_pos ho ?_)
      rw [wrap3 hi]
      rw [show fgAt s t i = -3 from by unfold fgAt; rw [if_pos ha]] at h
      exact h
    · refine Ev.ite_neg ha ?_
      by_cases hk : i < t.f2.length
      · refine Ev.ite_pos (by omega) (Ev.ite_pos (by omega) ?_)
        rw [show fgAt s t i = top (rd_I_Term t.f2 i).f0 from by unfold fgAt; rw [if_neg ha, if_pos hk]] at h
        refine Ev.bind (Ev.cst (implTop_ev _ _ _)) (Ev.ite_pos ho ?_)
        rw [wrap3 hi]
        exact h
      · refine Ev.ite_neg (by omega) (Ev.ite_pos ho ?_)
        rw [wrap3 hi]
        rw [show fgAt s t i = -2 from by unfold fgAt; rw [if_neg ha, if_neg hk]] at h
        exact h
  refine Ev.step (fun k => by simp only [impl_Finger.l0]; rfl) (Ev.ite_pos (by omega) ?_)
  by_cases hf : t.f0 < 0
  · refine Ev.ite_pos hf ?_
    rw [show fgAny s t = true from by simp [fgAny, hf]] at j1
    exact j1
  · refine Ev.ite_neg hf (Ev.bind (Ev.cst (implBlind_ev s hs _)) ?_)
    rw [show fgAny s t = blind s t.f0 from by simp [fgAny, hf]] at j1
    exact j1
theorem implFinger_ev (s : List I_Sym) (hs : s.length ≤ maxLen) (t : I_Term) : Ev (fun k => impl_Finger.f k s t.f0 t.f1 t.f2) (finger s t) := by
  unfold impl_Finger.f
  refine Ev.bind (Ev.cst (implTop_ev _ _ _)) ?_
  refine implFinger_step s hs t 0 (by omega) _ (by simp) _ (implFinger_step s hs t 1 (by omega) _ (by simp) _ (implFinger_step s hs t 2 (by omega) _ (by simp) _ ?_))
  exact Ev.step (fun k => by simp only [impl_Finger.l0]; rfl) (Ev.ite_neg (by omega) Ev.some)
theorem finger_len (s : List I_Sym) (t : I_Term) : (finger s t).length = 4 := rfl
def openAt (n : Int) : Bool := decide (n = -1) || n == -3
theorem specAny_ev (n : Int) : spec_l27Any.f n = some (openAt n) := by
  unfold spec_l27Any.f openAt
  by_cases h : n = -1 <;> simp [h]
theorem implOpen_ev (n : Int) : impl_open.f n = some (openAt n) := by
  unfold impl_open.f openAt
  by_cases h : n = -1 <;> simp [h]
theorem wrap4 {i : Nat} (h : i < 4) : wrap64 ((i : Int) + 1) = ((i + 1 : Nat) : Int) := by
  rw [wrap_id (by omega) (by omega)]
  rfl
def mu (a b : List Int) : Nat → Nat → Bool
  | 0, _ => true
  | d + 1, n => if openAt (rd a (n : Int)) = true then mu a b d (n + 1) else if openAt (rd b (n : Int)) = true then mu a b d (n + 1) else if rd a (n : Int) = rd b (n : Int) then mu a b d (n + 1) else false
theorem specMU_ev (a b : List Int) (ha : a.length = 4) (hb : b.length = 4) : ∀ d n : Nat, n + d = 4 → Ev (fun k => spec_MayUnify.l0 k a b (n : Int)) (mu a b d n) := by
  intro d
  induction d with
  | zero =>
    intro n hn
    exact Ev.step (fun k => by simp only [spec_MayUnify.l0]; rfl) (Ev.ite_neg (by omega) Ev.some)
  | succ d ih =>
    intro n hn
    refine Ev.step (fun k => by simp only [spec_MayUnify.l0]; rfl) (Ev.ite_pos (by omega) (Ev.ite_pos (by omega) (Ev.ite_pos (by omega) (Ev.bind (Ev.cst (specAny_ev _)) ?_))))
    rw [wrap4 (by omega), mu]
    by_cases h : openAt (rd a (n : Int)) = true
    · rw [if_pos h]
      exact Ev.ite_pos h (ih _ (by omega))
    · rw [if_neg h]
      refine Ev.ite_neg h (Ev.ite_pos (by omega) (Ev.bind (Ev.cst (specAny_ev _)) ?_))
      by_cases h1 : openAt (rd b (n : Int)) = true
      · rw [if_pos h1]
        exact Ev.ite_pos h1 (ih _ (by omega))
      · rw [if_neg h1]
        refine Ev.ite_neg h1 ?_
        by_cases h2 : rd a (n : Int) = rd b (n : Int)
        · rw [if_pos h2]
          exact Ev.ite_pos h2 (ih _ (by omega))
        · rw [if_neg h2]
          exact Ev.ite_neg h2 Ev.some
theorem specMayUnify_ev (s : List I_Sym) (hs : s.length ≤ maxLen) (p t : I_Term) : Ev (fun k => spec_MayUnify.f k s p.f0 p.f1 p.f2 t.f0 t.f1 t.f2) (mu (finger s p) (finger s t) 4 0) := by
  unfold spec_MayUnify.f
  exact Ev.bind (specFinger_ev s hs p) (Ev.bind (specFinger_ev s hs t) (specMU_ev _ _ (finger_len s p) (finger_len s t) 4 0 rfl))
theorem implMU_ev (a b : List Int) (ha : a.length = 4) (hb : b.length = 4) : ∀ d n : Nat, n + d = 4 → Ev (fun k => impl_MayUnify.l0 k a b (a.length : Int) (n : Int)) (mu a b d n) := by
  intro d
  induction d with
  | zero =>
    intro n hn
    exact Ev.step (fun k => by simp only [impl_MayUnify.l0]; rfl) (Ev.ite_neg (by omega) Ev.some)
  | succ d ih =>
    intro n hn
    refine Ev.step (fun k => by simp only [impl_MayUnify.l0]; rfl) (Ev.ite_pos (by omega) (Ev.ite_pos (by omega) (Ev.ite_pos (by omega) (Ev.bind (Ev.cst (implOpen_ev _)) ?_))))
    rw [wrap4 (by omega), mu]
    by_cases h : openAt (rd a (n : Int)) = true
    · rw [if_pos h]
      exact Ev.ite_pos h (ih _ (by omega))
    · rw [if_neg h]
      refine Ev.ite_neg h (Ev.ite_pos (by omega) (Ev.bind (Ev.cst (implOpen_ev _)) ?_))
      by_cases h1 : openAt (rd b (n : Int)) = true
      · rw [if_pos h1]
        exact Ev.ite_pos h1 (ih _ (by omega))
      · rw [if_neg h1]
        refine Ev.ite_neg h1 ?_
        by_cases h2 : rd a (n : Int) = rd b (n : Int)
        · rw [if_pos h2]
          exact Ev.ite_pos h2 (ih _ (by omega))
        · rw [if_neg h2]
          exact Ev.ite_neg h2 Ev.some
theorem implMayUnify_ev (s : List I_Sym) (hs : s.length ≤ maxLen) (p t : I_Term) : Ev (fun k => impl_MayUnify.f k s p.f0 p.f1 p.f2 t.f0 t.f1 t.f2) (mu (finger s p) (finger s t) 4 0) := by
  unfold impl_MayUnify.f
  exact Ev.bind (implFinger_ev s hs p) (Ev.bind (implFinger_ev s hs t) (implMU_ev _ _ (finger_len s p) (finger_len s t) 4 0 rfl))
theorem FnExactMayUnify : laws_FnExactMayUnify.Pure := by
  intro l p_0 p_1 p_2 t_0 t_1 t_2 hl hp_0 hp_1 hp_2 ht_0 ht_1 ht_2
  refine Ev.rounds (g := fun k => laws_FnExactMayUnify.f k l p_0 p_1 p_2 t_0 t_1 t_2) ?_
  unfold laws_FnExactMayUnify.f
  have hm : maxLen = 9223372036854775807 := rfl
  have W2 : Wf_L_Term (⟨p_0, p_1, p_2⟩ : L_Term) := (Wf_L_Term.mk _ hp_0 hp_1 hp_2.1 hp_2.2)
  have W3 : Wf_L_Term (⟨t_0, t_1, t_2⟩ : L_Term) := (Wf_L_Term.mk _ ht_0 ht_1 ht_2.1 ht_2.2)
  refine law_sz (by omega) (by omega) (szSymS_ev l hl 1048576 (by omega) (by omega)) fun q1 a1 b1 S1 => ?_
  refine Ev.nxt ?_
  simp only [laws_FnExactMayUnify.j0]
  refine law_sz a1 b1 (szTerm_ev (⟨p_0, p_1, p_2⟩ : L_Term) W2 q1 a1 b1) fun q2 a2 b2 S2 => ?_
  refine Ev.nxt ?_
  simp only [laws_FnExactMayUnify.j1]
  refine law_sz a2 b2 (szTerm_ev (⟨t_0, t_1, t_2⟩ : L_Term) W3 q2 a2 b2) fun q3 a3 b3 S3 => ?_
  have E1 : el_SymS (cv_SymS l) ≤ maxLen := by have := el_cv_SymS l; omega
  have E2 : el_Term (cv_Term (⟨p_0, p_1, p_2⟩ : L_Term)) ≤ maxLen := by have := el_cv_Term (⟨p_0, p_1, p_2⟩ : L_Term); omega
  have E3 : el_Term (cv_Term (⟨t_0, t_1, t_2⟩ : L_Term)) ≤ maxLen := by have := el_cv_Term (⟨t_0, t_1, t_2⟩ : L_Term); omega
  refine Ev.nxt ?_
  simp only [laws_FnExactMayUnify.j2]
  refine Ev.bind (toSymS_ev l S1) ?_
  refine Ev.bind (toTerm_ev (⟨p_0, p_1, p_2⟩ : L_Term) S2) ?_
  refine Ev.bind (toTerm_ev (⟨t_0, t_1, t_2⟩ : L_Term) S3) ?_
  refine Ev.bind (specMayUnify_ev _ (elSymS_len E1) (cv_Term (⟨p_0, p_1, p_2⟩ : L_Term)) (cv_Term (⟨t_0, t_1, t_2⟩ : L_Term))) ?_
  refine Ev.bind (toSymS_ev l S1) ?_
  refine Ev.bind (toTerm_ev (⟨p_0, p_1, p_2⟩ : L_Term) S2) ?_
  refine Ev.bind (toTerm_ev (⟨t_0, t_1, t_2⟩ : L_Term) S3) ?_
  refine Ev.bind (implMayUnify_ev _ (elSymS_len E1) (cv_Term (⟨p_0, p_1, p_2⟩ : L_Term)) (cv_Term (⟨t_0, t_1, t_2⟩ : L_Term))) ?_
  refine Ev.ite_neg (by simp) ?_
  refine Ev.nxt ?_
  simp only [laws_FnExactMayUnify.j3]
  refine Ev.bind (toSymS_ev l S1) ?_
  refine Ev.bind (eqSymS_ev (cv_SymS l) E1) (Ev.ite_pos rfl ?_)
  refine Ev.nxt ?_
  simp only [laws_FnExactMayUnify.j4]
  refine Ev.bind (toTerm_ev (⟨p_0, p_1, p_2⟩ : L_Term) S2) ?_
  refine Ev.bind (eqTerm_ev (cv_Term (⟨p_0, p_1, p_2⟩ : L_Term)) E2) (Ev.ite_pos rfl ?_)
  refine Ev.nxt ?_
  simp only [laws_FnExactMayUnify.j5]
  refine Ev.bind (toTerm_ev (⟨t_0, t_1, t_2⟩ : L_Term) S3) ?_
  refine Ev.bind (eqTerm_ev (cv_Term (⟨t_0, t_1, t_2⟩ : L_Term)) E3) (Ev.ite_pos rfl ?_)
  exact Ev.some
end Go.Proofs.Ytcboagkbcoihjaa.Pure
