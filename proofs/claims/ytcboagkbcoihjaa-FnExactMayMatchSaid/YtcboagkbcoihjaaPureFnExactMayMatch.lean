/- The program's MayMatch returns what the reference's returns, for all arguments. -/
import Derived.Test.YtcboagkbcoihjaaXMayMatchh
namespace Go.Proofs.Ytcboagkbcoihjaa.Pure
open Go.RowKit Go.Proofs.Ytcboagkbcoihjaa.XMayMatch Go.Proofs.Ytcboagkbcoihjaa.XPure Go.Proofs.YtcboagkbcoihjaaW.PrintWords Go.Proofs.YtcboagkbcoihjaaW.PrintLast Go.Proofs.YtcboagkbcoihjaaW.PrintMore
set_option linter.unusedVariables false
set_option linter.unusedSimpArgs false
/-! #### which functions are blind -/
theorem specIn_ev (a b c : Int) : spec_l1In.f a b c = some (decide (b ≤ a) && decide (a ≤ c)) := by
  unfold spec_l1In.f
  by_cases h : a ≥ b
  · rw [if_pos h]; simp [show b ≤ a from h]
  · rw [if_neg h]; simp [show ¬ b ≤ a from h]
theorem implIn_ev (a b c : Int) : impl_from.f a b c = some (decide (b ≤ a) && decide (a ≤ c)) := by
  unfold impl_from.f
  by_cases h : a ≥ b
  · rw [if_pos h]; simp [show b ≤ a from h]
  · rw [if_neg h]; simp [show ¬ b ≤ a from h]
def isSym (l : List I_Sym) (f : Int) : Bool := decide (0 ≤ f) && decide (f ≤ (l.length : Int) - 1)
def blind (l : List I_Sym) (f : Int) : Bool := isSym l f && (rd_I_Sym l f).f2
theorem len_wrap {l : List I_Sym} (hl : l.length ≤ maxLen) : wrap64 ((l.length : Int) - 1) = (l.length : Int) - 1 := by
  have hm : maxLen = 9223372036854775807 := rfl
  exact wrap_id (by omega) (by omega)
theorem specBlind_ev (l : List I_Sym) (hl : l.length ≤ maxLen) (f : Int) : spec_Blind.f l f = some (blind l f) := by
  unfold spec_Blind.f
  rw [len_wrap hl, specIn_ev, Option.bind_some]
  unfold blind isSym
  by_cases h0 : 0 ≤ f <;> by_cases h1 : f ≤ (l.length : Int) - 1 <;> simp [h0, h1]
  omega
theorem implIsSym_ev (l : List I_Sym) (hl : l.length ≤ maxLen) (f : Int) : impl_isSym.f l f = some (isSym l f) := by
  unfold impl_isSym.f
  rw [len_wrap hl, implIn_ev, Option.bind_some]
  rfl
theorem implBlind_ev (l : List I_Sym) (hl : l.length ≤ maxLen) (f : Int) : impl_Blind.f l f = some (blind l f) := by
  unfold impl_Blind.f
  rw [implIsSym_ev l hl, Option.bind_some]
  unfold blind isSym
  by_cases h0 : 0 ≤ f <;> by_cases h1 : f ≤ (l.length : Int) - 1 <;> simp [h0, h1]
  omega
/-! #### fingers -/
def top (f : Int) : Int := if f < 0 then -1 else f
def fgAny (s : List I_Sym) (t : I_Term) : Bool := decide (t.f0 < 0) || blind s t.f0
def fgAt (s : List I_Sym) (t : I_Term) (i : Nat) : Int := if fgAny s t = true then -3 else if i < t.f2.length then top (rd_I_Term t.f2 i).f0 else -2
def finger (s : List I_Sym) (t : I_Term) : List Int := [top t.f0, fgAt s t 0, fgAt s t 1, fgAt s t 2]
theorem specTop_ev (a b : Int) (l : List I_Term) : spec_l27Top.f a b l = some (top a) := by unfold spec_l27Top.f top; split <;> rfl
theorem implTop_ev (a b : Int) (l : List I_Term) : impl_headOf.f a b l = some (top a) := by
  unfold impl_headOf.f top mx
  congr 1
  split <;> split <;> omega
theorem wrap3 {i : Nat} (h : i < 3) : wrap64 ((i : Int) + 1) = ((i + 1 : Nat) : Int) := by
  rw [wrap_id (by omega) (by omega)]
  rfl
theorem specFinger_step (s : List I_Sym) (hs : s.length ≤ maxLen) (t : I_Term) (i : Nat) (hi : i < 3) (out : List Int) (ho : out.length < 17592186044416) (r : List Int)
    (h : Ev (fun k => spec_Finger.l0 k s (out ++ [fgAt s t i]) ((i + 1 : Nat) : Int) t.f0 t.f1 t.f2) r) : Ev (fun k => spec_Finger.l0 k s out (i : Int) t.f0 t.f1 t.f2) r := by
  have j1 : Ev (fun k => spec_Finger.j1 k s out (i : Int) (fgAny s t) t.f0 t.f1 t.f2) r := by
    refine Ev.step (fun k => by simp only [spec_Finger.j1]; rfl) ?_
    by_cases ha : fgAny s t = true
    · refine Ev.ite_pos ha (Ev.ite_pos ho ?_)
      rw [wrap3 hi]
      rw [show fgAt s t i = -3 from by unfold fgAt; rw [if_pos ha]] at h
      exact h
    · refine Ev.ite_neg ha ?_
      by_cases hk : i < t.f2.length
      · refine Ev.ite_pos (by omega) (Ev.ite_pos (by omega) ?_)
        rw [show fgAt s t i = top (rd_I_Term t.f2 i).f0 from by unfold fgAt; rw [if_neg ha, if_pos hk]] at h
        refine Ev.bind (Ev.cst (specTop_ev _ _ _)) (Ev.ite_pos ho ?_)
        rw [wrap3 hi]
        exact h
      · refine Ev.ite_neg (by omega) (Ev.ite_pos ho ?_)
        rw [wrap3 hi]
        rw [show fgAt s t i = -2 from by unfold fgAt; rw [if_neg ha, if_neg hk]] at h
        exact h
  refine Ev.step (fun k => by simp only [spec_Finger.l0]; rfl) (Ev.ite_pos (by omega) ?_)
  by_cases hf : t.f0 < 0
  · refine Ev.ite_pos hf ?_
    rw [show fgAny s t = true from by simp [fgAny, hf]] at j1
    exact j1
  · refine Ev.ite_neg hf (Ev.bind (Ev.cst (specBlind_ev s hs _)) ?_)
    rw [show fgAny s t = blind s t.f0 from by simp [fgAny, hf]] at j1
    exact j1
theorem specFinger_ev (s : List I_Sym) (hs : s.length ≤ maxLen) (t : I_Term) : Ev (fun k => spec_Finger.f k s t.f0 t.f1 t.f2) (finger s t) := by
  unfold spec_Finger.f
  refine Ev.bind (Ev.cst (specTop_ev _ _ _)) ?_
  refine specFinger_step s hs t 0 (by omega) _ (by simp) _ (specFinger_step s hs t 1 (by omega) _ (by simp) _ (specFinger_step s hs t 2 (by omega) _ (by simp) _ ?_))
  exact Ev.step (fun k => by simp only [spec_Finger.l0]; rfl) (Ev.ite_neg (by omega) Ev.some)
theorem implFinger_step (s : List I_Sym) (hs : s.length ≤ maxLen) (t : I_Term) (i : Nat) (hi : i < 3) (out : List Int) (ho : out.length < 17592186044416) (r : List Int)
    (h : Ev (fun k => impl_Finger.l0 k s (out ++ [fgAt s t i]) ((i + 1 : Nat) : Int) t.f0 t.f1 t.f2) r) : Ev (fun k => impl_Finger.l0 k s out (i : Int) t.f0 t.f1 t.f2) r := by
  have j1 : Ev (fun k => impl_Finger.j1 k s out (i : Int) (i : Int) (fgAny s t) t.f0 t.f1 t.f2) r := by
    refine Ev.step (fun k => by simp only [impl_Finger.j1]; rfl) ?_
    by_cases ha : fgAny s t = true
    · refine Ev.ite_pos ha (Ev.ite_pos ho ?_)
      rw [wrap3 hi]
      rw [show fgAt s t i = -3 from by unfold fgAt; rw [if_pos ha]] at h
      exact h
    · refine Ev.ite_neg ha ?_
      by_cases hk : i < t.f2.length
      · refine Ev.ite_pos (by omega) (Ev.ite_pos (by omega) ?_)
        rw [show fgAt s t i = top (rd_I_Term t.f2 i).f0 from by unfold fgAt; rw [if_neg ha, if_pos hk]] at h
        refine Ev.bind (Ev.cst (implTop_ev _ _ _)) (Ev.ite_pos ho ?_)
        rw [wrap3 hi]
        exact h
      · refine Ev.ite_neg (by omega) (Ev.ite_pos ho ?_)
        rw [wrap3 hi]
        rw [show fgAt s t i = -2 from by unfold fgAt; rw [if_neg ha, if_neg hk]] at h
        exact h
  refine Ev.step (fun k => by simp only [impl_Finger.l0]; rfl) (Ev.ite_pos (by omega) ?_)
  by_cases hf : t.f0 < 0
  · refine Ev.ite_pos hf ?_
    rw [show fgAny s t = true from by simp [fgAny, hf]] at j1
    exact j1
  · refine Ev.ite_neg hf (Ev.bind (Ev.cst (implBlind_ev s hs _)) ?_)
    rw [show fgAny s t = blind s t.f0 from by simp [fgAny, hf]] at j1
    exact j1
theorem implFinger_ev (s : List I_Sym) (hs : s.length ≤ maxLen) (t : I_Term) : Ev (fun k => impl_Finger.f k s t.f0 t.f1 t.f2) (finger s t) := by
  unfold impl_Finger.f
  refine Ev.bind (Ev.cst (implTop_ev _ _ _)) ?_
  refine implFinger_step s hs t 0 (by omega) _ (by simp) _ (implFinger_step s hs t 1 (by omega) _ (by simp) _ (implFinger_step s hs t 2 (by omega) _ (by simp) _ ?_))
  exact Ev.step (fun k => by simp only [impl_Finger.l0]; rfl) (Ev.ite_neg (by omega) Ev.some)
theorem finger_len (s : List I_Sym) (t : I_Term) : (finger s t).length = 4 := rfl
def openAt (n : Int) : Bool := decide (n = -1) || n == -3
theorem specAny_ev (n : Int) : spec_l27Any.f n = some (openAt n) := by
  unfold spec_l27Any.f openAt
  by_cases h : n = -1 <;> simp [h]
theorem implOpen_ev (n : Int) : impl_open.f n = some (openAt n) := by
  unfold impl_open.f openAt
  by_cases h : n = -1 <;> simp [h]
def mm (a b : List Int) : Nat → Nat → Bool
  | 0, _ => true
  | d + 1, n => if openAt (rd a (n : Int)) = true then mm a b d (n + 1) else if rd a (n : Int) = rd b (n : Int) then mm a b d (n + 1) else false
theorem wrap4 {i : Nat} (h : i < 4) : wrap64 ((i : Int) + 1) = ((i + 1 : Nat) : Int) := by
  rw [wrap_id (by omega) (by omega)]
  rfl
theorem specMM_ev (a b : List Int) (ha : a.length = 4) (hb : b.length = 4) : ∀ d n : Nat, n + d = 4 → Ev (fun k => spec_MayMatch.l0 k a b (n : Int)) (mm a b d n) := by
  intro d
  induction d with
  | zero =>
    intro n hn
    exact Ev.step (fun k => by simp only [spec_MayMatch.l0]; rfl) (Ev.ite_neg (by omega) Ev.some)
  | succ d ih =>
    intro n hn
    refine Ev.step (fun k => by simp only [spec_MayMatch.l0]; rfl) (Ev.ite_pos (by omega) (Ev.ite_pos (by omega) (Ev.ite_pos (by omega) (Ev.bind (Ev.cst (specAny_ev _)) ?_))))
    rw [wrap4 (by omega), mm]
    by_cases h : openAt (rd a (n : Int)) = true
    · rw [if_pos h]
      exact Ev.ite_pos h (ih _ (by omega))
    · rw [if_neg h]
      refine Ev.ite_neg h (Ev.ite_pos (by omega) ?_)
      by_cases h2 : rd a (n : Int) = rd b (n : Int)
      · rw [if_pos h2]
        exact Ev.ite_pos h2 (ih _ (by omega))
      · rw [if_neg h2]
        exact Ev.ite_neg h2 Ev.some
theorem implMM_ev (a b : List Int) (ha : a.length = 4) (hb : b.length = 4) : ∀ d n : Nat, n + d = 4 → Ev (fun k => impl_MayMatch.l0 k a b (a.length : Int) (n : Int)) (mm a b d n) := by
  intro d
  induction d with
  | zero =>
    intro n hn
    exact Ev.step (fun k => by simp only [impl_MayMatch.l0]; rfl) (Ev.ite_neg (by omega) Ev.some)
  | succ d ih =>
    intro n hn
    refine Ev.step (fun k => by simp only [impl_MayMatch.l0]; rfl) (Ev.ite_pos (by omega) (Ev.ite_pos (by omega) (Ev.ite_pos (by omega) (Ev.bind (Ev.cst (implOpen_ev _)) ?_))))
    rw [wrap4 (by omega), mm]
    by_cases h : openAt (rd a (n : Int)) = true
    · rw [if_pos h]
      exact Ev.ite_pos h (ih _ (by omega))
    · rw [if_neg h]
      refine Ev.ite_neg h (Ev.ite_pos (by omega) ?_)
      by_cases h2 : rd a (n : Int) = rd b (n : Int)
      · rw [if_pos h2]
        exact Ev.ite_pos h2 (ih _ (by omega))
      · rw [if_neg h2]
        exact Ev.ite_neg h2 Ev.some
theorem specMayMatch_ev (s : List I_Sym) (hs : s.length ≤ maxLen) (p t : I_Term) : Ev (fun k => spec_MayMatch.f k s p.f0 p.f1 p.f2 t.f0 t.f1 t.f2) (mm (finger s p) (finger s t) 4 0) := by
  unfold spec_MayMatch.f
  exact Ev.bind (specFinger_ev s hs p) (Ev.bind (specFinger_ev s hs t) (specMM_ev _ _ (finger_len s p) (finger_len s t) 4 0 rfl))
theorem implMayMatch_ev (s : List I_Sym) (hs : s.length ≤ maxLen) (p t : I_Term) : Ev (fun k => impl_MayMatch.f k s p.f0 p.f1 p.f2 t.f0 t.f1 t.f2) (mm (finger s p) (finger s t) 4 0) := by
  unfold impl_MayMatch.f
  exact Ev.bind (implFinger_ev s hs p) (Ev.bind (implFinger_ev s hs t) (implMM_ev _ _ (finger_len s p) (finger_len s t) 4 0 rfl))
theorem FnExactMayMatch : laws_FnExactMayMatch.Pure := by
  intro l0 p0 p1 pk t0 t1 tk hw0 hp0 hp1 hpk ht0 ht1 htk
  refine Ev.rounds (g := fun k => laws_FnExactMayMatch.f k l0 p0 p1 pk t0 t1 tk) ?_
  unfold laws_FnExactMayMatch.f
  have hwp : Wf_L_Term ⟨p0, p1, pk⟩ := Wf_L_Term.mk _ hp0 hp1 hpk.1 hpk.2
  have hwt : Wf_L_Term ⟨t0, t1, tk⟩ := Wf_L_Term.mk _ ht0 ht1 htk.1 htk.2
  have hm : maxLen = 9223372036854775807 := rfl
  refine law_sz (by omega) (by omega) (szSymS_ev l0 hw0 1048576 (by omega) (by omega)) fun q q0 q1 hs0 => Ev.step (fun k => by simp only [laws_FnExactMayMatch.j0]; rfl) ?_
  refine law_sz q0 q1 (szTerm_ev ⟨p0, p1, pk⟩ hwp q q0 q1) fun q2 r0 r1 hsp => Ev.step (fun k => by simp only [laws_FnExactMayMatch.j1]; rfl) ?_
  refine law_sz r0 r1 (szTerm_ev ⟨t0, t1, tk⟩ hwt q2 r0 r1) fun q3 s0 s1 hst => Ev.step (fun k => by simp only [laws_FnExactMayMatch.j2]; rfl) ?_
  have he0 := el_cv_SymS l0
  have hep := el_cv_Term ⟨p0, p1, pk⟩
  have het := el_cv_Term ⟨t0, t1, tk⟩
  have hl0 : (cv_SymS l0).length ≤ maxLen := by unfold el_SymS at he0; omega
  refine Ev.bind (toSymS_ev l0 hs0) (Ev.bind (toTerm_ev ⟨p0, p1, pk⟩ hsp) (Ev.bind (toTerm_ev ⟨t0, t1, tk⟩ hst) (Ev.bind (specMayMatch_ev _ hl0 (cv_Term ⟨p0, p1, pk⟩) (cv_Term ⟨t0, t1, tk⟩)) ?_)))
  refine Ev.bind (toSymS_ev l0 hs0) (Ev.bind (toTerm_ev ⟨p0, p1, pk⟩ hsp) (Ev.bind (toTerm_ev ⟨t0, t1, tk⟩ hst) (Ev.bind (implMayMatch_ev _ hl0 (cv_Term ⟨p0, p1, pk⟩) (cv_Term ⟨t0, t1, tk⟩)) (Ev.ite_neg (by simp) ?_))))
  refine Ev.step (fun k => by simp only [laws_FnExactMayMatch.j3]; rfl) (Ev.bind (toSymS_ev l0 hs0) (Ev.bind (eqSymS_ev (cv_SymS l0) (by omega)) (Ev.ite_pos rfl ?_)))
  refine Ev.step (fun k => by simp only [laws_FnExactMayMatch.j4]; rfl) (Ev.bind (toTerm_ev ⟨p0, p1, pk⟩ hsp) (Ev.bind (eqTerm_ev (cv_Term ⟨p0, p1, pk⟩) (by omega)) (Ev.ite_pos rfl ?_)))
  exact Ev.step (fun k => by simp only [laws_FnExactMayMatch.j5]; rfl) (Ev.bind (toTerm_ev ⟨t0, t1, tk⟩ hst) (Ev.bind (eqTerm_ev (cv_Term ⟨t0, t1, tk⟩) (by omega)) (Ev.ite_pos rfl Ev.some)))
end Go.Proofs.Ytcboagkbcoihjaa.Pure
