/- The program's Value returns what the reference's returns, for all arguments. -/
import Derived.Test.YtcboagkbcoihjaaXValueh
namespace Go.Proofs.Ytcboagkbcoihjaa.Pure
open Go.RowKit Go.Proofs.Ytcboagkbcoihjaa.XValue Go.Proofs.Ytcboagkbcoihjaa.XPure Go.Proofs.YtcboagkbcoihjaaW.PrintWords Go.Proofs.YtcboagkbcoihjaaW.PrintLast Go.Proofs.YtcboagkbcoihjaaW.PrintMore
set_option linter.unusedVariables false
set_option linter.unusedSimpArgs false
/-! #### signatures: names, which function has a name, what is right (under way: not built yet) -/
def small (c : Int) : Bool := decide (97 ≤ c) && decide (c ≤ 122)
def digit (c : Int) : Bool := decide (48 ≤ c) && decide (c ≤ 57)
def inR (a b c : Int) : Bool := decide (b ≤ a) && decide (a ≤ c)
theorem specInR (a b c : Int) : spec_l1In.f a b c = some (inR a b c) := by
  unfold spec_l1In.f inR
  by_cases h : a ≥ b
  · rw [if_pos h]; simp [show b ≤ a from h]
  · rw [if_neg h]; simp [show ¬ b ≤ a from h]
theorem implInR (a b c : Int) : impl_from.f a b c = some (inR a b c) := by
  unfold impl_from.f inR
  by_cases h : a ≥ b
  · rw [if_pos h]; simp [show b ≤ a from h]
  · rw [if_neg h]; simp [show ¬ b ≤ a from h]
theorem implSmall (a : Int) : impl_isSmall.f a = some (small a) := by
  unfold impl_isSmall.f small
  by_cases h : a ≥ 97
  · rw [if_pos h]; simp [show 97 ≤ a from h]
  · rw [if_neg h]; simp [show ¬ 97 ≤ a from h]
theorem implDigit (a : Int) : impl_isDigit.f a = some (digit a) := by
  unfold impl_isDigit.f digit
  by_cases h : a ≥ 48
  · rw [if_pos h]; simp [show 48 ≤ a from h]
  · rw [if_neg h]; simp [show ¬ 48 ≤ a from h]
/-- from place n on (d places): each a small letter, or a digit that is not the first -/
def nmS (s : ByteArray) : Nat → Nat → Bool
  | 0, _ => inR (s.size : Int) 1 8
  | d + 1, n => if small (bt s (n : Int)) = true ∨ (0 < n ∧ digit (bt s (n : Int)) = true) then nmS s d (n + 1) else false
theorem specName_l (s : ByteArray) (hs : s.size ≤ maxLen) : ∀ d n : Nat, n + d = s.size → Ev (fun k => spec_NameOk.l0 k s (n : Int)) (nmS s d n) := by
  intro d
  induction d with
  | zero =>
    intro n hn
    exact Ev.step (fun k => by simp only [spec_NameOk.l0]; rfl) (Ev.ite_neg (by omega) (Ev.bind (Ev.cst (specInR _ _ _)) Ev.some))
  | succ d ih =>
    intro n hn
    refine Ev.step (fun k => by simp only [spec_NameOk.l0]; rfl) (Ev.ite_pos (by omega) (Ev.ite_pos (by omega) ?_))
    rw [wrap_nat (by omega), nmS]
    have ih := ih (n + 1) (by omega)
    have e : (small (bt s (n : Int)) = true) ↔ (bt s (n : Int) ≥ 97 ∧ bt s (n : Int) ≤ 122) := by simp [small]
    have e2 : (digit (bt s (n : Int)) = true) ↔ (bt s (n : Int) ≥ 48 ∧ bt s (n : Int) ≤ 57) := by simp [digit]
    simp only [e, e2]
    by_cases h1 : bt s (n : Int) ≥ 97
    · refine Ev.ite_pos h1 ?_
      by_cases h2 : bt s (n : Int) ≤ 122
      · rw [if_pos (Or.inl ⟨h1, h2⟩)]
        exact Ev.ite_pos h2 ih
      · refine Ev.ite_neg h2 ?_
        rw [if_neg (by omega)]
        by_cases h3 : (n : Int) > 0
        · exact Ev.ite_pos h3 (Ev.ite_pos (by omega) (Ev.ite_neg (by omega) Ev.some))
        · exact Ev.ite_neg h3 Ev.some
    · refine Ev.ite_neg h1 ?_
      by_cases h3 : (n : Int) > 0
      · refine Ev.ite_pos h3 ?_
        by_cases h4 : bt s (n : Int) ≥ 48
        · refine Ev.ite_pos h4 ?_
          by_cases h5 : bt s (n : Int) ≤ 57
          · rw [if_pos (Or.inr ⟨by omega, h4, h5⟩)]
            exact Ev.ite_pos h5 ih
          · rw [if_neg (by omega)]
            exact Ev.ite_neg h5 Ev.some
        · rw [if_neg (by omega)]
          exact Ev.ite_neg h4 Ev.some
      · rw [if_neg (by omega)]
        exact Ev.ite_neg h3 Ev.some
def al (s : ByteArray) : Nat → Nat → Bool
  | 0, _ => true
  | d + 1, n => if small (bt s (n : Int)) = true ∨ digit (bt s (n : Int)) = true then al s d (n + 1) else false
theorem implName_l (s : ByteArray) (hs : s.size ≤ maxLen) : ∀ d n : Nat, n + d = s.size → Ev (fun k => impl_NameOk.l0 k s (s.size : Int) (n : Int)) (al s d n && (inR (s.size : Int) 1 8 && small (bt s 0))) := by
  intro d
  induction d with
  | zero =>
    intro n hn
    refine Ev.step (fun k => by simp only [impl_NameOk.l0]; rfl) (Ev.ite_neg (by omega) (Ev.bind (Ev.cst (implInR _ _ _)) ?_))
    by_cases h : inR (s.size : Int) 1 8 = true
    · refine Ev.ite_pos h ?_
      have h' := h
      simp [inR] at h'
      refine Ev.ite_pos (by omega) (Ev.bind (Ev.cst (implSmall _)) (Ev.val Ev.some ?_))
      simp [al, h]
    · exact Ev.ite_neg h (Ev.val Ev.some (by simp [Bool.eq_false_iff.2 h]))
  | succ d ih =>
    intro n hn
    refine Ev.step (fun k => by simp only [impl_NameOk.l0]; rfl) (Ev.ite_pos (by omega) (Ev.ite_pos (by omega) (Ev.ite_pos (by omega) (Ev.bind (Ev.cst (implSmall _)) ?_))))
    rw [wrap_nat (by omega), al]
    have ih := ih (n + 1) (by omega)
    by_cases h1 : small (bt s (n : Int)) = true
    · rw [if_pos (Or.inl h1)]
      exact Ev.ite_pos h1 ih
    · refine Ev.ite_neg h1 (Ev.bind (Ev.cst (implDigit _)) ?_)
      by_cases h2 : digit (bt s (n : Int)) = true
      · rw [if_pos (Or.inr h2)]
        exact Ev.ite_pos h2 ih
      · rw [if_neg (fun e => e.elim h1 h2)]
        exact Ev.ite_neg h2 (Ev.val Ev.some (by simp))
theorem nmS_al (s : ByteArray) : ∀ d n : Nat, 0 < n → nmS s d n = (al s d n && inR (s.size : Int) 1 8) := by
  intro d
  induction d with
  | zero => intro n h; simp [nmS, al]
  | succ d ih =>
    intro n h
    rw [nmS, al, ih (n + 1) (by omega)]
    by_cases h1 : small (bt s (n : Int)) = true <;> by_cases h2 : digit (bt s (n : Int)) = true <;> simp [h, h1, h2]
def nameOk (s : ByteArray) : Bool := nmS s s.size 0
theorem nameOk_al (s : ByteArray) : nameOk s = (al s s.size 0 && (inR (s.size : Int) 1 8 && small (bt s 0))) := by
  unfold nameOk
  generalize hd : s.size = d
  cases d with
  | zero => simp [nmS, hd, inR]
  | succ d =>
    rw [nmS, al, nmS_al s d (0 + 1) (by omega), hd]
    have e : bt s ((0 : Nat) : Int) = bt s 0 := rfl
    rw [e]
    by_cases h1 : small (bt s 0) = true <;> by_cases h2 : digit (bt s 0) = true <;> simp [h1, h2]
theorem specName_ev (s : ByteArray) (hs : s.size ≤ maxLen) : Ev (fun k => spec_NameOk.f k s) (nameOk s) := by
  unfold spec_NameOk.f
  exact specName_l s hs s.size 0 (by omega)
theorem implName_ev (s : ByteArray) (hs : s.size ≤ maxLen) : Ev (fun k => impl_NameOk.f k s) (nameOk s) := by
  unfold impl_NameOk.f
  rw [nameOk_al]
  exact implName_l s hs s.size 0 (by omega)
def symL (l : List I_Sym) (m : ByteArray) : Nat → Nat → Int
  | 0, _ => -1
  | d + 1, n => if (rd_I_Sym l (n : Int)).f0.toList = m.toList then (n : Int) else symL l m d (n + 1)
def symOf (l : List I_Sym) (m : ByteArray) : Int := symL l m l.length 0
theorem specSymOf_l (l : List I_Sym) (m : ByteArray) (hl : l.length ≤ maxLen) : ∀ d n : Nat, n + d = l.length → Ev (fun k => spec_SymOf.l0 k l m (n : Int)) (symL l m d n) := by
  intro d
  induction d with
  | zero =>
    intro n hn
    exact Ev.step (fun k => by simp only [spec_SymOf.l0]; rfl) (Ev.ite_neg (by omega) Ev.some)
  | succ d ih =>
    intro n hn
    refine Ev.step (fun k => by simp only [spec_SymOf.l0]; rfl) (Ev.ite_pos (by omega) (Ev.ite_pos (by omega) ?_))
    rw [wrap_nat (by omega), symL]
    by_cases h : (rd_I_Sym l (n : Int)).f0.toList = m.toList
    · rw [if_pos h]; exact Ev.ite_pos h Ev.some
    · rw [if_neg h]; exact Ev.ite_neg h (ih _ (by omega))
theorem implSymOf_l (l : List I_Sym) (m : ByteArray) (hl : l.length ≤ maxLen) : ∀ d n : Nat, n + d = l.length → Ev (fun k => impl_Sym__with_impl_SymOf_1.l0 k l (l.length : Int) (n : Int) m) (symL l m d n) := by
  intro d
  induction d with
  | zero =>
    intro n hn
    exact Ev.step (fun k => by simp only [impl_Sym__with_impl_SymOf_1.l0]; rfl) (Ev.ite_neg (by omega) Ev.some)
  | succ d ih =>
    intro n hn
    refine Ev.step (fun k => by simp only [impl_Sym__with_impl_SymOf_1.l0]; rfl) (Ev.ite_pos (by omega) (Ev.ite_pos (by omega) (Ev.ite_pos (by omega) (Ev.bind Ev.some ?_))))
    rw [wrap_nat (by omega), symL]
    by_cases h : (rd_I_Sym l (n : Int)).f0.toList = m.toList
    · rw [if_pos h]; exact Ev.ite_pos (by simp [h]) Ev.some
    · rw [if_neg h]; exact Ev.ite_neg (by simp [h]) (ih _ (by omega))
theorem specSymOf_ev (l : List I_Sym) (m : ByteArray) (hl : l.length ≤ maxLen) : Ev (fun k => spec_SymOf.f k l m) (symOf l m) := by
  unfold spec_SymOf.f
  exact specSymOf_l l m hl l.length 0 (by omega)
theorem implSymOf_ev (l : List I_Sym) (m : ByteArray) (hl : l.length ≤ maxLen) : Ev (fun k => impl_SymOf.f k l m) (symOf l m) := by
  unfold impl_SymOf.f impl_Sym__with_impl_SymOf_1.f
  exact Ev.bind (implSymOf_l l m hl l.length 0 (by omega)) Ev.some
def okAt (l : List I_Sym) (n : Nat) : Bool := nameOk (rd_I_Sym l (n : Int)).f0 && (decide (symOf l (rd_I_Sym l (n : Int)).f0 = (n : Int)) && (inR (rd_I_Sym l (n : Int)).f1 0 3 && (!(rd_I_Sym l (n : Int)).f2 || decide ((rd_I_Sym l (n : Int)).f1 = 2))))
def sgEnd (l : List I_Sym) : Bool := inR (l.length : Int) 1 8 && ((rd_I_Sym l 0).f0.toList == ([116, 116] : List UInt8) && ((rd_I_Sym l 0).f1 == 0 && !(rd_I_Sym l 0).f2))
def sgL (l : List I_Sym) : Nat → Nat → Bool
  | 0, _ => sgEnd l
  | d + 1, n => if okAt l n = true then sgL l d (n + 1) else false
def sigOk (l : List I_Sym) : Bool := sgL l l.length 0
theorem specSig_l (l : List I_Sym) (hl : l.length ≤ maxLen) (hn : ∀ x ∈ l, x.f0.size ≤ maxLen) : ∀ d n : Nat, n + d = l.length → Ev (fun k => spec_SigOk.l0 k l (n : Int)) (sgL l d n) := by
  intro d
  induction d with
  | zero =>
    intro n hn
    refine Ev.step (fun k => by simp only [spec_SigOk.l0]; rfl) (Ev.ite_neg (by omega) (Ev.bind (Ev.cst (specInR _ _ _)) ?_))
    rw [sgL, sgEnd]
    by_cases h : inR (l.length : Int) 1 8 = true
    · have h' := h
      simp [inR] at h'
      rw [h, Bool.true_and]
      exact Ev.ite_pos rfl (Ev.ite_pos (by omega) Ev.some)
    · exact Ev.ite_neg h (Ev.val Ev.some (by simp [Bool.eq_false_iff.2 h]))
  | succ d ih =>
    intro n hd
    have hx := hn _ (getD_mem l zI_Sym n (by omega))
    refine Ev.step (fun k => by simp only [spec_SigOk.l0]; rfl) (Ev.ite_pos (by omega) (Ev.ite_pos (by omega) (Ev.bind (specName_ev _ hx) ?_)))
    rw [wrap_nat (by omega), sgL, okAt]
    have ih := ih (n + 1) (by omega)
    by_cases h1 : nameOk (rd_I_Sym l (n : Int)).f0 = true
    · refine Ev.ite_pos h1 (Ev.bind (specSymOf_ev _ _ hl) ?_)
      by_cases h2 : symOf l (rd_I_Sym l (n : Int)).f0 = (n : Int)
      · refine Ev.ite_pos h2 (Ev.bind (Ev.cst (specInR _ _ _)) ?_)
        by_cases h3 : inR (rd_I_Sym l (n : Int)).f1 0 3 = true
        · refine Ev.ite_pos h3 ?_
          by_cases h4 : (rd_I_Sym l (n : Int)).f2 = true
          · refine Ev.ite_pos h4 ?_
            by_cases h5 : (rd_I_Sym l (n : Int)).f1 = 2
            · exact Ev.ite_pos h5 (Ev.val ih (by rw [h5] at h3; simp [h1, h2, h3, h4, h5]))
            · exact Ev.ite_neg h5 (Ev.val Ev.some (by simp [h1, h2, h3, h4, h5]))
          · exact Ev.ite_neg h4 (Ev.val ih (by simp [h1, h2, h3, h4]))
        · exact Ev.ite_neg h3 (Ev.val Ev.some (by simp [h3]))
      · exact Ev.ite_neg h2 (Ev.val Ev.some (by simp [h2]))
    · exact Ev.ite_neg h1 (Ev.val Ev.some (by simp [h1]))
theorem specSigOk_ev (l : List I_Sym) (hl : l.length ≤ maxLen) (hn : ∀ x ∈ l, x.f0.size ≤ maxLen) : Ev (fun k => spec_SigOk.f k l) (sigOk l) := by
  unfold spec_SigOk.f
  exact specSig_l l hl hn l.length 0 (by omega)
theorem okAt_end {l : List I_Sym} (h : okAt l 0 = true) : ((rd_I_Sym l 0).f1 == 0) = ((rd_I_Sym l 0).f1 == 0 && !(rd_I_Sym l 0).f2) := by
  have e : rd_I_Sym l ((0 : Nat) : Int) = rd_I_Sym l 0 := rfl
  unfold okAt at h
  rw [e] at h
  simp only [Bool.and_eq_true, Bool.or_eq_true, Bool.not_eq_true', decide_eq_true_eq] at h
  rcases h.2.2.2 with h2 | h2
  · rw [h2]; simp
  · rw [h2]; rfl
theorem implSig_l (l : List I_Sym) (hl : l.length ≤ maxLen) (hn : ∀ x ∈ l, x.f0.size ≤ maxLen) : ∀ d n : Nat, n + d = l.length → (0 < n → okAt l 0 = true) → Ev (fun k => impl_SigOk.l0 k l l (l.length : Int) (n : Int)) (sgL l d n) := by
  intro d
  induction d with
  | zero =>
    intro n hn h0
    refine Ev.step (fun k => by simp only [impl_SigOk.l0]; rfl) (Ev.ite_neg (by omega) (Ev.bind (Ev.cst (implInR _ _ _)) ?_))
    rw [sgL, sgEnd]
    by_cases h : inR (l.length : Int) 1 8 = true
    · have h' := h
      simp [inR] at h'
      rw [h, Bool.true_and, ← okAt_end (h0 (by omega))]
      refine Ev.ite_pos rfl (Ev.ite_pos (by omega) ?_)
      by_cases ht : (rd_I_Sym l 0).f0.toList = ([116, 116] : List UInt8)
      · exact Ev.ite_pos ht (Ev.val Ev.some (by simp [ht]))
      · exact Ev.ite_neg ht (Ev.val Ev.some (by simp [ht]))
    · exact Ev.ite_neg h (Ev.val Ev.some (by simp [Bool.eq_false_iff.2 h]))
  | succ d ih =>
    intro n hd h0
    have hx := hn _ (getD_mem l zI_Sym n (by omega))
    refine Ev.step (fun k => by simp only [impl_SigOk.l0]; rfl) (Ev.ite_pos (by omega) (Ev.ite_pos (by omega) (Ev.ite_pos (by omega) (Ev.bind (implName_ev _ hx) ?_))))
    rw [wrap_nat (by omega), sgL]
    have ih : okAt l n = true → Ev (fun k => impl_SigOk.l0 k l l (l.length : Int) ((n + 1 : Nat) : Int)) (sgL l d (n + 1)) := fun h => ih (n + 1) (by omega) (fun _ => by
      by_cases e : n = 0
      · subst e; exact h
      · exact h0 (by omega))
    by_cases h1 : nameOk (rd_I_Sym l (n : Int)).f0 = true
    · refine Ev.ite_pos h1 (Ev.bind (implSymOf_ev _ _ hl) ?_)
      by_cases h2 : symOf l (rd_I_Sym l (n : Int)).f0 = (n : Int)
      · refine Ev.ite_pos h2 (Ev.bind (Ev.cst (implInR _ _ _)) ?_)
        by_cases h3 : inR (rd_I_Sym l (n : Int)).f1 0 3 = true
        · refine Ev.ite_pos h3 ?_
          by_cases h4 : (rd_I_Sym l (n : Int)).f2 = true
          · refine Ev.ite_pos h4 ?_
            by_cases h5 : (rd_I_Sym l (n : Int)).f1 = 2
            · have ok : okAt l n = true := by unfold okAt; rw [h5] at h3; simp [h1, h2, h3, h4, h5]
              exact Ev.ite_pos h5 (Ev.val (ih ok) (by rw [if_pos ok]))
            · exact Ev.ite_neg h5 (Ev.val Ev.some (by simp [okAt, h1, h2, h3, h4, h5]))
          · have ok : okAt l n = true := by unfold okAt; simp [h1, h2, h3, h4]
            exact Ev.ite_neg h4 (Ev.val (ih ok) (by rw [if_pos ok]))
        · exact Ev.ite_neg h3 (Ev.val Ev.some (by simp [okAt, h3]))
      · exact Ev.ite_neg h2 (Ev.val Ev.some (by simp [okAt, h2]))
    · exact Ev.ite_neg h1 (Ev.val Ev.some (by simp [okAt, h1]))
theorem implSigOk_ev (l : List I_Sym) (hl : l.length ≤ maxLen) (hn : ∀ x ∈ l, x.f0.size ≤ maxLen) : Ev (fun k => impl_SigOk.f k l) (sigOk l) := by
  unfold impl_SigOk.f
  exact implSig_l l hl hn l.length 0 (by omega) (fun h => absurd h (by omega))
theorem symS_len {l : List I_Sym} (h : el_SymS l ≤ maxLen) : l.length ≤ maxLen := by unfold el_SymS at h; omega
theorem names_cv {l : List L_Sym} (h : sz_SymS l ≤ 1048576) : ∀ x ∈ cv_SymS l, x.f0.size ≤ maxLen := by
  intro x hx
  have hm : maxLen = 9223372036854775807 := rfl
  obtain ⟨y, hy, rfl⟩ := List.mem_map.1 hx
  have := mem_sz_SymS hy
  simp only [sz_Sym] at this
  show y.f0.size ≤ _
  omega
/-! #### worlds that are right: what the program's WorldOk comes to -/
theorem sgL_all (l : List I_Sym) : ∀ d n : Nat, sgL l d n = true → ∀ m, n ≤ m → m < n + d → okAt l m = true := by
  intro d
  induction d with
  | zero => intro n h m a b; omega
  | succ d ih =>
    intro n h m a b
    rw [sgL] at h
    by_cases e : okAt l n = true
    · rw [if_pos e] at h
      by_cases e2 : m = n
      · subst e2; exact e
      · exact ih (n + 1) h m (by omega) (by omega)
    · rw [if_neg e] at h
      cases h
theorem sig_at {l : List I_Sym} (h : sigOk l = true) {n : Nat} (hn : n < l.length) : (0 ≤ (rd_I_Sym l (n : Int)).f1 ∧ (rd_I_Sym l (n : Int)).f1 ≤ 3) ∧ ((rd_I_Sym l (n : Int)).f2 = true → (rd_I_Sym l (n : Int)).f1 = 2) := by
  have h := sgL_all l l.length 0 h n (by omega) (by omega)
  unfold okAt at h
  simp only [Bool.and_eq_true, Bool.or_eq_true, Bool.not_eq_true', decide_eq_true_eq, inR] at h
  refine ⟨h.2.2.1, fun e => ?_⟩
  rcases h.2.2.2 with h2 | h2
  · rw [h2] at e; cases e
  · exact h2
def allF (P : Nat → Bool) : Nat → Nat → Bool
  | 0, _ => true
  | d + 1, n => P n && allF P d (n + 1)
theorem allF_and (c : Bool) (P : Nat → Bool) : ∀ d n : Nat, allF (fun i => c && P i) (d + 1) n = (c && allF P (d + 1) n) := by
  intro d
  induction d with
  | zero => intro n; simp [allF]
  | succ d ih =>
    intro n
    rw [allF, ih]
    simp only [allF]
    cases c <;> simp
theorem allF_congr {P Q : Nat → Bool} : ∀ d n : Nat, (∀ i, n ≤ i → i < n + d → P i = Q i) → allF P d n = allF Q d n := by
  intro d
  induction d with
  | zero => intro n h; rfl
  | succ d ih =>
    intro n h
    rw [allF, allF, h n (by omega) (by omega), ih (n + 1) (fun i a b => h i (by omega) (by omega))]
def pw (z a : Int) : Int := if a = 0 then 1 else if a = 1 then z else if a = 2 then z * z else z * z * z
theorem places_ev {z : Nat} (z1 : 1 ≤ z) (z4 : z ≤ 4) (a : Int) (h0 : 0 ≤ a) (h1 : a ≤ 3) : Ev (fun k => impl_placesOf.f k z a) (pw z a) := by
  have hz : z = 1 ∨ z = 2 ∨ z = 3 ∨ z = 4 := by omega
  have ha : a = 0 ∨ a = 1 ∨ a = 2 ∨ a = 3 := by omega
  refine Ev.of (fun k => impl_placesOf.mono z a k) (k := 8) ?_
  rcases hz with rfl | rfl | rfl | rfl <;> rcases ha with rfl | rfl | rfl | rfl <;> decide +kernel
def bd (hi : Int) (t : List Int) : Nat → Nat → Bool
  | 0, _ => true
  | d + 1, n => if inR (rd t (n : Int)) 0 hi = true then bd hi t d (n + 1) else false
theorem contains_l (z : Int) (t : List Int) (T : List (List Int)) (hl : t.length ≤ maxLen) : ∀ d n : Nat, n + d = t.length → ∃ i : Int, decide (i ≥ 0) = !bd (wrap64 (z - 1)) t d n ∧ Ev (fun k => slices_IndexFunc_int_int__with_impl_WorldOk_1.l0 k t (t.length : Int) (n : Int) z T) i := by
  intro d
  induction d with
  | zero =>
    intro n hn
    exact ⟨-1, by simp [bd], Ev.step (fun k => by simp only [slices_IndexFunc_int_int__with_impl_WorldOk_1.l0]; rfl) (Ev.ite_neg (by omega) Ev.some)⟩
  | succ d ih =>
    intro n hn
    obtain ⟨i, h1, h2⟩ := ih (n + 1) (by omega)
    have hw : impl_WorldOk_1.f (rd t (n : Int)) z T = some (!inR (rd t (n : Int)) 0 (wrap64 (z - 1))) := by
      unfold impl_WorldOk_1.f
      rw [implInR]
      rfl
    by_cases h : inR (rd t (n : Int)) 0 (wrap64 (z - 1)) = true
    · refine ⟨i, by rw [bd, if_pos h]; exact h1, ?_⟩
      refine Ev.step (fun k => by simp only [slices_IndexFunc_int_int__with_impl_WorldOk_1.l0]; rfl) (Ev.ite_pos (by omega) (Ev.ite_pos (by omega) (Ev.ite_pos (by omega) (Ev.bind (Ev.cst hw) ?_))))
      rw [wrap_nat (by omega), h]
      exact Ev.ite_neg (by decide) h2
    · refine ⟨(n : Int), by rw [bd, if_neg h]; simp, ?_⟩
      refine Ev.step (fun k => by simp only [slices_IndexFunc_int_int__with_impl_WorldOk_1.l0]; rfl) (Ev.ite_pos (by omega) (Ev.ite_pos (by omega) (Ev.ite_pos (by omega) (Ev.bind (Ev.cst hw) ?_))))
      rw [Bool.not_eq_true] at h
      rw [h]
      exact Ev.ite_pos (by decide) Ev.some
theorem contains_ev (z : Int) (t : List Int) (T : List (List Int)) (hl : t.length ≤ maxLen) : Ev (fun k => slices_ContainsFunc_int_int__with_impl_WorldOk_1.f k t z T) (!bd (wrap64 (z - 1)) t t.length 0) := by
  obtain ⟨i, h1, h2⟩ := contains_l z t T hl t.length 0 (by omega)
  unfold slices_ContainsFunc_int_int__with_impl_WorldOk_1.f slices_IndexFunc_int_int__with_impl_WorldOk_1.f
  exact Ev.bind h2 (Ev.val Ev.some h1)
theorem bd_all (hi : Int) (t : List Int) : ∀ d n : Nat, bd hi t d n = true → ∀ m, n ≤ m → m < n + d → 0 ≤ rd t (m : Int) ∧ rd t (m : Int) ≤ hi := by
  intro d
  induction d with
  | zero => intro n h m a b; omega
  | succ d ih =>
    intro n h m a b
    rw [bd] at h
    by_cases e : inR (rd t (n : Int)) 0 hi = true
    · rw [if_pos e] at h
      by_cases e2 : m = n
      · subst e2
        simpa [inR] using e
      · exact ih (n + 1) h m (by omega) (by omega)
    · rw [if_neg e] at h
      cases h
def op (z : Int) (t : List Int) (a b : Int) : Int := rd t (wrap64 (a + (wrap64 (z * b))))
theorem opR' {z : Int} (hz : z = 1 ∨ z = 2 ∨ z = 3 ∨ z = 4) {n : Int} (hl : n = z * z) {a b : Int} (a0 : 0 ≤ a) (a1 : a < z) (b0 : 0 ≤ b) (b1 : b < z) : 0 ≤ wrap64 (a + (wrap64 (z * b))) ∧ wrap64 (a + (wrap64 (z * b))) < n := by
  rcases hz with rfl | rfl | rfl | rfl <;> rw [wrap_id (x := _ * b) (by omega) (by omega), wrap_id (by omega) (by omega)] <;> omega
theorem opR {z : Nat} (z1 : 1 ≤ z) (z4 : z ≤ 4) {t : List Int} (hl : (t.length : Int) = z * z) {a b : Int} (a0 : 0 ≤ a) (a1 : a < z) (b0 : 0 ≤ b) (b1 : b < z) : 0 ≤ wrap64 (a + (wrap64 ((z : Int) * b))) ∧ wrap64 (a + (wrap64 ((z : Int) * b))) < (t.length : Int) := by
  exact opR' (by omega) hl a0 a1 b0 b1
theorem opV {z : Nat} (z1 : 1 ≤ z) (z4 : z ≤ 4) {t : List Int} (hl : (t.length : Int) = z * z) (hb : bd (wrap64 ((z : Int) - 1)) t t.length 0 = true) {a b : Int} (a0 : 0 ≤ a) (a1 : a < z) (b0 : 0 ≤ b) (b1 : b < z) : 0 ≤ op z t a b ∧ op z t a b < z := by
  have h := opR z1 z4 hl a0 a1 b0 b1
  obtain ⟨n, hn⟩ : ∃ n : Nat, wrap64 (a + (wrap64 ((z : Int) * b))) = n := ⟨_, (Int.toNat_of_nonneg h.1).symm⟩
  have g := bd_all _ t t.length 0 hb n (by omega) (by omega)
  have w : wrap64 ((z : Int) - 1) = (z : Int) - 1 := wrap_id (by omega) (by omega)
  unfold op
  rw [hn]
  omega
theorem implOp {z : Nat} (z1 : 1 ≤ z) (z4 : z ≤ 4) {t : List Int} (hl : (t.length : Int) = z * z) {a b : Int} (a0 : 0 ≤ a) (a1 : a < z) (b0 : 0 ≤ b) (b1 : b < z) : impl_indifferent_1.f a b t z = some (op z t a b) := by
  have h := opR z1 z4 hl a0 a1 b0 b1
  unfold impl_indifferent_1.f
  rw [if_pos h.1, if_pos h.2]
  rfl
def comm (z : Int) (t : List Int) (a b : Int) : Bool := decide (op z t a b = op z t b a)
def assoc (z : Int) (t : List Int) (a b c : Int) : Bool := decide (op z t (op z t a b) c = op z t a (op z t b c))
def indB (z : Nat) (t : List Int) : Bool := allF (fun a => allF (fun b => comm z t a b && allF (fun c => assoc z t a b c) z 0) z 0) z 0
theorem implInd2 {z : Nat} (z1 : 1 ≤ z) (z4 : z ≤ 4) {t : List Int} (hl : (t.length : Int) = z * z) (hb : bd (wrap64 ((z : Int) - 1)) t t.length 0 = true) (a b : Nat) (ha : a < z) (hB : b < z) (R : Bool) (hR : Ev (fun k => impl_indifferent.l1 k a z a z ((b + 1 : Nat) : Int) z t) R) : ∀ d c : Nat, c + d = z → Ev (fun k => impl_indifferent.l2 k a b z a z b z c z t) (allF (fun c => comm z t a b && assoc z t a b c) d c && R) := by
  have hm : maxLen = 9223372036854775807 := rfl
  intro d
  induction d with
  | zero =>
    intro c hc
    refine Ev.step (fun k => by simp only [impl_indifferent.l2]; rfl) (Ev.ite_neg (by omega) ?_)
    rw [wrap_nat (by omega), allF, Bool.true_and]
    exact hR
  | succ d ih =>
    intro c hc
    have v1 := opV z1 z4 hl hb (a := (a : Int)) (b := (b : Int)) (by omega) (by omega) (by omega) (by omega)
    have v2 := opV z1 z4 hl hb (a := (b : Int)) (b := (c : Int)) (by omega) (by omega) (by omega) (by omega)
    have o1 := implOp z1 z4 hl (a := (a : Int)) (b := (b : Int)) (by omega) (by omega) (by omega) (by omega)
    have o2 := implOp z1 z4 hl (a := (b : Int)) (b := (a : Int)) (by omega) (by omega) (by omega) (by omega)
    have o3 := implOp z1 z4 hl (a := op z t a b) (b := (c : Int)) v1.1 v1.2 (by omega) (by omega)
    have o4 := implOp z1 z4 hl (a := (b : Int)) (b := (c : Int)) (by omega) (by omega) (by omega) (by omega)
    have o5 := implOp z1 z4 hl (a := (a : Int)) (b := op z t b c) (by omega) (by omega) v2.1 v2.2
    refine Ev.step (fun k => by simp only [impl_indifferent.l2]; rfl) (Ev.ite_pos (by omega) (Ev.bind (Ev.cst o1) (Ev.bind (Ev.cst o2) ?_)))
    rw [allF]
    by_cases e : op z t a b = op z t b a
    · refine Ev.ite_pos e (Ev.bind (Ev.cst o1) (Ev.bind (Ev.cst o3) (Ev.bind (Ev.cst o4) (Ev.bind (Ev.cst o5) ?_))))
      by_cases e2 : op z t (op z t a b) c = op z t a (op z t b c)
      · refine Ev.ite_pos e2 ?_
        rw [wrap_nat (by omega)]
        refine Ev.val (ih (c + 1) (by omega)) ?_
        have c1 : comm z t a b = true := decide_eq_true e
        have c2 : assoc z t a b c = true := decide_eq_true e2
        rw [c1, c2]
        rfl
      · have c2 : assoc z t a b c = false := decide_eq_false e2
        exact Ev.ite_neg e2 (Ev.val Ev.some (by rw [c2]; simp))
    · have c1 : comm z t a b = false := decide_eq_false e
      exact Ev.ite_neg e (Ev.val Ev.some (by rw [c1]; simp))
theorem implInd1 {z : Nat} (z1 : 1 ≤ z) (z4 : z ≤ 4) {t : List Int} (hl : (t.length : Int) = z * z) (hb : bd (wrap64 ((z : Int) - 1)) t t.length 0 = true) (a : Nat) (ha : a < z) (R : Bool) (hR : Ev (fun k => impl_indifferent.l0 k z ((a + 1 : Nat) : Int) z t) R) : ∀ d b : Nat, b + d = z → Ev (fun k => impl_indifferent.l1 k a z a z b z t) (allF (fun b => comm z t a b && allF (fun c => assoc z t a b c) z 0) d b && R) := by
  have hm : maxLen = 9223372036854775807 := rfl
  intro d
  induction d with
  | zero =>
    intro b hd
    refine Ev.step (fun k => by simp only [impl_indifferent.l1]; rfl) (Ev.ite_neg (by omega) ?_)
    rw [wrap_nat (by omega), allF, Bool.true_and]
    exact hR
  | succ d ih =>
    intro b hd
    refine Ev.step (fun k => by simp only [impl_indifferent.l1]; rfl) (Ev.ite_pos (by omega) ?_)
    refine Ev.val (implInd2 z1 z4 hl hb a b ha (by omega) _ (ih (b + 1) (by omega)) z 0 (by omega)) ?_
    obtain ⟨y, rfl⟩ : ∃ y, z = y + 1 := ⟨z - 1, by omega⟩
    rw [allF_and]
    show _ = (((comm ((y + 1 : Nat) : Int) t a b && allF (fun c => assoc ((y + 1 : Nat) : Int) t a b c) (y + 1) 0) && _) && R)
    rw [Bool.and_assoc, Bool.and_assoc, Bool.and_assoc]
theorem implInd0 {z : Nat} (z1 : 1 ≤ z) (z4 : z ≤ 4) {t : List Int} (hl : (t.length : Int) = z * z) (hb : bd (wrap64 ((z : Int) - 1)) t t.length 0 = true) : ∀ d a : Nat, a + d = z → Ev (fun k => impl_indifferent.l0 k z a z t) (allF (fun a => allF (fun b => comm z t a b && allF (fun c => assoc z t a b c) z 0) z 0) d a) := by
  intro d
  induction d with
  | zero =>
    intro a hd
    exact Ev.step (fun k => by simp only [impl_indifferent.l0]; rfl) (Ev.ite_neg (by omega) Ev.some)
  | succ d ih =>
    intro a hd
    refine Ev.step (fun k => by simp only [impl_indifferent.l0]; rfl) (Ev.ite_pos (by omega) ?_)
    exact implInd1 z1 z4 hl hb a (by omega) _ (ih (a + 1) (by omega)) z 0 (by omega)
theorem implInd_ev {z : Nat} (z1 : 1 ≤ z) (z4 : z ≤ 4) {t : List Int} (hl : (t.length : Int) = z * z) (hb : bd (wrap64 ((z : Int) - 1)) t t.length 0 = true) : Ev (fun k => impl_indifferent.f k z t) (indB z t) := by
  unfold impl_indifferent.f
  exact implInd0 z1 z4 hl hb z 0 (by omega)
def rowOk (z : Nat) (x : I_Sym) (t : List Int) : Bool := decide ((t.length : Int) = pw z x.f1) && (bd (wrap64 ((z : Int) - 1)) t t.length 0 && (!x.f2 || indB z t))
def wo (z : Nat) (s : List I_Sym) (T : List (List Int)) : Nat → Nat → Bool
  | 0, _ => true
  | d + 1, n => if rowOk z (rd_I_Sym s (n : Int)) (rd_Ls_i64 T (n : Int)) = true then wo z s T d (n + 1) else false
def worldOk (s : List I_Sym) (z : Int) (T : List (List Int)) : Bool := sigOk s && (inR z 1 4 && (decide (T.length = s.length) && wo z.toNat s T s.length 0))
theorem pw2 {z : Nat} {x : Int} (h : x = 2) : pw z x = z * z := by subst h; rfl
theorem implWorld_l {z : Nat} (z1 : 1 ≤ z) (z4 : z ≤ 4) (s : List I_Sym) (T : List (List Int)) (hs : sigOk s = true) (hl : s.length ≤ maxLen) (hT : T.length = s.length) (hn : ∀ x ∈ T, x.length ≤ maxLen) : ∀ d n : Nat, n + d = s.length → Ev (fun k => impl_WorldOk.l0 k s (s.length : Int) (n : Int) z T) (wo z s T d n) := by
  intro d
  induction d with
  | zero =>
    intro n hd
    exact Ev.step (fun k => by simp only [impl_WorldOk.l0]; rfl) (Ev.ite_neg (by omega) Ev.some)
  | succ d ih =>
    intro n hd
    have hx := sig_at hs (n := n) (by omega)
    have ht : (rd_Ls_i64 T (n : Int)).length ≤ maxLen := hn _ (getD_mem T [] n (by omega))
    refine Ev.step (fun k => by simp only [impl_WorldOk.l0]; rfl) (Ev.ite_pos (by omega) (Ev.ite_pos (by omega) (Ev.ite_pos (by omega) (Ev.ite_pos (by omega) (Ev.bind (places_ev z1 z4 _ hx.1.1 hx.1.2) ?_)))))
    rw [wrap_nat (by omega), wo, rowOk]
    have ih := ih (n + 1) (by omega)
    by_cases h1 : ((rd_Ls_i64 T (n : Int)).length : Int) = pw z (rd_I_Sym s (n : Int)).f1
    · refine Ev.ite_pos h1 (Ev.bind (contains_ev _ _ _ ht) ?_)
      by_cases h2 : bd (wrap64 ((z : Int) - 1)) (rd_Ls_i64 T (n : Int)) (rd_Ls_i64 T (n : Int)).length 0 = true
      · refine Ev.ite_neg (by rw [h2]; decide) ?_
        by_cases h3 : (rd_I_Sym s (n : Int)).f2 = true
        · have hl2 := h1
          rw [pw2 (hx.2 h3)] at hl2
          refine Ev.ite_pos h3 (Ev.bind (implInd_ev z1 z4 hl2 h2) ?_)
          by_cases h4 : indB z (rd_Ls_i64 T (n : Int)) = true
          · exact Ev.ite_pos h4 (Ev.val ih (by simp [h1, h2, h3, h4]))
          · exact Ev.ite_neg h4 (Ev.val Ev.some (by simp [h1, h2, h3, h4]))
        · exact Ev.ite_neg h3 (Ev.val ih (by simp [h1, h2, h3]))
      · rw [Bool.not_eq_true] at h2
        exact Ev.ite_pos (by rw [h2]; decide) (Ev.val Ev.some (by simp [h2]))
    · exact Ev.ite_neg h1 (Ev.val Ev.some (by rw [decide_eq_false h1]; rfl))
theorem implWorldOk_ev (s : List I_Sym) (z : Int) (T : List (List Int)) (hl : s.length ≤ maxLen) (hn : ∀ x ∈ s, x.f0.size ≤ maxLen) (ht : ∀ x ∈ T, x.length ≤ maxLen) : Ev (fun k => impl_WorldOk.f k s z T) (worldOk s z T) := by
  unfold impl_WorldOk.f worldOk
  refine Ev.bind (implSigOk_ev s hl hn) ?_
  have hf : Ev (fun k => impl_WorldOk.j0 k s true z T) false := by
    refine Ev.step (fun k => by simp only [impl_WorldOk.j0]; rfl) ?_
    exact Ev.some
  by_cases h1 : sigOk s = true
  · refine Ev.ite_pos h1 (Ev.bind (Ev.cst (implInR _ _ _)) ?_)
    by_cases h2 : inR z 1 4 = true
    · refine Ev.ite_pos h2 (Ev.step (fun k => by simp only [impl_WorldOk.j0]; rfl) ?_)
      by_cases h3 : T.length = s.length
      · have h2' := h2
        simp [inR] at h2'
        obtain ⟨y, hy⟩ : ∃ y : Nat, z = (y : Int) := ⟨z.toNat, by omega⟩
        subst hy
        exact Ev.ite_neg (by simp [h3]) (Ev.val (implWorld_l (by omega) (by omega) s T h1 hl h3 ht s.length 0 (by omega)) (by simp [h1, h2, h3]))
      · exact Ev.ite_pos (by simp; omega) (Ev.val Ev.some (by simp [h3]))
    · exact Ev.ite_neg h2 (Ev.val hf (by simp [h2]))
  · exact Ev.ite_neg h1 (Ev.val hf (by simp [h1]))
theorem tabs_len {T : List (List Int)} (h : el_IntSS T ≤ maxLen) : ∀ x ∈ T, x.length ≤ maxLen := by
  intro x hx
  have := mem_size el_IntS hx
  have e : x.length ≤ el_IntS x := by unfold el_IntS; omega
  unfold el_IntSS at h
  omega
/-! #### the reference's ModelOk: tables of two things -/
def two (t : List Int) (a b : Int) : Option Int := if 0 ≤ (wrap64 (a + (wrap64 (2 * b)))) then (if (wrap64 (a + (wrap64 (2 * b)))) < (t.length : Int) then (some (rd t (wrap64 (a + (wrap64 (2 * b)))))) else (none)) else (none)
def bl0 (t : List Int) : Nat → Int → Option Bool
  | 0, _ => none
  | k + 1, x5 => if x5 < 8 then ((two t (Int.tmod x5 2) (Int.tmod (wrap64 (Int.tdiv x5 2)) 2)).bind fun t142 => ((two t t142 (wrap64 (Int.tdiv x5 4))).bind fun t143 => ((two t (Int.tmod (wrap64 (Int.tdiv x5 2)) 2) (wrap64 (Int.tdiv x5 4))).bind fun t144 => ((two t (Int.tmod x5 2) t144).bind fun t145 => (if t143 = t145 then (bl0 t k (wrap64 (x5 + 1))) else (some false)))))) else (some true)
def bls (t : List Int) (k : Nat) : Option Bool := (two t 0 1).bind fun a => (two t 1 0).bind fun b => if a = b then bl0 t k 0 else some false
theorem two_ev (T : List (List Int)) (i : Nat) (hi : i < T.length) (a b : Int) : spec_l21Two.f T (i : Int) a b = two (rd_Ls_i64 T (i : Int)) a b := by
  unfold spec_l21Two.f
  rw [if_pos (by omega), if_pos (by omega)]
  rfl
theorem bl0_ev (T : List (List Int)) (i : Nat) (hi : i < T.length) : ∀ (k : Nat) (x : Int), spec_l21Blind.l0 k (i : Int) x T = bl0 (rd_Ls_i64 T (i : Int)) k x := by
  intro k
  induction k with
  | zero => intro x; rfl
  | succ k ih =>
    intro x
    simp only [spec_l21Blind.l0, bl0, two_ev T i hi, ih]
theorem bls_ev (T : List (List Int)) (i : Nat) (hi : i < T.length) (k : Nat) : spec_l21Blind.f k T (i : Int) = bls (rd_Ls_i64 T (i : Int)) k := by
  unfold spec_l21Blind.f bls
  simp only [two_ev T i hi, bl0_ev T i hi]
theorem tables (P : List Int → Prop) (hP : ∀ a b c d : Int, (a = 0 ∨ a = 1) → (b = 0 ∨ b = 1) → (c = 0 ∨ c = 1) → (d = 0 ∨ d = 1) → P [a, b, c, d]) (t : List Int) (hl : t.length = 4) (hb : bd 1 t t.length 0 = true) : P t := by
  have h := bd_all 1 t t.length 0 hb
  match t, hl with
  | [a, b, c, d], _ =>
    have h0 := h 0 (by omega) (by simp)
    have h1 := h 1 (by omega) (by simp)
    have h2 := h 2 (by omega) (by simp)
    have h3 := h 3 (by omega) (by simp)
    have e0 : rd [a, b, c, d] ((0 : Nat) : Int) = a := rfl
    have e1 : rd [a, b, c, d] ((1 : Nat) : Int) = b := rfl
    have e2 : rd [a, b, c, d] ((2 : Nat) : Int) = c := rfl
    have e3 : rd [a, b, c, d] ((3 : Nat) : Int) = d := rfl
    rw [e0] at h0
    rw [e1] at h1
    rw [e2] at h2
    rw [e3] at h3
    exact hP a b c d (by omega) (by omega) (by omega) (by omega)
theorem specBl (t : List Int) (hl : t.length = 4) (hb : bd 1 t t.length 0 = true) : bls t 100 = some (indB 2 t) := by
  refine tables (fun t => bls t 100 = some (indB 2 t)) ?_ t hl hb
  rintro a b c d (rfl | rfl) (rfl | rfl) (rfl | rfl) (rfl | rfl) <;> decide +kernel
theorem specBl_ev (T : List (List Int)) (n : Nat) (hn : n < T.length) (hl : (rd_Ls_i64 T (n : Int)).length = 4) (hb : bd 1 (rd_Ls_i64 T (n : Int)) (rd_Ls_i64 T (n : Int)).length 0 = true) : Ev (fun k => spec_l21Blind.f k T (n : Int)) (indB 2 (rd_Ls_i64 T (n : Int))) := by
  refine Ev.of (fun k => spec_l21Blind.mono T (n : Int) k) (k := 100) ?_
  rw [bls_ev T n hn]
  exact specBl _ hl hb
theorem hi2 : wrap64 (((2 : Nat) : Int) - 1) = 1 := by decide +kernel
theorem shl_pw (a : Int) (h0 : 0 ≤ a) (h1 : a ≤ 3) : shl .i64 1 a = pw ((2 : Nat) : Int) a := by
  have ha : a = 0 ∨ a = 1 ∨ a = 2 ∨ a = 3 := by omega
  rcases ha with rfl | rfl | rfl | rfl <;> decide +kernel
theorem specModel_r (s : List I_Sym) (T : List (List Int)) (hT : T.length = s.length) (n : Nat) (hn : n < s.length) (ht : (rd_Ls_i64 T (n : Int)).length ≤ maxLen) (R : Bool) (hR : bd 1 (rd_Ls_i64 T (n : Int)) (rd_Ls_i64 T (n : Int)).length 0 = true → Ev (fun k => if (rd_I_Sym s (n : Int)).f2 = true then ((spec_l21Blind.f k T (n : Int)).bind fun t157 => (if t157 = true then (spec_ModelOk.l0 k s (wrap64 ((n : Int) + 1)) T) else (some false))) else (spec_ModelOk.l0 k s (wrap64 ((n : Int) + 1)) T)) R) : ∀ d m : Nat, m + d = (rd_Ls_i64 T (n : Int)).length → (bd 1 (rd_Ls_i64 T (n : Int)) (rd_Ls_i64 T (n : Int)).length 0 = bd 1 (rd_Ls_i64 T (n : Int)) d m) → Ev (fun k => spec_ModelOk.l1 k s (n : Int) (m : Int) T) (bd 1 (rd_Ls_i64 T (n : Int)) d m && R) := by
  intro d
  induction d with
  | zero =>
    intro m hd hb
    refine Ev.step (fun k => by simp only [spec_ModelOk.l1]; rfl) (Ev.ite_pos (by omega) (Ev.ite_pos (by omega) (Ev.ite_neg (by omega) (Ev.ite_pos (by omega) (Ev.val (hR (by rw [hb]; rfl)) (by simp [bd]))))))
  | succ d ih =>
    intro m hd hb
    refine Ev.step (fun k => by simp only [spec_ModelOk.l1]; rfl) (Ev.ite_pos (by omega) (Ev.ite_pos (by omega) (Ev.ite_pos (by omega) (Ev.ite_pos (by omega) (Ev.bind (Ev.cst (specInR _ _ _)) ?_)))))
    rw [wrap_nat (by omega), bd]
    rw [bd] at hb
    by_cases e : inR (rd (rd_Ls_i64 T (n : Int)) (m : Int)) 0 1 = true
    · rw [if_pos e] at hb
      rw [if_pos e]
      exact Ev.ite_pos e (ih (m + 1) (by omega) hb)
    · rw [if_neg e]
      exact Ev.ite_neg e Ev.some
theorem specModel_l (s : List I_Sym) (T : List (List Int)) (hs : sigOk s = true) (hl : s.length ≤ maxLen) (hT : T.length = s.length) (hn : ∀ x ∈ T, x.length ≤ maxLen) : ∀ d n : Nat, n + d = s.length → Ev (fun k => spec_ModelOk.l0 k s (n : Int) T) (wo 2 s T d n) := by
  intro d
  induction d with
  | zero =>
    intro n hd
    exact Ev.step (fun k => by simp only [spec_ModelOk.l0]; rfl) (Ev.ite_neg (by omega) Ev.some)
  | succ d ih =>
    intro n hd
    have hx := sig_at hs (n := n) (by omega)
    have ht : (rd_Ls_i64 T (n : Int)).length ≤ maxLen := hn _ (getD_mem T [] n (by omega))
    refine Ev.step (fun k => by simp only [spec_ModelOk.l0]; rfl) (Ev.ite_pos (by omega) (Ev.ite_pos (by omega) (Ev.ite_pos (by omega) (Ev.ite_pos hx.1.1 ?_))))
    rw [wo, rowOk, shl_pw _ hx.1.1 hx.1.2, hi2]
    have ih := ih (n + 1) (by omega)
    rw [← wrap_nat (by omega)] at ih
    by_cases h1 : ((rd_Ls_i64 T (n : Int)).length : Int) = pw ((2 : Nat) : Int) (rd_I_Sym s (n : Int)).f1
    · refine Ev.ite_pos h1 ?_
      refine Ev.val (specModel_r s T hT n (by omega) ht (if (rd_I_Sym s (n : Int)).f2 = true then (if indB 2 (rd_Ls_i64 T (n : Int)) = true then wo 2 s T d (n + 1) else false) else wo 2 s T d (n + 1)) (fun h2 => ?_) (rd_Ls_i64 T (n : Int)).length 0 (by omega) rfl) ?_
      · by_cases h3 : (rd_I_Sym s (n : Int)).f2 = true
        · have hl2 := h1
          rw [hx.2 h3] at hl2
          have hl2 : (rd_Ls_i64 T (n : Int)).length = 4 := by
            have : pw ((2 : Nat) : Int) 2 = 4 := by decide
            omega
          rw [if_pos h3]
          refine Ev.ite_pos h3 (Ev.bind (specBl_ev T n (by omega) hl2 h2) ?_)
          by_cases h4 : indB 2 (rd_Ls_i64 T (n : Int)) = true
          · rw [if_pos h4]; exact Ev.ite_pos h4 ih
          · rw [if_neg h4]; exact Ev.ite_neg h4 Ev.some
        · rw [if_neg h3]; exact Ev.ite_neg h3 ih
      · by_cases h2 : bd 1 (rd_Ls_i64 T (n : Int)) (rd_Ls_i64 T (n : Int)).length 0 = true
        · by_cases h3 : (rd_I_Sym s (n : Int)).f2 = true
          · by_cases h4 : indB 2 (rd_Ls_i64 T (n : Int)) = true
            · simp [h1, h2, h3, h4]
            · simp [h1, h2, h3, h4]
          · simp [h1, h2, h3]
        · simp [h2]
    · exact Ev.ite_neg h1 (Ev.val Ev.some (by rw [decide_eq_false h1]; rfl))
theorem specModelOk_ev (s : List I_Sym) (T : List (List Int)) (hl : s.length ≤ maxLen) (hn : ∀ x ∈ s, x.f0.size ≤ maxLen) (ht : ∀ x ∈ T, x.length ≤ maxLen) : Ev (fun k => spec_ModelOk.f k s T) (worldOk s 2 T) := by
  unfold spec_ModelOk.f worldOk
  have h2 : inR 2 1 4 = true := by decide
  refine Ev.bind (specSigOk_ev s hl hn) ?_
  have hf : Ev (fun k => spec_ModelOk.j0 k s true T) false := by
    refine Ev.step (fun k => by simp only [spec_ModelOk.j0]; rfl) ?_
    exact Ev.some
  by_cases h1 : sigOk s = true
  · refine Ev.ite_pos h1 (Ev.step (fun k => by simp only [spec_ModelOk.j0]; rfl) ?_)
    by_cases h3 : T.length = s.length
    · exact Ev.ite_neg (by simp [h3]) (Ev.val (specModel_l s T h1 hl h3 ht s.length 0 (by omega)) (by simp [h1, h2, h3]))
    · exact Ev.ite_pos (by simp; omega) (Ev.val Ev.some (by simp [h3]))
  · exact Ev.ite_neg h1 (Ev.val hf (by simp [h1]))
theorem implModelOk_ev (s : List I_Sym) (T : List (List Int)) (hl : s.length ≤ maxLen) (hn : ∀ x ∈ s, x.f0.size ≤ maxLen) (ht : ∀ x ∈ T, x.length ≤ maxLen) : Ev (fun k => impl_ModelOk.f k s T) (worldOk s 2 T) := by
  unfold impl_ModelOk.f
  refine Ev.bind (Ev.cst rfl) ?_
  exact Ev.bind (implWorldOk_ev s 2 T hl hn ht) Ev.some
/-! #### which functions are blind -/
theorem specIn_ev (a b c : Int) : spec_l1In.f a b c = some (decide (b ≤ a) && decide (a ≤ c)) := by
  unfold spec_l1In.f
  by_cases h : a ≥ b
  · rw [if_pos h]; simp [show b ≤ a from h]
  · rw [if_neg h]; simp [show ¬ b ≤ a from h]
theorem implIn_ev (a b c : Int) : impl_from.f a b c = some (decide (b ≤ a) && decide (a ≤ c)) := by
  unfold impl_from.f
  by_cases h : a ≥ b
  · rw [if_pos h]; simp [show b ≤ a from h]
  · rw [if_neg h]; simp [show ¬ b ≤ a from h]
def isSym (l : List I_Sym) (f : Int) : Bool := decide (0 ≤ f) && decide (f ≤ (l.length : Int) - 1)
def blind (l : List I_Sym) (f : Int) : Bool := isSym l f && (rd_I_Sym l f).f2
theorem len_wrap {l : List I_Sym} (hl : l.length ≤ maxLen) : wrap64 ((l.length : Int) - 1) = (l.length : Int) - 1 := by
  have hm : maxLen = 9223372036854775807 := rfl
  exact wrap_id (by omega) (by omega)
theorem implIsSym_ev (l : List I_Sym) (hl : l.length ≤ maxLen) (f : Int) : impl_isSym.f l f = some (isSym l f) := by
  unfold impl_isSym.f
  rw [len_wrap hl, implIn_ev, Option.bind_some]
  rfl
theorem implBlind_ev (l : List I_Sym) (hl : l.length ≤ maxLen) (f : Int) : impl_Blind.f l f = some (blind l f) := by
  unfold impl_Blind.f
  rw [implIsSym_ev l hl, Option.bind_some]
  unfold blind isSym
  by_cases h0 : 0 ≤ f <;> by_cases h1 : f ≤ (l.length : Int) - 1 <;> simp [h0, h1]
  omega
theorem elSymS_len {l : List I_Sym} (h : el_SymS l ≤ maxLen) : l.length ≤ maxLen := by unfold el_SymS at h; omega
/-! #### terms: which comes before which -/
theorem mem_el {l : List I_Term} {y : I_Term} (h : y ∈ l) : el_Term y + 1 ≤ el_TermS l := by
  rw [el_TermS_eq]
  exact mem_size el_Term h
theorem el_len (l : List I_Term) : l.length ≤ el_TermS l := by rw [el_TermS_eq]; omega
theorem wrap01 : wrap64 (0 + 1) = 1 := by decide +kernel
theorem wrap11 : wrap64 (1 + 1) = 2 := by decide +kernel
theorem wrap21 : wrap64 (2 + 1) = 3 := by decide +kernel
theorem cmp_head (x0 y0 x1 y1 x2 y2 : Int) (a0 a1 : Int) (la : List I_Term) (b0 b1 : Int) (lb : List I_Term) (c : Int) (h : x0 = y0 → x1 = y1 → x2 = y2 → Ev (fun k => impl_compare.l1 k (la.length : Int) 0 a0 a1 la b0 b1 lb) c) :
    Ev (fun k => impl_compare.l0 k [(⟨x0, y0⟩ : A2_i64), ⟨x1, y1⟩, ⟨x2, y2⟩] 3 0 a0 a1 la b0 b1 lb) (if x0 < y0 then -1 else if x0 > y0 then 1 else if x1 < y1 then -1 else if x1 > y1 then 1 else if x2 < y2 then -1 else if x2 > y2 then 1 else c) := by
  refine Ev.step (fun k => by simp only [impl_compare.l0]; rfl) (Ev.ite_pos (by decide) (Ev.ite_pos (by decide) (Ev.ite_pos (by simp) ?_)))
  show Ev (fun k => if x0 < y0 then some (-1) else if x0 > y0 then some 1 else _) _
  by_cases h0 : x0 < y0
  · rw [if_pos h0]; exact Ev.ite_pos h0 Ev.some
  rw [if_neg h0]; refine Ev.ite_neg h0 ?_
  by_cases h1 : x0 > y0
  · rw [if_pos h1]; exact Ev.ite_pos h1 Ev.some
  rw [if_neg h1]; refine Ev.ite_neg h1 ?_
  rw [wrap01]
  refine Ev.step (fun k => by simp only [impl_compare.l0]; rfl) (Ev.ite_pos (by decide) (Ev.ite_pos (by decide) (Ev.ite_pos (by simp) ?_)))
  show Ev (fun k => if x1 < y1 then some (-1) else if x1 > y1 then some 1 else _) _
  by_cases h2 : x1 < y1
  · rw [if_pos h2]; exact Ev.ite_pos h2 Ev.some
  rw [if_neg h2]; refine Ev.ite_neg h2 ?_
  by_cases h3 : x1 > y1
  · rw [if_pos h3]; exact Ev.ite_pos h3 Ev.some
  rw [if_neg h3]; refine Ev.ite_neg h3 ?_
  rw [wrap11]
  refine Ev.step (fun k => by simp only [impl_compare.l0]; rfl) (Ev.ite_pos (by decide) (Ev.ite_pos (by decide) (Ev.ite_pos (by simp) ?_)))
  show Ev (fun k => if x2 < y2 then some (-1) else if x2 > y2 then some 1 else _) _
  by_cases h4 : x2 < y2
  · rw [if_pos h4]; exact Ev.ite_pos h4 Ev.some
  rw [if_neg h4]; refine Ev.ite_neg h4 ?_
  by_cases h5 : x2 > y2
  · rw [if_pos h5]; exact Ev.ite_pos h5 Ev.some
  rw [if_neg h5]; refine Ev.ite_neg h5 ?_
  rw [wrap21]
  exact Ev.step (fun k => by simp only [impl_compare.l0]; rfl) (Ev.ite_neg (by decide) (h (by omega) (by omega) (by omega)))
/-- what is told of two terms: their order, whether they are the same, whether the one comes before the other -/
def Cmp (a b : I_Term) (c : Int) : Prop := Ev (fun k => impl_compare.f k a.f0 a.f1 a.f2 b.f0 b.f1 b.f2) c ∧ Ev (fun k => spec_TermSame.f k a.f0 a.f1 a.f2 b.f0 b.f1 b.f2) (decide (c = 0)) ∧ Ev (fun k => spec_Before.f k a.f0 a.f1 a.f2 b.f0 b.f1 b.f2) (decide (c < 0))
theorem cmp_loop (a0 a1 : Int) (la : List I_Term) (b0 b1 : Int) (lb : List I_Term) (hl : la.length ≤ maxLen) (he : la.length = lb.length) (hk : ∀ x ∈ la, ∀ y ∈ lb, ∃ c, Cmp x y c) : ∀ d n : Nat, n + d = la.length →
    ∃ c, Ev (fun k => impl_compare.l1 k (la.length : Int) (n : Int) a0 a1 la b0 b1 lb) c ∧ Ev (fun k => spec_TermSame.l0 k (n : Int) a0 a1 la b0 b1 lb) (decide (c = 0)) ∧ Ev (fun k => spec_Before.l0 k (n : Int) a0 a1 la b0 b1 lb) (decide (c < 0)) := by
  intro d
  induction d with
  | zero =>
    intro n hd
    refine ⟨0, ?_, ?_, ?_⟩
    · exact Ev.step (fun k => by simp only [impl_compare.l1]; rfl) (Ev.ite_neg (by omega) Ev.some)
    · exact Ev.step (fun k => by simp only [spec_TermSame.l0]; rfl) (Ev.ite_neg (by omega) Ev.some)
    · exact Ev.step (fun k => by simp only [spec_Before.l0]; rfl) (Ev.ite_neg (by omega) Ev.some)
  | succ d ih =>
    intro n hd
    obtain ⟨c, h1, h2, h3⟩ := hk _ (getD_mem la zI_Term n (by omega)) _ (getD_mem lb zI_Term n (by omega))
    obtain ⟨c', i1, i2, i3⟩ := ih (n + 1) (by omega)
    rw [← wrap_nat (by omega)] at i1 i2 i3
    by_cases hc : c = 0
    · refine ⟨c', ?_, ?_, ?_⟩
      · refine Ev.step (fun k => by simp only [impl_compare.l1]; rfl) (Ev.ite_pos (by omega) (Ev.ite_pos (by omega) (Ev.ite_pos (by omega) (Ev.ite_pos (by omega) (Ev.bind h1 ?_)))))
        exact Ev.ite_pos hc i1
      · refine Ev.step (fun k => by simp only [spec_TermSame.l0]; rfl) (Ev.ite_pos (by omega) (Ev.ite_pos (by omega) (Ev.ite_pos (by omega) (Ev.bind h2 ?_))))
        exact Ev.ite_pos (decide_eq_true hc) i2
      · refine Ev.step (fun k => by simp only [spec_Before.l0]; rfl) (Ev.ite_pos (by omega) (Ev.ite_pos (by omega) (Ev.ite_pos (by omega) (Ev.bind h2 ?_))))
        exact Ev.ite_pos (decide_eq_true hc) i3
    · refine ⟨c, ?_, ?_, ?_⟩
      · refine Ev.step (fun k => by simp only [impl_compare.l1]; rfl) (Ev.ite_pos (by omega) (Ev.ite_pos (by omega) (Ev.ite_pos (by omega) (Ev.ite_pos (by omega) (Ev.bind h1 ?_)))))
        exact Ev.ite_neg hc Ev.some
      · refine Ev.step (fun k => by simp only [spec_TermSame.l0]; rfl) (Ev.ite_pos (by omega) (Ev.ite_pos (by omega) (Ev.ite_pos (by omega) (Ev.bind h2 ?_))))
        rw [decide_eq_false hc]
        exact Ev.ite_neg (by decide) Ev.some
      · refine Ev.step (fun k => by simp only [spec_Before.l0]; rfl) (Ev.ite_pos (by omega) (Ev.ite_pos (by omega) (Ev.ite_pos (by omega) (Ev.bind h2 ?_))))
        rw [decide_eq_false hc]
        exact Ev.ite_neg (by decide) (Ev.bind h3 Ev.some)
theorem cmp_ex (n : Nat) : ∀ a : I_Term, el_Term a ≤ n → el_Term a ≤ maxLen → ∀ b : I_Term, ∃ c, Cmp a b c := by
  induction n using Nat.strongRecOn with
  | _ n ih =>
  intro a hn hm b
  have hl : a.f2.length ≤ maxLen := by have := el_len a.f2; rw [el_Term_eq] at hm; omega
  have hk : ∀ x ∈ a.f2, ∀ y ∈ b.f2, ∃ c, Cmp x y c := fun x hx y _ => ih (el_Term x) (by have := mem_el hx; rw [el_Term_eq] at hn; omega) x (Nat.le_refl _) (by have := mem_el hx; rw [el_Term_eq] at hm; omega) y
  have fin : ∀ c : Int, (a.f0 = b.f0 → a.f1 = b.f1 → (a.f2.length : Int) = (b.f2.length : Int) → Ev (fun k => impl_compare.l1 k (a.f2.length : Int) 0 a.f0 a.f1 a.f2 b.f0 b.f1 b.f2) c ∧ Ev (fun k => spec_TermSame.l0 k 0 a.f0 a.f1 a.f2 b.f0 b.f1 b.f2) (decide (c = 0)) ∧ Ev (fun k => spec_Before.l0 k 0 a.f0 a.f1 a.f2 b.f0 b.f1 b.f2) (decide (c < 0))) → ∃ c, Cmp a b c := by
    intro c hc
    refine ⟨_, Ev.step (fun k => by simp only [impl_compare.f]; rfl) (Ev.bind Ev.some (cmp_head _ _ _ _ _ _ _ _ _ _ _ _ c (fun e0 e1 e2 => (hc e0 e1 e2).1))), ?_, ?_⟩
    · refine Ev.step (fun k => by simp only [spec_TermSame.f]; rfl) ?_
      have hj : Ev (fun k => spec_TermSame.j0 k true a.f0 a.f1 a.f2 b.f0 b.f1 b.f2) false := by
        refine Ev.step (fun k => by simp only [spec_TermSame.j0]; rfl) ?_
        exact Ev.some
      by_cases e0 : a.f0 = b.f0
      · refine Ev.ite_pos e0 ?_
        rw [if_neg (by omega), if_neg (by omega)]
        by_cases e1 : a.f1 = b.f1
        · refine Ev.ite_pos e1 ?_
          rw [if_neg (by omega), if_neg (by omega)]
          by_cases e2 : (a.f2.length : Int) = (b.f2.length : Int)
          · rw [if_neg (by omega), if_neg (by omega)]
            refine Ev.step (fun k => by simp only [spec_TermSame.j0]; rfl) ?_
            exact Ev.ite_neg (by simp [e2]) (hc e0 e1 e2).2.1
          · refine Ev.step (fun k => by simp only [spec_TermSame.j0]; rfl) ?_
            refine Ev.ite_pos (by simp [e2]) (Ev.val Ev.some ?_)
            by_cases h : (a.f2.length : Int) < (b.f2.length : Int)
            · rw [if_pos h]; decide
            · rw [if_neg h, if_pos (by omega)]; decide
        · refine Ev.ite_neg e1 (Ev.val hj ?_)
          by_cases h : a.f1 < b.f1
          · rw [if_pos h]; decide
          · rw [if_neg h, if_pos (by omega)]; decide
      · refine Ev.ite_neg e0 (Ev.val hj ?_)
        by_cases h : a.f0 < b.f0
        · rw [if_pos h]; decide
        · rw [if_neg h, if_pos (by omega)]; decide
    · refine Ev.step (fun k => by simp only [spec_Before.f]; rfl) ?_
      by_cases e0 : a.f0 = b.f0
      · refine Ev.ite_pos e0 ?_
        rw [if_neg (by omega), if_neg (by omega)]
        by_cases e1 : a.f1 = b.f1
        · refine Ev.ite_pos e1 ?_
          rw [if_neg (by omega), if_neg (by omega)]
          by_cases e2 : (a.f2.length : Int) = (b.f2.length : Int)
          · rw [if_neg (by omega), if_neg (by omega)]
            exact Ev.ite_pos e2 (hc e0 e1 e2).2.2
          · refine Ev.ite_neg e2 (Ev.val Ev.some ?_)
            by_cases h : (a.f2.length : Int) < (b.f2.length : Int)
            · rw [if_pos h, decide_eq_true h]; decide
            · rw [if_neg h, if_pos (by omega), decide_eq_false h]; decide
        · refine Ev.ite_neg e1 (Ev.val Ev.some ?_)
          by_cases h : a.f1 < b.f1
          · rw [if_pos h, decide_eq_true h]; decide
          · rw [if_neg h, if_pos (by omega), decide_eq_false h]; decide
      · refine Ev.ite_neg e0 (Ev.val Ev.some ?_)
        by_cases h : a.f0 < b.f0
        · rw [if_pos h, decide_eq_true h]; decide
        · rw [if_neg h, if_pos (by omega), decide_eq_false h]; decide
  by_cases he : a.f2.length = b.f2.length
  · obtain ⟨c, h⟩ := cmp_loop a.f0 a.f1 a.f2 b.f0 b.f1 b.f2 hl he hk a.f2.length 0 (by omega)
    exact fin c (fun _ _ _ => h)
  · exact fin 0 (fun _ _ e => absurd e (by omega))
/-- as the program's Before has it -/
theorem before_ex {a : I_Term} (hm : el_Term a ≤ maxLen) (b : I_Term) : ∃ p : Bool, Ev (fun k => spec_Before.f k a.f0 a.f1 a.f2 b.f0 b.f1 b.f2) p ∧ Ev (fun k => impl_Before.f k a.f0 a.f1 a.f2 b.f0 b.f1 b.f2) p := by
  obtain ⟨c, h1, _, h3⟩ := cmp_ex (el_Term a) a (Nat.le_refl _) hm b
  refine ⟨_, h3, ?_⟩
  unfold impl_Before.f
  exact Ev.bind h1 Ev.some
/-! #### terms that are right, and how many parts they have -/
def parts (l : List I_Term) : Nat := (l.map fun x => el_Term x + 1).sum
theorem parts_el (l : List I_Term) : parts l = el_TermS l := by
  rw [el_TermS_eq]
  unfold parts
  induction l with
  | nil => rfl
  | cons a l ih => simp only [List.map_cons, List.sum_cons, List.length_cons, ih]; omega
theorem parts_drop {l : List I_Term} {n : Nat} (h : n < l.length) : parts (l.drop n) = (el_Term (rd_I_Term l (n : Int)) + 1) + parts (l.drop (n + 1)) := by
  rw [getD_drop l zI_Term n h]
  rfl
theorem specParts_ev (n : Nat) : ∀ t : I_Term, el_Term t ≤ n → el_Term t + 1 ≤ maxLen → Ev (fun k => spec_Parts.f k t.f0 t.f1 t.f2) ((el_Term t + 1 : Nat) : Int) := by
  have hM : maxLen = 9223372036854775807 := rfl
  induction n using Nat.strongRecOn with
  | _ n ih =>
  intro t hn hm
  have hl : t.f2.length ≤ maxLen := by have := el_len t.f2; rw [el_Term_eq] at hm; omega
  have loop : ∀ d n m : Nat, n + d = t.f2.length → m + parts (t.f2.drop n) ≤ maxLen → Ev (fun k => spec_Parts.l0 k (m : Int) (n : Int) t.f0 t.f1 t.f2) ((m + parts (t.f2.drop n) : Nat) : Int) := by
    intro d
    induction d with
    | zero =>
      intro n m hd hp
      refine Ev.step (fun k => by simp only [spec_Parts.l0]; rfl) (Ev.ite_neg (by omega) (Ev.val Ev.some ?_))
      rw [List.drop_of_length_le (by omega)]
      rfl
    | succ d ih2 =>
      intro n m hd hp
      have hx := getD_mem t.f2 zI_Term n (by omega)
      have e := parts_drop (l := t.f2) (n := n) (by omega)
      have hk := ih (el_Term (rd_I_Term t.f2 (n : Int))) (by have := mem_el hx; rw [el_Term_eq] at hn; show el_Term (t.f2.getD n zI_Term) < _; omega) (rd_I_Term t.f2 (n : Int)) (Nat.le_refl _) (by omega)
      refine Ev.step (fun k => by simp only [spec_Parts.l0]; rfl) (Ev.ite_pos (by omega) (Ev.ite_pos (by omega) (Ev.bind hk ?_)))
      rw [wrap_nat (by omega), wrap_id (by omega) (by omega)]
      have := ih2 (n + 1) (m + (el_Term (rd_I_Term t.f2 (n : Int)) + 1)) (by omega) (by omega)
      rw [e]
      rw [show (m : Int) + ((el_Term (rd_I_Term t.f2 (n : Int)) + 1 : Nat) : Int) = ((m + (el_Term (rd_I_Term t.f2 (n : Int)) + 1) : Nat) : Int) from by omega]
      exact Ev.val this (by omega)
  refine Ev.step (fun k => by simp only [spec_Parts.f]; rfl) ?_
  have := loop t.f2.length 0 1 (by omega) (by rw [List.drop_zero, parts_el, ← el_Term_eq]; omega)
  rw [List.drop_zero, parts_el, ← el_Term_eq] at this
  exact Ev.val this (by omega)
theorem implEach_ev (n : Nat) : ∀ (t : I_Term) (s : Nat), el_Term t ≤ n → s + el_Term t + 1 ≤ maxLen → Ev (fun k => impl_each_with_impl_Parts_1.f k t.f0 t.f1 t.f2 (s : Int)) ((s + el_Term t + 1 : Nat) : Int) := by
  have hM : maxLen = 9223372036854775807 := rfl
  induction n using Nat.strongRecOn with
  | _ n ih =>
  intro t s hn hm
  have hl : t.f2.length ≤ maxLen := by have := el_len t.f2; rw [el_Term_eq] at hm; omega
  have loop : ∀ d n m : Nat, n + d = t.f2.length → m + parts (t.f2.drop n) ≤ maxLen → Ev (fun k => impl_each_with_impl_Parts_1.l0 k t.f2 (t.f2.length : Int) (n : Int) (m : Int)) ((m + parts (t.f2.drop n) : Nat) : Int) := by
    intro d
    induction d with
    | zero =>
      intro n m hd hp
      refine Ev.step (fun k => by simp only [impl_each_with_impl_Parts_1.l0]; rfl) (Ev.ite_neg (by omega) (Ev.val Ev.some ?_))
      rw [List.drop_of_length_le (by omega)]
      rfl
    | succ d ih2 =>
      intro n m hd hp
      have hx := getD_mem t.f2 zI_Term n (by omega)
      have e := parts_drop (l := t.f2) (n := n) (by omega)
      have hk := ih (el_Term (rd_I_Term t.f2 (n : Int))) (by have := mem_el hx; rw [el_Term_eq] at hn; show el_Term (t.f2.getD n zI_Term) < _; omega) (rd_I_Term t.f2 (n : Int)) m (Nat.le_refl _) (by omega)
      refine Ev.step (fun k => by simp only [impl_each_with_impl_Parts_1.l0]; rfl) (Ev.ite_pos (by omega) (Ev.ite_pos (by omega) (Ev.ite_pos (by omega) (Ev.bind hk ?_))))
      rw [wrap_nat (by omega)]
      have := ih2 (n + 1) (m + el_Term (rd_I_Term t.f2 (n : Int)) + 1) (by omega) (by omega)
      exact Ev.val this (by omega)
  refine Ev.step (fun k => by simp only [impl_each_with_impl_Parts_1.f]; rfl) (Ev.bind (Ev.cst rfl) ?_)
  rw [wrap_nat (by omega)]
  have := loop t.f2.length 0 (s + 1) (by omega) (by rw [List.drop_zero, parts_el, ← el_Term_eq]; omega)
  rw [List.drop_zero, parts_el, ← el_Term_eq] at this
  exact Ev.val this (by omega)
theorem implParts_ev (t : I_Term) (hm : el_Term t + 1 ≤ maxLen) : Ev (fun k => impl_Parts.f k t.f0 t.f1 t.f2) ((el_Term t + 1 : Nat) : Int) := by
  unfold impl_Parts.f
  have := implEach_ev (el_Term t) t 0 (Nat.le_refl _) (by omega)
  rw [show 0 + el_Term t + 1 = el_Term t + 1 from by omega] at this
  exact Ev.bind this Ev.some
/-- a term that is right -/
inductive Good (s : List I_Sym) : I_Term → Prop
  | var (t : I_Term) (hv : t.f0 = -1) (h0 : 0 ≤ t.f1) (h1 : t.f1 ≤ 99) (hk : t.f2.length = 0) : Good s t
  | app (t : I_Term) (h0 : 0 ≤ t.f0) (h1 : t.f0 < (s.length : Int)) (hv : t.f1 = 0) (ha : (rd_I_Sym s t.f0).f2 = true → 2 ≤ t.f2.length) (hb : (rd_I_Sym s t.f0).f2 = false → (t.f2.length : Int) = (rd_I_Sym s t.f0).f1) (hk : ∀ x ∈ t.f2, Good s x) : Good s t
def Rt (s : List I_Sym) (t : I_Term) (b : Bool) : Prop := Ev (fun k => spec_l4Right.f k s t.f0 t.f1 t.f2) b ∧ Ev (fun k => impl_formOk.f k s t.f0 t.f1 t.f2) b ∧ (b = true → Good s t)
def RtL (s : List I_Sym) (f v : Int) (l : List I_Term) (n : Nat) (b : Bool) : Prop := Ev (fun k => spec_l4Right.l0 k s (n : Int) f v l) b ∧ Ev (fun k => impl_formOk.l0 k s l (l.length : Int) (n : Int) f v l) b ∧
  (b = true → ∀ x ∈ l.drop n, Good s x)
theorem right_loop (s : List I_Sym) (f v : Int) (f0 : 0 ≤ f) (f1 : f < (s.length : Int)) (l : List I_Term) (hl : l.length ≤ maxLen) (hm : el_TermS l ≤ maxLen) (hk : ∀ x ∈ l, ∃ b, Rt s x b) : ∀ d n : Nat, n + d = l.length → ∃ b, RtL s f v l n b := by
  intro d
  induction d with
  | zero =>
    intro n hd
    refine ⟨true, ?_, ?_, fun _ x hx => ?_⟩
    · exact Ev.step (fun k => by simp only [spec_l4Right.l0]; rfl) (Ev.ite_neg (by omega) Ev.some)
    · exact Ev.step (fun k => by simp only [impl_formOk.l0]; rfl) (Ev.ite_neg (by omega) Ev.some)
    · rw [List.drop_of_length_le (by omega)] at hx
      cases hx
  | succ d ih =>
    intro n hd
    have hx := getD_mem l zI_Term n (by omega)
    obtain ⟨b, h1, h2, h3⟩ := hk _ hx
    obtain ⟨b', i1, i2, i3⟩ := ih (n + 1) (by omega)
    rw [← wrap_nat (by omega)] at i1 i2
    have rest : b = true → b' = true → ∀ x ∈ l.drop n, Good s x := by
      intro e e' x hx
      rw [getD_drop l zI_Term n (by omega)] at hx
      rcases List.mem_cons.1 hx with rfl | hx
      · exact h3 e
      · exact i3 e' x hx
    have kid1 : Ev (fun k => (spec_l4Right.f k s ((rd_I_Term l (n : Int)).f0) ((rd_I_Term l (n : Int)).f1) ((rd_I_Term l (n : Int)).f2)).bind fun t => (if t = true then (spec_l4Right.l0 k s (wrap64 ((n : Int) + 1)) f v l) else (some false))) (b && b') := by
      refine Ev.bind h1 ?_
      cases b
      · exact Ev.ite_neg (by decide) Ev.some
      · exact Ev.ite_pos rfl i1
    have spec0 : ∀ X : Bool, Ev (fun k => if (rd_I_Sym s f).f2 = true then (if 0 ≤ (n : Int) then (if ((rd_I_Term l (n : Int)).f0) = f then (some false) else (if (n : Int) > 0 then (if 0 ≤ (wrap64 ((n : Int) - 1)) then (if (wrap64 ((n : Int) - 1)) < (l.length : Int) then ((spec_Before.f k ((rd_I_Term l (n : Int)).f0) ((rd_I_Term l (n : Int)).f1) ((rd_I_Term l (n : Int)).f2) ((rd_I_Term l (wrap64 ((n : Int) - 1))).f0) ((rd_I_Term l (wrap64 ((n : Int) - 1))).f1) ((rd_I_Term l (wrap64 ((n : Int) - 1))).f2)).bind fun t226 => (if t226 = true then (some false) else ((spec_l4Right.f k s ((rd_I_Term l (n : Int)).f0) ((rd_I_Term l (n : Int)).f1) ((rd_I_Term l (n : Int)).f2)).bind fun t228 => (if t228 = true then (spec_l4Right.l0 k s (wrap64 ((n : Int) + 1)) f v l) else (some false))))) else (none)) else (none)) else ((spec_l4Right.f k s ((rd_I_Term l (n : Int)).f0) ((rd_I_Term l (n : Int)).f1) ((rd_I_Term l (n : Int)).f2)).bind fun t230 => (if t230 = true then (spec_l4Right.l0 k s (wrap64 ((n : Int) + 1)) f v l) else (some false))))) else (none)) else (if 0 ≤ (n : Int) then ((spec_l4Right.f k s ((rd_I_Term l (n : Int)).f0) ((rd_I_Term l (n : Int)).f1) ((rd_I_Term l (n : Int)).f2)).bind fun t232 => (if t232 = true then (spec_l4Right.l0 k s (wrap64 ((n : Int) + 1)) f v l) else (some false))) else (none))) X → Ev (fun k => spec_l4Right.l0 k s (n : Int) f v l) X := fun X h =>
      Ev.step (fun k => by simp only [spec_l4Right.l0]; rfl) (Ev.ite_pos (by omega) (Ev.ite_pos f0 (Ev.ite_pos f1 h)))
    have impl0 : ∀ X : Bool, (b = true → Ev (fun k => if (rd_I_Sym s f).f2 = true then (if ((rd_I_Term l (n : Int)).f0) = f then (some false) else (if (n : Int) > 0 then (if 0 ≤ (wrap64 ((n : Int) - 1)) then (if (wrap64 ((n : Int) - 1)) < (l.length : Int) then ((impl_Before.f k ((rd_I_Term l (n : Int)).f0) ((rd_I_Term l (n : Int)).f1) ((rd_I_Term l (n : Int)).f2) ((rd_I_Term l (wrap64 ((n : Int) - 1))).f0) ((rd_I_Term l (wrap64 ((n : Int) - 1))).f1) ((rd_I_Term l (wrap64 ((n : Int) - 1))).f2)).bind fun t309 => (if t309 = true then (some false) else (impl_formOk.l0 k s l (l.length : Int) (wrap64 ((n : Int) + 1)) f v l))) else (none)) else (none)) else (impl_formOk.l0 k s l (l.length : Int) (wrap64 ((n : Int) + 1)) f v l))) else (impl_formOk.l0 k s l (l.length : Int) (wrap64 ((n : Int) + 1)) f v l)) X) → (b = false → X = false) → Ev (fun k => impl_formOk.l0 k s l (l.length : Int) (n : Int) f v l) X := fun X h h' => by
      refine Ev.step (fun k => by simp only [impl_formOk.l0]; rfl) (Ev.ite_pos (by omega) (Ev.ite_pos (by omega) (Ev.ite_pos (by omega) (Ev.bind h2 ?_))))
      cases hb : b
      · rw [h' hb]; exact Ev.ite_neg (by decide) Ev.some
      · exact Ev.ite_pos rfl (Ev.ite_pos f0 (Ev.ite_pos f1 (h hb)))
    by_cases hc : (rd_I_Sym s f).f2 = true
    · by_cases hf : (rd_I_Term l (n : Int)).f0 = f
      · refine ⟨false, spec0 _ (Ev.ite_pos hc (Ev.ite_pos (by omega) (Ev.ite_pos hf Ev.some))), impl0 _ (fun _ => Ev.ite_pos hc (Ev.ite_pos hf Ev.some)) (fun _ => rfl), fun e => ?_⟩
        cases e
      · by_cases hn : (n : Int) > 0
        · have hw : wrap64 ((n : Int) - 1) = ((n - 1 : Nat) : Int) := by
            have hM : maxLen = 9223372036854775807 := rfl
            rw [wrap_id (by omega) (by omega)]; omega
          obtain ⟨p, p1, p2⟩ := before_ex (a := rd_I_Term l (n : Int)) (by have := mem_el hx; show el_Term (l.getD n zI_Term) ≤ _; omega) (rd_I_Term l (wrap64 ((n : Int) - 1)))
          cases p
          · refine ⟨b && b', spec0 _ (Ev.ite_pos hc (Ev.ite_pos (by omega) (Ev.ite_neg hf (Ev.ite_pos hn (Ev.ite_pos (by omega) (Ev.ite_pos (by omega) (Ev.bind p1 (Ev.ite_neg (by decide) kid1)))))))), impl0 _ (fun e => Ev.ite_pos hc (Ev.ite_neg hf (Ev.ite_pos hn (Ev.ite_pos (by omega) (Ev.ite_pos (by omega) (Ev.bind p2 (Ev.ite_neg (by decide) (Ev.val i2 (by rw [e]; rfl))))))))) (fun e => by rw [e]; rfl), fun e => ?_⟩
            rw [Bool.and_eq_true] at e
            exact rest e.1 e.2
          · refine ⟨false, spec0 _ (Ev.ite_pos hc (Ev.ite_pos (by omega) (Ev.ite_neg hf (Ev.ite_pos hn (Ev.ite_pos (by omega) (Ev.ite_pos (by omega) (Ev.bind p1 (Ev.ite_pos rfl Ev.some)))))))), impl0 _ (fun e => Ev.ite_pos hc (Ev.ite_neg hf (Ev.ite_pos hn (Ev.ite_pos (by omega) (Ev.ite_pos (by omega) (Ev.bind p2 (Ev.ite_pos rfl Ev.some))))))) (fun e => rfl), fun e => ?_⟩
            cases e
        · refine ⟨b && b', spec0 _ (Ev.ite_pos hc (Ev.ite_pos (by omega) (Ev.ite_neg hf (Ev.ite_neg hn kid1)))), impl0 _ (fun e => Ev.ite_pos hc (Ev.ite_neg hf (Ev.ite_neg hn (Ev.val i2 (by rw [e]; rfl))))) (fun e => by rw [e]; rfl), fun e => ?_⟩
          rw [Bool.and_eq_true] at e
          exact rest e.1 e.2
    · refine ⟨b && b', spec0 _ (Ev.ite_neg hc (Ev.ite_pos (by omega) kid1)), impl0 _ (fun e => Ev.ite_neg hc (Ev.val i2 (by rw [e]; rfl))) (fun e => by rw [e]; rfl), fun e => ?_⟩
      rw [Bool.and_eq_true] at e
      exact rest e.1 e.2
theorem right_ex (s : List I_Sym) (hs : s.length ≤ maxLen) (n : Nat) : ∀ t : I_Term, el_Term t ≤ n → el_Term t ≤ maxLen → ∃ b, Rt s t b := by
  induction n using Nat.strongRecOn with
  | _ n ih =>
  intro t hn hm
  have hl : t.f2.length ≤ maxLen := by have := el_len t.f2; rw [el_Term_eq] at hm; omega
  have hk : ∀ x ∈ t.f2, ∃ b, Rt s x b := fun x hx => ih (el_Term x) (by have := mem_el hx; rw [el_Term_eq] at hn; omega) x (Nat.le_refl _) (by have := mem_el hx; rw [el_Term_eq] at hm; omega)
  by_cases hv : t.f0 = -1
  · refine ⟨inR t.f1 0 99 && ((t.f2.length : Int) == 0), ?_, ?_, fun e => ?_⟩
    · refine Ev.step (fun k => by simp only [spec_l4Right.f]; rfl) (Ev.ite_pos hv (Ev.bind (Ev.cst (specInR _ _ _)) ?_))
      by_cases h : inR t.f1 0 99 = true
      · exact Ev.ite_pos h (Ev.val Ev.some (by rw [h]; rfl))
      · exact Ev.ite_neg h (Ev.val Ev.some (by rw [Bool.not_eq_true] at h; rw [h]; rfl))
    · refine Ev.step (fun k => by simp only [impl_formOk.f]; rfl) (Ev.bind (Ev.cst (r := true) ?_) (Ev.ite_pos rfl (Ev.bind (Ev.cst (implInR _ _ _)) ?_)))
      · unfold impl_isVar.f
        rw [hv]
        rfl
      · by_cases h : inR t.f1 0 99 = true
        · exact Ev.ite_pos h (Ev.val Ev.some (by rw [h]; rfl))
        · exact Ev.ite_neg h (Ev.val Ev.some (by rw [Bool.not_eq_true] at h; rw [h]; rfl))
    · rw [Bool.and_eq_true] at e
      have h0 : t.f2.length = 0 := by have := e.2; simp at this; simp [this]
      have h1 := e.1
      simp [inR] at h1
      exact Good.var t hv (by omega) (by omega) h0
  · have hz : 0 = 0 := rfl
    have specStep : ∀ X : Bool, Ev (fun k => if inR t.f0 0 ((s.length : Int) - 1) = true then (if t.f1 = 0 then (if 0 ≤ t.f0 then (if t.f0 < (s.length : Int) then (if ((rd_I_Sym s t.f0).f2 = true) then (if (rd_I_Sym s t.f0).f2 = true then (spec_l4Right.j0 k s (decide ((t.f2.length : Int) < 2)) t.f0 t.f1 t.f2) else (spec_l4Right.j0 k s false t.f0 t.f1 t.f2)) else (if (t.f2.length : Int) = ((rd_I_Sym s t.f0).f1) then (if (rd_I_Sym s t.f0).f2 = true then (spec_l4Right.j0 k s (decide ((t.f2.length : Int) < 2)) t.f0 t.f1 t.f2) else (spec_l4Right.j0 k s false t.f0 t.f1 t.f2)) else (spec_l4Right.j0 k s true t.f0 t.f1 t.f2))) else (none)) else (none)) else (spec_l4Right.j0 k s true t.f0 t.f1 t.f2)) else (spec_l4Right.j0 k s true t.f0 t.f1 t.f2)) X → Ev (fun k => spec_l4Right.f k s t.f0 t.f1 t.f2) X := fun X h => by
      refine Ev.step (fun k => by simp only [spec_l4Right.f]; rfl) (Ev.ite_neg hv (Ev.bind (Ev.cst (specInR _ _ _)) ?_))
      rw [len_wrap hs]
      exact h
    have implStep : ∀ X : Bool, Ev (fun k => if inR t.f0 0 ((s.length : Int) - 1) = true then (if t.f1 = 0 then (if 0 ≤ t.f0 then (if t.f0 < (s.length : Int) then (if ((rd_I_Sym s t.f0).f2 = true) then (if (rd_I_Sym s t.f0).f2 = true then (impl_formOk.j0 k s (decide ((t.f2.length : Int) < 2)) t.f0 t.f1 t.f2) else (impl_formOk.j0 k s false t.f0 t.f1 t.f2)) else (if (t.f2.length : Int) = ((rd_I_Sym s t.f0).f1) then (if (rd_I_Sym s t.f0).f2 = true then (impl_formOk.j0 k s (decide ((t.f2.length : Int) < 2)) t.f0 t.f1 t.f2) else (impl_formOk.j0 k s false t.f0 t.f1 t.f2)) else (impl_formOk.j0 k s true t.f0 t.f1 t.f2))) else (none)) else (none)) else (impl_formOk.j0 k s true t.f0 t.f1 t.f2)) else (impl_formOk.j0 k s true t.f0 t.f1 t.f2)) X → Ev (fun k => impl_formOk.f k s t.f0 t.f1 t.f2) X := fun X h => by
      refine Ev.step (fun k => by simp only [impl_formOk.f]; rfl) (Ev.bind (Ev.cst (r := false) ?_) ?_)
      · unfold impl_isVar.f
        simp [hv]
      · refine Ev.ite_neg (by decide) (Ev.bind (Ev.cst (r := inR t.f0 0 ((s.length : Int) - 1)) ?_) h)
        unfold impl_isSym.f
        rw [len_wrap hs, implInR]
        rfl
    have sT : Ev (fun k => spec_l4Right.j0 k s true t.f0 t.f1 t.f2) false := by
      refine Ev.step (fun k => by simp only [spec_l4Right.j0]; rfl) ?_
      exact Ev.some
    have iT : Ev (fun k => impl_formOk.j0 k s true t.f0 t.f1 t.f2) false := by
      refine Ev.step (fun k => by simp only [impl_formOk.j0]; rfl) ?_
      exact Ev.some
    by_cases h1 : inR t.f0 0 ((s.length : Int) - 1) = true
    · have h1' := h1
      simp [inR] at h1'
      by_cases h2 : t.f1 = 0
      · obtain ⟨b, l1, l2, l3⟩ := right_loop s t.f0 t.f1 (by omega) (by omega) t.f2 hl (by rw [← el_Term_eq]; exact hm) hk t.f2.length 0 (by omega)
        have j0 : ∀ D : Bool, Ev (fun k => spec_l4Right.j0 k s D t.f0 t.f1 t.f2) (!D && b) ∧ Ev (fun k => impl_formOk.j0 k s D t.f0 t.f1 t.f2) (!D && b) := by
          intro D
          cases D
          · exact ⟨Ev.step (f := fun k => spec_l4Right.l0 k s 0 t.f0 t.f1 t.f2) (fun k => by simp [spec_l4Right.j0]) (Ev.val l1 (by simp)), Ev.step (f := fun k => impl_formOk.l0 k s t.f2 (t.f2.length : Int) 0 t.f0 t.f1 t.f2) (fun k => by simp [impl_formOk.j0]) (Ev.val l2 (by simp))⟩
          · exact ⟨Ev.val sT (by simp), Ev.val iT (by simp)⟩
        by_cases h3 : (rd_I_Sym s t.f0).f2 = true
        · refine ⟨!(decide ((t.f2.length : Int) < 2)) && b, specStep _ (Ev.ite_pos h1 (Ev.ite_pos h2 (Ev.ite_pos (by omega) (Ev.ite_pos (by omega) (Ev.ite_pos h3 (Ev.ite_pos h3 (j0 _).1)))))), implStep _ (Ev.ite_pos h1 (Ev.ite_pos h2 (Ev.ite_pos (by omega) (Ev.ite_pos (by omega) (Ev.ite_pos h3 (Ev.ite_pos h3 (j0 _).2)))))), fun e => ?_⟩
          rw [Bool.and_eq_true] at e
          have h5 := e.1
          simp at h5
          exact Good.app t (by omega) (by omega) h2 (fun _ => by omega) (fun e => absurd h3 (by rw [e]; decide)) (by have := l3 e.2; rwa [List.drop_zero] at this)
        · by_cases h4 : (t.f2.length : Int) = ((rd_I_Sym s t.f0).f1)
          · refine ⟨!false && b, specStep _ (Ev.ite_pos h1 (Ev.ite_pos h2 (Ev.ite_pos (by omega) (Ev.ite_pos (by omega) (Ev.ite_neg h3 (Ev.ite_pos h4 (Ev.ite_neg h3 (j0 _).1))))))), implStep _ (Ev.ite_pos h1 (Ev.ite_pos h2 (Ev.ite_pos (by omega) (Ev.ite_pos (by omega) (Ev.ite_neg h3 (Ev.ite_pos h4 (Ev.ite_neg h3 (j0 _).2))))))), fun e => ?_⟩
            rw [Bool.and_eq_true] at e
            exact Good.app t (by omega) (by omega) h2 (fun e => absurd e h3) (fun _ => h4) (by have := l3 e.2; rwa [List.drop_zero] at this)
          · exact ⟨false, specStep _ (Ev.ite_pos h1 (Ev.ite_pos h2 (Ev.ite_pos (by omega) (Ev.ite_pos (by omega) (Ev.ite_neg h3 (Ev.ite_neg h4 sT)))))), implStep _ (Ev.ite_pos h1 (Ev.ite_pos h2 (Ev.ite_pos (by omega) (Ev.ite_pos (by omega) (Ev.ite_neg h3 (Ev.ite_neg h4 iT)))))), fun e => by cases e⟩
      · exact ⟨false, specStep _ (Ev.ite_pos h1 (Ev.ite_neg h2 sT)), implStep _ (Ev.ite_pos h1 (Ev.ite_neg h2 iT)), fun e => by cases e⟩
    · exact ⟨false, specStep _ (Ev.ite_neg h1 sT), implStep _ (Ev.ite_neg h1 iT), fun e => by cases e⟩
theorem termOk_ex (s : List I_Sym) (hs : s.length ≤ maxLen) (hn : ∀ x ∈ s, x.f0.size ≤ maxLen) (t : I_Term) (hm : el_Term t + 1 ≤ maxLen) : ∃ b : Bool, Ev (fun k => spec_TermOk.f k s t.f0 t.f1 t.f2) b ∧ Ev (fun k => impl_TermOk.f k s t.f0 t.f1 t.f2) b ∧ (b = true → Good s t) := by
  obtain ⟨b, h1, h2, h3⟩ := right_ex s hs (el_Term t) t (Nat.le_refl _) (by omega)
  unfold spec_TermOk.f impl_TermOk.f
  by_cases hg : sigOk s = true
  · by_cases hp : ((el_Term t + 1 : Nat) : Int) ≤ 60
    · exact ⟨b, Ev.bind (specSigOk_ev s hs hn) (Ev.ite_pos hg (Ev.bind (specParts_ev _ t (Nat.le_refl _) hm) (Ev.ite_pos hp (Ev.bind h1 Ev.some)))), Ev.bind (implSigOk_ev s hs hn) (Ev.ite_pos hg (Ev.bind (implParts_ev t hm) (Ev.ite_pos hp (Ev.bind h2 Ev.some)))), h3⟩
    · exact ⟨false, Ev.bind (specSigOk_ev s hs hn) (Ev.ite_pos hg (Ev.bind (specParts_ev _ t (Nat.le_refl _) hm) (Ev.ite_neg hp Ev.some))), Ev.bind (implSigOk_ev s hs hn) (Ev.ite_pos hg (Ev.bind (implParts_ev t hm) (Ev.ite_neg hp Ev.some))), fun e => by cases e⟩
  · exact ⟨false, Ev.bind (specSigOk_ev s hs hn) (Ev.ite_neg hg Ev.some), Ev.bind (implSigOk_ev s hs hn) (Ev.ite_neg hg Ev.some), fun e => by cases e⟩
/-! #### what a term is in a world -/
theorem wo_all {z : Nat} {s : List I_Sym} {T : List (List Int)} : ∀ d n : Nat, wo z s T d n = true → ∀ m, n ≤ m → m < n + d → rowOk z (rd_I_Sym s (m : Int)) (rd_Ls_i64 T (m : Int)) = true := by
  intro d
  induction d with
  | zero => intro n h m a b; omega
  | succ d ih =>
    intro n h m a b
    rw [wo] at h
    by_cases e : rowOk z (rd_I_Sym s (n : Int)) (rd_Ls_i64 T (n : Int)) = true
    · rw [if_pos e] at h
      by_cases e2 : m = n
      · subst e2; exact e
      · exact ih (n + 1) h m (by omega) (by omega)
    · rw [if_neg e] at h
      cases h
/-- what is known of a world that is right, function by function -/
structure Row (s : List I_Sym) (z : Int) (T : List (List Int)) (f : Int) : Prop where
  lt : f < (T.length : Int)
  ar : 0 ≤ (rd_I_Sym s f).f1 ∧ (rd_I_Sym s f).f1 ≤ 3
  ac : (rd_I_Sym s f).f2 = true → (rd_I_Sym s f).f1 = 2
  len : ((rd_Ls_i64 T f).length : Int) = pw z (rd_I_Sym s f).f1
  val : ∀ i : Int, 0 ≤ i → i < ((rd_Ls_i64 T f).length : Int) → 0 ≤ rd (rd_Ls_i64 T f) i ∧ rd (rd_Ls_i64 T f) i < z
theorem world_row {s : List I_Sym} {z : Int} {T : List (List Int)} (h : worldOk s z T = true) : (z = 1 ∨ z = 2 ∨ z = 3 ∨ z = 4) ∧ ∀ f : Int, 0 ≤ f → f < (s.length : Int) → Row s z T f := by
  unfold worldOk at h
  simp only [Bool.and_eq_true, decide_eq_true_eq] at h
  obtain ⟨h1, h2, h3, h4⟩ := h
  simp [inR] at h2
  refine ⟨by omega, fun f f0 f1 => ?_⟩
  obtain ⟨n, rfl⟩ : ∃ n : Nat, f = n := ⟨f.toNat, by omega⟩
  have g := wo_all s.length 0 h4 n (by omega) (by omega)
  have sg := sig_at h1 (n := n) (by omega)
  unfold rowOk at g
  simp only [Bool.and_eq_true, decide_eq_true_eq] at g
  obtain ⟨y, rfl⟩ : ∃ y : Nat, z = y := ⟨z.toNat, by omega⟩
  rw [Int.toNat_natCast] at g
  have w : wrap64 ((y : Int) - 1) = (y : Int) - 1 := wrap_id (by omega) (by omega)
  refine ⟨by omega, sg.1, sg.2, g.1, fun i i0 i1 => ?_⟩
  obtain ⟨m, rfl⟩ : ∃ m : Nat, i = m := ⟨i.toNat, by omega⟩
  have := bd_all _ _ _ 0 g.2.1 m (by omega) (by omega)
  rw [w] at this
  omega
theorem op_rng {z : Int} (hz : z = 1 ∨ z = 2 ∨ z = 3 ∨ z = 4) {t : List Int} (hl : (t.length : Int) = z * z) {a b : Int} (a0 : 0 ≤ a) (a1 : a < z) (b0 : 0 ≤ b) (b1 : b < z) : 0 ≤ wrap64 (a + (wrap64 (z * b))) ∧ wrap64 (a + (wrap64 (z * b))) < (t.length : Int) := opR' hz hl a0 a1 b0 b1
theorem tmod_rng (e : Int) {z : Int} (hz : z = 1 ∨ z = 2 ∨ z = 3 ∨ z = 4) : -z < Int.tmod e z ∧ Int.tmod e z < z := by
  have h0 : 0 < z := by omega
  exact ⟨Int.lt_tmod_of_pos e h0, Int.tmod_lt_of_pos e h0⟩
theorem tmod_up {x z : Int} (h0 : 0 < z) (h1 : -z < x) (h2 : x < z) : Int.tmod (x + z) z = if x < 0 then x + z else x := by
  rw [Int.tmod_eq_emod_of_nonneg (by omega)]
  by_cases h : x < 0
  · rw [if_pos h, Int.emod_eq_of_lt (by omega) (by omega)]
  · rw [if_neg h, Int.add_emod_right, Int.emod_eq_of_lt (by omega) (by omega)]
/-- what a term is: as the reference has it (Sp), as the program has it -/
def Mn (Sp : I_Term → Int → Prop) (s : List I_Sym) (z : Int) (T : List (List Int)) (env : List Int) (t : I_Term) (v : Int) : Prop := (0 ≤ v ∧ v < z) ∧ Sp t v ∧ Ev (fun k => impl_means.f k s z T t.f0 t.f1 t.f2 env) v
/-- blind functions: one after the other -/
def runF (z : Int) (row : List Int) (x : Int) (vs : List Int) : Int := vs.foldl (fun x v => op z row x v) x
theorem run_rng {z : Int} (hz : z = 1 ∨ z = 2 ∨ z = 3 ∨ z = 4) {row : List Int} (hl : (row.length : Int) = z * z) (hr : ∀ i : Int, 0 ≤ i → i < (row.length : Int) → 0 ≤ rd row i ∧ rd row i < z) {x v : Int} (x0 : 0 ≤ x) (x1 : x < z) (v0 : 0 ≤ v) (v1 : v < z) : 0 ≤ op z row x v ∧ op z row x v < z := by
  have := op_rng hz hl x0 x1 v0 v1
  exact hr _ this.1 this.2
theorem impl_run {Sp : I_Term → Int → Prop} {s : List I_Sym} {z : Int} (hz : z = 1 ∨ z = 2 ∨ z = 3 ∨ z = 4) {T : List (List Int)} {row : List Int} (hr : ∀ i : Int, 0 ≤ i → i < (row.length : Int) → 0 ≤ rd row i ∧ rd row i < z) (hl : (row.length : Int) = z * z) (env : List Int) (l : List I_Term) (vs : List Int) (hv : vs.length = l.length) (hll : l.length ≤ 1048576) (hk : ∀ n : Nat, n < l.length → Mn Sp s z T env (rd_I_Term l (n : Int)) (rd vs (n : Int))) : ∀ (d n : Nat) (x : Int), n + d = l.length → 0 ≤ x → x < z →
    Ev (fun k => impl_means.l0 k s env row x l (l.length : Int) (n : Int) z T) (runF z row x (vs.drop n)) := by
  have hM : maxLen = 9223372036854775807 := rfl
  intro d
  induction d with
  | zero =>
    intro n x hd x0 x1
    rw [List.drop_of_length_le (by omega)]
    exact Ev.step (fun k => by simp only [impl_means.l0]; rfl) (Ev.ite_neg (by omega) Ev.some)
  | succ d ih =>
    intro n x hd x0 x1
    have hn := hk n (by omega)
    have g := run_rng hz hl hr x0 x1 hn.1.1 hn.1.2
    have r := op_rng hz hl x0 x1 hn.1.1 hn.1.2
    have ih := ih (n + 1) (op z row x (rd vs (n : Int))) (by omega) g.1 g.2
    rw [getD_drop vs 0 n (by omega)]
    have e : runF z row x (vs.getD n 0 :: vs.drop (n + 1)) = runF z row (op z row x (rd vs (n : Int))) (vs.drop (n + 1)) := rfl
    rw [e]
    refine Ev.step (fun k => by simp only [impl_means.l0]; rfl) (Ev.ite_pos (by omega) (Ev.ite_pos (by omega) (Ev.ite_pos (by omega) (Ev.bind hn.2.2 (Ev.ite_pos r.1 (Ev.ite_pos r.2 ?_))))))
    rw [wrap_nat (by omega)]
    exact ih
theorem l1_end {s : List I_Sym} {z : Int} {T : List (List Int)} (env row : List Int) (l : List I_Term) (x u : Int) (x0 : 0 ≤ x) (x1 : x < (row.length : Int)) : Ev (fun k => impl_means.l1 k s env row x u l (l.length : Int) (l.length : Int) z T) (rd row x) :=
  Ev.step (fun k => by simp only [impl_means.l1]; rfl) (Ev.ite_neg (by omega) (Ev.ite_pos x0 (Ev.ite_pos x1 Ev.some)))
theorem l1_step {Sp : I_Term → Int → Prop} {s : List I_Sym} {z : Int} {T : List (List Int)} (env row : List Int) (l : List I_Term) (hl : l.length ≤ 1048576) (n : Nat) (hn : n < l.length) (v : Int) (hk : Mn Sp s z T env (rd_I_Term l (n : Int)) v) (x u x' u' : Int) (hx : wrap64 (x + (wrap64 (u * v))) = x') (hu : wrap64 (u * z) = u') (r : Int) (h : Ev (fun k => impl_means.l1 k s env row x' u' l (l.length : Int) ((n + 1 : Nat) : Int) z T) r) : Ev (fun k => impl_means.l1 k s env row x u l (l.length : Int) (n : Int) z T) r := by
  have hM : maxLen = 9223372036854775807 := rfl
  refine Ev.step (fun k => by simp only [impl_means.l1]; rfl) (Ev.ite_pos (by omega) (Ev.ite_pos (by omega) (Ev.ite_pos (by omega) (Ev.bind hk.2.2 ?_))))
  rw [hx, hu, wrap_nat (by omega)]
  exact h
theorem values_of {Sp : I_Term → Int → Prop} {s : List I_Sym} {z : Int} {T : List (List Int)} {env : List Int} : ∀ l : List I_Term, (∀ x ∈ l, ∃ v, Mn Sp s z T env x v) → ∃ vs : List Int, vs.length = l.length ∧ ∀ n : Nat, n < l.length → Mn Sp s z T env (rd_I_Term l (n : Int)) (rd vs (n : Int)) := by
  intro l
  induction l with
  | nil => intro _; exact ⟨[], rfl, fun n h => absurd h (by simp)⟩
  | cons t l ih =>
    intro h
    obtain ⟨v, hv⟩ := h t List.mem_cons_self
    obtain ⟨vs, h1, h2⟩ := ih (fun x hx => h x (List.mem_cons_of_mem _ hx))
    refine ⟨v :: vs, by simp [h1], fun n hn => ?_⟩
    cases n with
    | zero => exact hv
    | succ n => exact h2 n (by simpa using hn)
theorem impl_var (s : List I_Sym) {z : Int} (hz : z = 1 ∨ z = 2 ∨ z = 3 ∨ z = 4) (T : List (List Int)) (env : List Int) {t : I_Term} (hv : t.f0 = -1) (h0 : 0 ≤ t.f1) : Ev (fun k => impl_means.f k s z T t.f0 t.f1 t.f2 env) (if t.f1 ≥ (env.length : Int) then 0 else if Int.tmod (rd env t.f1) z < 0 then Int.tmod (rd env t.f1) z + z else Int.tmod (rd env t.f1) z) := by
  have hi : impl_isVar.f t.f0 t.f1 t.f2 = some true := by unfold impl_isVar.f; rw [hv]; rfl
  refine Ev.step (fun k => by simp only [impl_means.f]; rfl) (Ev.bind (Ev.cst hi) ?_)
  by_cases hx : t.f1 ≥ (env.length : Int)
  · exact Ev.val (r := 0) (Ev.ite_pos rfl (Ev.ite_pos hx Ev.some)) (if_pos hx).symm
  · have hr := tmod_rng (rd env t.f1) hz
    have hu := tmod_up (x := Int.tmod (rd env t.f1) z) (z := z) (by omega) hr.1 hr.2
    refine Ev.val ?_ (if_neg hx).symm
    refine Ev.ite_pos rfl (Ev.ite_neg hx (Ev.ite_pos h0 ?_))
    refine Ev.ite_pos (by omega) (Ev.ite_neg (by omega) (Ev.val Ev.some ?_))
    rw [wrap_id (by omega) (by omega)]
    exact hu
theorem impl_blind {Sp : I_Term → Int → Prop} {s : List I_Sym} (hs : s.length ≤ maxLen) {z : Int} (hz : z = 1 ∨ z = 2 ∨ z = 3 ∨ z = 4) {T : List (List Int)} {env : List Int} {t : I_Term} (h0 : 0 ≤ t.f0) (hR : Row s z T t.f0) (hb : blind s t.f0 = true) (hlen : ((rd_Ls_i64 T t.f0).length : Int) = z * z) (two : 2 ≤ t.f2.length) (hl : t.f2.length ≤ 1048576) (vs : List Int) (hv : vs.length = t.f2.length) (hk : ∀ n : Nat, n < t.f2.length → Mn Sp s z T env (rd_I_Term t.f2 (n : Int)) (rd vs (n : Int))) :
    Ev (fun k => impl_means.f k s z T t.f0 t.f1 t.f2 env) (runF z (rd_Ls_i64 T t.f0) (rd vs 0) (vs.drop 1)) := by
  have hi : impl_isVar.f t.f0 t.f1 t.f2 = some false := by unfold impl_isVar.f; simp; omega
  have k0 := hk 0 (by omega)
  refine Ev.step (fun k => by simp only [impl_means.f]; rfl) (Ev.bind (Ev.cst hi) ?_)
  refine Ev.ite_neg (by decide) (Ev.ite_pos h0 (Ev.ite_pos hR.lt (Ev.bind (Ev.cst (implBlind_ev s hs _)) ?_)))
  refine Ev.ite_pos hb (Ev.ite_pos (by omega) (Ev.bind k0.2.2 (Ev.ite_pos (by omega) (Ev.bind Ev.some ?_))))
  have hk2 : ∀ n : Nat, n < (t.f2.drop 1).length → Mn Sp s z T env (rd_I_Term (t.f2.drop 1) (n : Int)) (rd (vs.drop 1) (n : Int)) := by
    intro n hn2
    rw [List.length_drop] at hn2
    have e1 : rd_I_Term (t.f2.drop 1) (n : Int) = rd_I_Term t.f2 ((n + 1 : Nat) : Int) := by
      show (t.f2.drop 1).getD n zI_Term = t.f2.getD (n + 1) zI_Term
      rw [List.getD_eq_getElem?_getD, List.getD_eq_getElem?_getD, List.getElem?_drop, Nat.add_comm]
    have e2 : rd (vs.drop 1) (n : Int) = rd vs ((n + 1 : Nat) : Int) := by
      show (vs.drop 1).getD n 0 = vs.getD (n + 1) 0
      rw [List.getD_eq_getElem?_getD, List.getD_eq_getElem?_getD, List.getElem?_drop, Nat.add_comm]
    rw [e1, e2]
    exact hk (n + 1) (by omega)
  have ip := impl_run hz hR.val hlen env (t.f2.drop 1) (vs.drop 1) (by simp [hv]) (by rw [List.length_drop]; omega) hk2 (t.f2.drop 1).length 0 (rd vs 0) (by omega) k0.1.1 k0.1.2
  rw [List.drop_zero] at ip
  exact ip
theorem impl_place {s : List I_Sym} (hs : s.length ≤ maxLen) {z : Int} {T : List (List Int)} {env : List Int} {t : I_Term} (h0 : 0 ≤ t.f0) (hR : Row s z T t.f0) (hb : blind s t.f0 = false) {r : Int} (h : Ev (fun k => impl_means.l1 k s env (rd_Ls_i64 T t.f0) 0 1 t.f2 (t.f2.length : Int) 0 z T) r) : Ev (fun k => impl_means.f k s z T t.f0 t.f1 t.f2 env) r := by
  have hi : impl_isVar.f t.f0 t.f1 t.f2 = some false := by unfold impl_isVar.f; simp; omega
  refine Ev.step (fun k => by simp only [impl_means.f]; rfl) (Ev.bind (Ev.cst hi) ?_)
  refine Ev.ite_neg (by decide) (Ev.ite_pos h0 (Ev.ite_pos hR.lt (Ev.bind (Ev.cst (implBlind_ev s hs _)) ?_)))
  exact Ev.ite_neg (by rw [hb]; decide) h
/-! #### what a term is in a model of two things: the reference -/
theorem and1 (e : Int) : Go.bits .and .i64 e 1 = e % 2 := by
  have h : (BitVec.ofInt 64 e &&& BitVec.ofInt 64 1).toNat = (e % 18446744073709551616).toNat % 2 := by
    rw [BitVec.toNat_and, BitVec.toNat_ofInt]
    show _ &&& 1 = _
    exact Nat.and_one_is_mod _
  have h2 : Go.bits .and .i64 e 1 = Go.IntKind.i64.wrap (((BitVec.ofInt 64 e &&& BitVec.ofInt 64 1).toNat : Nat) : Int) := rfl
  rw [h2, h, Go.IntKind.wrap_i64]
  omega
theorem bit_tmod (e : Int) : (if Int.tmod e 2 < 0 then Int.tmod e 2 + 2 else Int.tmod e 2) = if e % 2 = 1 then 1 else 0 := by
  have h := Int.mul_tdiv_add_tmod e 2
  have r := tmod_rng e (z := 2) (by omega)
  by_cases h1 : Int.tmod e 2 < 0
  · rw [if_pos h1]
    by_cases h2 : e % 2 = 1
    · rw [if_pos h2]; omega
    · rw [if_neg h2]; omega
  · rw [if_neg h1]
    by_cases h2 : e % 2 = 1
    · rw [if_pos h2]; omega
    · rw [if_neg h2]; omega
def SpV (s : List I_Sym) (T : List (List Int)) (env : List Int) (t : I_Term) (v : Int) : Prop := Ev (fun k => spec_l21Value.f k s T t.f0 t.f1 t.f2 env) v
theorem l1Bit_ev (b : Bool) : spec_l1Bit.f b = some (if b = true then 1 else 0) := by
  unfold spec_l1Bit.f
  cases b <;> rfl
theorem spec_runV {s : List I_Sym} {T : List (List Int)} {F : Int} (F0 : 0 ≤ F) (h : Row s 2 T F) (hl : ((rd_Ls_i64 T F).length : Int) = 2 * 2) (V : Int) (env : List Int) (l : List I_Term) (hll : l.length ≤ 1048576) (vs : List Int) (hv : vs.length = l.length) (hk : ∀ n : Nat, n < l.length → Mn (SpV s T env) s 2 T env (rd_I_Term l (n : Int)) (rd vs (n : Int))) : ∀ (d n : Nat) (x : Int), n + d = l.length → 0 ≤ x → x < 2 →
    (0 ≤ runF 2 (rd_Ls_i64 T F) x (vs.drop n) ∧ runF 2 (rd_Ls_i64 T F) x (vs.drop n) < 2) ∧ Ev (fun k => spec_l21Value.l0 k s env x (n : Int) T F V l) (runF 2 (rd_Ls_i64 T F) x (vs.drop n)) := by
  have hM : maxLen = 9223372036854775807 := rfl
  have hz : (2 : Int) = 1 ∨ (2 : Int) = 2 ∨ (2 : Int) = 3 ∨ (2 : Int) = 4 := by omega
  intro d
  induction d with
  | zero =>
    intro n x hd x0 x1
    rw [List.drop_of_length_le (by omega)]
    exact ⟨⟨x0, x1⟩, Ev.step (fun k => by simp only [spec_l21Value.l0]; rfl) (Ev.ite_neg (by omega) Ev.some)⟩
  | succ d ih =>
    intro n x hd x0 x1
    have hn := hk n (by omega)
    have g := run_rng hz hl h.val x0 x1 hn.1.1 hn.1.2
    have ih := ih (n + 1) (op 2 (rd_Ls_i64 T F) x (rd vs (n : Int))) (by omega) g.1 g.2
    rw [getD_drop vs 0 n (by omega)]
    have e : runF 2 (rd_Ls_i64 T F) x (vs.getD n 0 :: vs.drop (n + 1)) = runF 2 (rd_Ls_i64 T F) (op 2 (rd_Ls_i64 T F) x (rd vs (n : Int))) (vs.drop (n + 1)) := rfl
    rw [e]
    refine ⟨ih.1, ?_⟩
    have two : spec_l21Two.f T F x (rd vs (n : Int)) = some (op 2 (rd_Ls_i64 T F) x (rd vs (n : Int))) := by
      have r := op_rng hz hl x0 x1 hn.1.1 hn.1.2
      unfold spec_l21Two.f
      rw [if_pos F0, if_pos h.lt, if_pos r.1, if_pos r.2]
      rfl
    refine Ev.step (fun k => by simp only [spec_l21Value.l0]; rfl) (Ev.ite_pos (by omega) (Ev.ite_pos (by omega) (Ev.bind hn.2.1 (Ev.bind (Ev.cst two) ?_))))
    rw [wrap_nat (by omega)]
    exact ih.2
theorem v1_end {s : List I_Sym} {T : List (List Int)} {F : Int} (F0 : 0 ≤ F) (h : Row s 2 T F) (V : Int) (env : List Int) (l : List I_Term) (x : Int) (x0 : 0 ≤ x) (x1 : x < ((rd_Ls_i64 T F).length : Int)) : Ev (fun k => spec_l21Value.l1 k s env x (l.length : Int) T F V l) (rd (rd_Ls_i64 T F) x) :=
  Ev.step (fun k => by simp only [spec_l21Value.l1]; rfl) (Ev.ite_neg (by omega) (Ev.ite_pos F0 (Ev.ite_pos h.lt (Ev.ite_pos x0 (Ev.ite_pos x1 Ev.some)))))
theorem v1_step (s : List I_Sym) (T : List (List Int)) (F V : Int) (env : List Int) (l : List I_Term) (hl : l.length ≤ 1048576) (n : Nat) (hn : n < l.length) (v : Int) (hk : Mn (SpV s T env) s 2 T env (rd_I_Term l (n : Int)) v) (x x' : Int) (hx : Go.bits .or .i64 x (shl .i64 v (n : Int)) = x') (r : Int) (h : Ev (fun k => spec_l21Value.l1 k s env x' ((n + 1 : Nat) : Int) T F V l) r) : Ev (fun k => spec_l21Value.l1 k s env x (n : Int) T F V l) r := by
  have hM : maxLen = 9223372036854775807 := rfl
  refine Ev.step (fun k => by simp only [spec_l21Value.l1]; rfl) (Ev.ite_pos (by omega) (Ev.ite_pos (by omega) (Ev.bind hk.2.1 ?_)))
  rw [hx, wrap_nat (by omega)]
  exact h
theorem place_exV {s : List I_Sym} {T : List (List Int)} {F : Int} (F0 : 0 ≤ F) (h : Row s 2 T F) (V : Int) (env : List Int) (l : List I_Term) (hl : (l.length : Int) = (rd_I_Sym s F).f1) (vs : List Int) (hv : vs.length = l.length) (hk : ∀ n : Nat, n < l.length → Mn (SpV s T env) s 2 T env (rd_I_Term l (n : Int)) (rd vs (n : Int))) :
    ∃ p : Int, (0 ≤ p ∧ p < ((rd_Ls_i64 T F).length : Int)) ∧ Ev (fun k => spec_l21Value.l1 k s env 0 0 T F V l) (rd (rd_Ls_i64 T F) p) ∧ Ev (fun k => impl_means.l1 k s env (rd_Ls_i64 T F) 0 1 l (l.length : Int) 0 2 T) (rd (rd_Ls_i64 T F) p) := by
  have har := h.ar
  have hlen := h.len
  rw [← hl] at hlen
  match l, vs, hv with
  | [], [], _ =>
    have hlen : ((rd_Ls_i64 T F).length : Int) = 1 := hlen
    exact ⟨0, by omega, v1_end F0 h V env [] 0 (by omega) (by omega), l1_end env _ [] 0 1 (by omega) (by omega)⟩
  | [t], [a], _ =>
    have hlen : ((rd_Ls_i64 T F).length : Int) = 2 := hlen
    have ka := hk 0 (by simp)
    have ra : a = 0 ∨ a = 1 := by have : 0 ≤ a ∧ a < 2 := ka.1; omega
    refine ⟨a, by omega, ?_, ?_⟩
    · refine v1_step s T F V env [t] (by simp) 0 (by simp) a ka 0 a ?_ _ (v1_end F0 h V env [t] a (by omega) (by omega))
      rcases ra with rfl | rfl <;> decide +kernel
    · refine l1_step env _ [t] (by simp) 0 (by simp) a ka 0 1 a 2 ?_ ?_ _ (l1_end env _ [t] a 2 (by omega) (by omega))
      · rcases ra with rfl | rfl <;> decide +kernel
      · decide +kernel
  | [t, t'], [a, b], _ =>
    have hlen : ((rd_Ls_i64 T F).length : Int) = 4 := hlen
    have ka := hk 0 (by simp)
    have kb := hk 1 (by simp)
    have ra : a = 0 ∨ a = 1 := by have : 0 ≤ a ∧ a < 2 := ka.1; omega
    have rb : b = 0 ∨ b = 1 := by have : 0 ≤ b ∧ b < 2 := kb.1; omega
    refine ⟨a + 2 * b, by omega, ?_, ?_⟩
    · refine v1_step s T F V env [t, t'] (by simp) 0 (by simp) a ka 0 a ?_ _ (v1_step s T F V env [t, t'] (by simp) 1 (by simp) b kb a (a + 2 * b) ?_ _ (v1_end F0 h V env [t, t'] _ (by omega) (by omega)))
      · rcases ra with rfl | rfl <;> decide +kernel
      · rcases ra with rfl | rfl <;> rcases rb with rfl | rfl <;> decide +kernel
    · refine l1_step env _ [t, t'] (by simp) 0 (by simp) a ka 0 1 a 2 ?_ ?_ _ (l1_step env _ [t, t'] (by simp) 1 (by simp) b kb a 2 (a + 2 * b) 4 ?_ ?_ _ (l1_end env _ [t, t'] _ _ (by omega) (by omega)))
      · rcases ra with rfl | rfl <;> decide +kernel
      · decide +kernel
      · rcases ra with rfl | rfl <;> rcases rb with rfl | rfl <;> decide +kernel
      · decide +kernel
  | [t, t', t''], [a, b, c], _ =>
    have hlen : ((rd_Ls_i64 T F).length : Int) = 8 := hlen
    have ka := hk 0 (by simp)
    have kb := hk 1 (by simp)
    have kc := hk 2 (by simp)
    have ra : a = 0 ∨ a = 1 := by have : 0 ≤ a ∧ a < 2 := ka.1; omega
    have rb : b = 0 ∨ b = 1 := by have : 0 ≤ b ∧ b < 2 := kb.1; omega
    have rc : c = 0 ∨ c = 1 := by have : 0 ≤ c ∧ c < 2 := kc.1; omega
    refine ⟨a + 2 * b + 4 * c, by omega, ?_, ?_⟩
    · refine v1_step s T F V env [t, t', t''] (by simp) 0 (by simp) a ka 0 a ?_ _ (v1_step s T F V env [t, t', t''] (by simp) 1 (by simp) b kb a (a + 2 * b) ?_ _ (v1_step s T F V env [t, t', t''] (by simp) 2 (by simp) c kc (a + 2 * b) (a + 2 * b + 4 * c) ?_ _ (v1_end F0 h V env [t, t', t''] _ (by omega) (by omega))))
      · rcases ra with rfl | rfl <;> decide +kernel
      · rcases ra with rfl | rfl <;> rcases rb with rfl | rfl <;> decide +kernel
      · rcases ra with rfl | rfl <;> rcases rb with rfl | rfl <;> rcases rc with rfl | rfl <;> decide +kernel
    · refine l1_step env _ [t, t', t''] (by simp) 0 (by simp) a ka 0 1 a 2 ?_ ?_ _ (l1_step env _ [t, t', t''] (by simp) 1 (by simp) b kb a 2 (a + 2 * b) 4 ?_ ?_ _ (l1_step env _ [t, t', t''] (by simp) 2 (by simp) c kc (a + 2 * b) 4 (a + 2 * b + 4 * c) 8 ?_ ?_ _ (l1_end env _ [t, t', t''] _ _ (by omega) (by omega))))
      · rcases ra with rfl | rfl <;> decide +kernel
      · decide +kernel
      · rcases ra with rfl | rfl <;> rcases rb with rfl | rfl <;> decide +kernel
      · decide +kernel
      · rcases ra with rfl | rfl <;> rcases rb with rfl | rfl <;> rcases rc with rfl | rfl <;> decide +kernel
      · decide +kernel
  | _ :: _ :: _ :: _ :: _, _, _ => simp only [List.length_cons] at hl; omega
theorem value_ex (s : List I_Sym) (hs : s.length ≤ maxLen) (T : List (List Int)) (hw : worldOk s 2 T = true) (env : List Int) (he : env.length ≤ 1048576) (n : Nat) : ∀ t : I_Term, el_Term t ≤ n → el_Term t ≤ 1048576 → Good s t → ∃ v, Mn (SpV s T env) s 2 T env t v := by
  have hM : maxLen = 9223372036854775807 := rfl
  obtain ⟨hz, hrow⟩ := world_row hw
  induction n using Nat.strongRecOn with
  | _ n ih =>
  intro t hn hm hg
  have hl : t.f2.length ≤ 1048576 := by have := el_len t.f2; rw [el_Term_eq] at hm; omega
  cases hg with
  | var _ hv h0 h1 h2 =>
    refine ⟨_, ?_, ?_, impl_var s hz T env hv h0⟩
    · by_cases hx : t.f1 ≥ (env.length : Int)
      · rw [if_pos hx]; omega
      · have hr := tmod_rng (rd env t.f1) hz
        rw [if_neg hx]
        by_cases h : Int.tmod (rd env t.f1) 2 < 0
        · rw [if_pos h]; omega
        · rw [if_neg h]; omega
    · unfold SpV
      have hw : wrap64 ((env.length : Int) - 1) = (env.length : Int) - 1 := wrap_id (by omega) (by omega)
      refine Ev.step (fun k => by simp only [spec_l21Value.f]; rfl) (Ev.ite_pos hv (Ev.bind (Ev.cst (specInR _ _ _)) ?_))
      rw [hw]
      by_cases hx : t.f1 ≥ (env.length : Int)
      · refine Ev.val (r := 0) ?_ (if_pos hx).symm
        refine Ev.ite_neg (by simp [inR]; omega) (Ev.bind (Ev.cst (l1Bit_ev _)) Ev.some)
      · refine Ev.val ?_ (if_neg hx).symm
        refine Ev.ite_pos (by simp [inR]; omega) ?_
        have hmin : spec_l1Min.f t.f1 ((env.length : Int) - 1) = some t.f1 := by
          unfold spec_l1Min.f
          by_cases h : t.f1 < (env.length : Int) - 1
          · rw [if_pos h]
          · rw [if_neg h]; congr 1; omega
        have hmax : spec_l1Max.f 0 t.f1 = some t.f1 := by
          unfold spec_l1Max.f
          rw [if_neg (by omega)]
        refine Ev.bind (Ev.cst hmin) (Ev.bind (Ev.cst hmax) ?_)
        refine Ev.ite_pos h0 (Ev.ite_pos (by omega) (Ev.bind (Ev.cst (l1Bit_ev _)) (Ev.val Ev.some ?_)))
        rw [and1, bit_tmod]
        by_cases h : rd env t.f1 % 2 = 1
        · rw [if_pos h, if_pos (by simp [h])]
        · rw [if_neg h, if_neg (by simp [h])]
  | app _ h0 h1 h2 h3 h4 h5 =>
    have hR := hrow t.f0 h0 h1
    obtain ⟨vs, hv, hk⟩ := values_of t.f2 (fun x hx => ih (el_Term x) (by have := mem_el hx; rw [el_Term_eq] at hn; omega) x (Nat.le_refl _) (by have := mem_el hx; rw [el_Term_eq] at hm; omega) (h5 x hx))
    have hbl : blind s t.f0 = (rd_I_Sym s t.f0).f2 := by unfold blind isSym; simp [h0]; omega
    by_cases hb : (rd_I_Sym s t.f0).f2 = true
    · have hlen := hR.len
      rw [hR.ac hb] at hlen
      have hlen : ((rd_Ls_i64 T t.f0).length : Int) = 2 * 2 := hlen
      have two := h3 hb
      have k0 := hk 0 (by omega)
      obtain ⟨rng, sp⟩ := spec_runV h0 hR hlen t.f1 env t.f2 hl vs hv hk (t.f2.length - 1) 1 (rd vs 0) (by omega) k0.1.1 k0.1.2
      refine ⟨_, rng, ?_, impl_blind hs hz h0 hR (by rw [hbl]; exact hb) hlen two hl vs hv hk⟩
      refine Ev.step (fun k => by simp only [spec_l21Value.f]; rfl) (Ev.ite_neg (by omega) (Ev.ite_pos h0 (Ev.ite_pos h1 (Ev.ite_pos hb (Ev.ite_pos (by omega) (Ev.bind k0.2.1 ?_))))))
      exact sp
    · have hb' := hb
      rw [Bool.not_eq_true] at hb'
      obtain ⟨p, pr, sp, ip⟩ := place_exV h0 hR t.f1 env t.f2 (h4 hb') vs hv hk
      refine ⟨_, hR.val p pr.1 pr.2, ?_, impl_place hs h0 hR (by rw [hbl, hb']) ip⟩
      refine Ev.step (fun k => by simp only [spec_l21Value.f]; rfl) (Ev.ite_neg (by omega) (Ev.ite_pos h0 (Ev.ite_pos h1 (Ev.ite_neg hb ?_))))
      exact sp
theorem valueOk_ex (s : List I_Sym) (hs : s.length ≤ maxLen) (hn : ∀ x ∈ s, x.f0.size ≤ maxLen) (T : List (List Int)) (hT : ∀ x ∈ T, x.length ≤ maxLen) (t : I_Term) (hm : el_Term t ≤ 1048576) (env : List Int) (he : env.length ≤ 1048576) : ∃ v : Int, Ev (fun k => spec_Value.f k s T t.f0 t.f1 t.f2 env) v ∧ Ev (fun k => impl_Value.f k s T t.f0 t.f1 t.f2 env) v := by
  have hM : maxLen = 9223372036854775807 := rfl
  obtain ⟨b, b1, b2, b3⟩ := termOk_ex s hs hn t (by omega)
  unfold spec_Value.f impl_Value.f
  have jt : Ev (fun k => impl_Value.j0 k s env true T t.f0 t.f1 t.f2) 0 := by
    refine Ev.step (fun k => by simp only [impl_Value.j0]; rfl) ?_
    exact Ev.some
  by_cases hw : worldOk s 2 T = true
  · cases b
    · exact ⟨0, Ev.bind (specModelOk_ev s T hs hn hT) (Ev.ite_pos hw (Ev.bind b1 (Ev.ite_neg (by decide) Ev.some))), Ev.bind (implModelOk_ev s T hs hn hT) (Ev.ite_pos hw (Ev.bind b2 jt))⟩
    · obtain ⟨v, _, v1, v2⟩ := value_ex s hs T hw env he (el_Term t) t (Nat.le_refl _) hm (b3 rfl)
      refine ⟨v, Ev.bind (specModelOk_ev s T hs hn hT) (Ev.ite_pos hw (Ev.bind b1 (Ev.ite_pos rfl (Ev.bind v1 Ev.some)))), Ev.bind (implModelOk_ev s T hs hn hT) (Ev.ite_pos hw (Ev.bind b2 ?_))⟩
      exact Ev.step (f := fun k => (impl_asWorld.f T).bind fun bt385 => ((impl_means.f k s bt385.1 bt385.2 t.f0 t.f1 t.f2 env).bind fun t389 => (some t389))) (fun k => by simp [impl_Value.j0]) (Ev.bind (Ev.cst rfl) (Ev.bind v2 Ev.some))
  · exact ⟨0, Ev.bind (specModelOk_ev s T hs hn hT) (Ev.ite_neg hw Ev.some), Ev.bind (implModelOk_ev s T hs hn hT) (Ev.ite_neg hw jt)⟩
theorem FnExactValue : laws_FnExactValue.Pure := by
  intro s m_0 t_0 t_1 t_2 e hs hm_0 ht_0 ht_1 ht_2 he
  refine Ev.rounds (g := fun k => laws_FnExactValue.f k s m_0 t_0 t_1 t_2 e) ?_
  unfold laws_FnExactValue.f
  have hm : maxLen = 9223372036854775807 := rfl
  have W2 : Wf_L_Model (⟨m_0⟩ : L_Model) := hm_0
  have W3 : Wf_L_Term (⟨t_0, t_1, t_2⟩ : L_Term) := (Wf_L_Term.mk _ ht_0 ht_1 ht_2.1 ht_2.2)
  by_cases H4 : (e.length : Int) > 1048576
  · exact Ev.ite_pos H4 Ev.some
  refine Ev.ite_neg H4 ?_
  have S4 : sz_IntS e ≤ 1048576 := by unfold sz_IntS; rw [sum_zero e (fun _ => 0) (fun _ => rfl)]; omega
  refine Ev.nxt ?_
  simp only [laws_FnExactValue.j0]
  refine law_sz (by omega) (by omega) (szSymS_ev s hs 1048576 (by omega) (by omega)) fun q1 a1 b1 S1 => ?_
  refine Ev.nxt ?_
  simp only [laws_FnExactValue.j1]
  refine law_sz a1 b1 (szModel_ev (⟨m_0⟩ : L_Model) W2 q1 a1 b1) fun q2 a2 b2 S2 => ?_
  refine Ev.nxt ?_
  simp only [laws_FnExactValue.j2]
  refine law_sz a2 b2 (szTerm_ev (⟨t_0, t_1, t_2⟩ : L_Term) W3 q2 a2 b2) fun q3 a3 b3 S3 => ?_
  have E1 : el_SymS (cv_SymS s) ≤ maxLen := by have := el_cv_SymS s; omega
  have E2 : el_Model (cv_Model (⟨m_0⟩ : L_Model)) ≤ maxLen := by have := el_cv_Model (⟨m_0⟩ : L_Model); omega
  have E3 : el_Term (cv_Term (⟨t_0, t_1, t_2⟩ : L_Term)) ≤ maxLen := by have := el_cv_Term (⟨t_0, t_1, t_2⟩ : L_Term); omega
  have E4 : el_IntS e ≤ maxLen := by have := el_cv_IntS e; simp only [id] at this; omega
  have T3 : el_Term (cv_Term (⟨t_0, t_1, t_2⟩ : L_Term)) ≤ 1048576 := by have := el_cv_Term (⟨t_0, t_1, t_2⟩ : L_Term); omega
  obtain ⟨v, X1, X2⟩ := valueOk_ex (cv_SymS s) (symS_len E1) (names_cv S1) (cv_Model (⟨m_0⟩ : L_Model)).f0 (tabs_len E2) (cv_Term (⟨t_0, t_1, t_2⟩ : L_Term)) T3 e (by omega)
  refine Ev.nxt ?_
  simp only [laws_FnExactValue.j3]
  refine Ev.bind (toSymS_ev s S1) ?_
  refine Ev.bind (toModel_ev (⟨m_0⟩ : L_Model) S2) ?_
  refine Ev.bind (toTerm_ev (⟨t_0, t_1, t_2⟩ : L_Term) S3) ?_
  refine Ev.bind (toIntS_ev e S4) ?_
  refine Ev.bind X1 ?_
  refine Ev.bind (toSymS_ev s S1) ?_
  refine Ev.bind (toModel_ev (⟨m_0⟩ : L_Model) S2) ?_
  refine Ev.bind (toTerm_ev (⟨t_0, t_1, t_2⟩ : L_Term) S3) ?_
  refine Ev.bind (toIntS_ev e S4) ?_
  refine Ev.bind X2 ?_
  refine Ev.ite_pos rfl ?_
  refine Ev.nxt ?_
  simp only [laws_FnExactValue.j4]
  refine Ev.bind (toSymS_ev s S1) ?_
  refine Ev.bind (eqSymS_ev (cv_SymS s) E1) (Ev.ite_pos rfl ?_)
  refine Ev.nxt ?_
  simp only [laws_FnExactValue.j5]
  refine Ev.bind (toModel_ev (⟨m_0⟩ : L_Model) S2) ?_
  refine Ev.bind (eqModel_ev (cv_Model (⟨m_0⟩ : L_Model)) E2) (Ev.ite_pos rfl ?_)
  refine Ev.nxt ?_
  simp only [laws_FnExactValue.j6]
  refine Ev.bind (toTerm_ev (⟨t_0, t_1, t_2⟩ : L_Term) S3) ?_
  refine Ev.bind (eqTerm_ev (cv_Term (⟨t_0, t_1, t_2⟩ : L_Term)) E3) (Ev.ite_pos rfl ?_)
  refine Ev.nxt ?_
  simp only [laws_FnExactValue.j7]
  refine Ev.bind (toIntS_ev e S4) ?_
  refine Ev.bind (eqIntS_ev e E4) (Ev.ite_pos rfl ?_)
  exact Ev.some
end Go.Proofs.Ytcboagkbcoihjaa.Pure
