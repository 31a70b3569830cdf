/- The program's Product returns what the reference's returns, for all arguments. -/
import Derived.Test.YtcboagkbcoihjaaXProducth
namespace Go.Proofs.Ytcboagkbcoihjaa.Pure
open Go.RowKit Go.Proofs.Ytcboagkbcoihjaa.XProduct Go.Proofs.Ytcboagkbcoihjaa.XPure Go.Proofs.YtcboagkbcoihjaaW.PrintWords Go.Proofs.YtcboagkbcoihjaaW.PrintLast Go.Proofs.YtcboagkbcoihjaaW.PrintMore
set_option linter.unusedVariables false
set_option linter.unusedSimpArgs false
/-! #### signatures: names, which function has a name, what is right (under way: not built yet) -/
def small (c : Int) : Bool := decide (97 ≤ c) && decide (c ≤ 122)
def digit (c : Int) : Bool := decide (48 ≤ c) && decide (c ≤ 57)
def inR (a b c : Int) : Bool := decide (b ≤ a) && decide (a ≤ c)
theorem specInR (a b c : Int) : spec_l1In.f a b c = some (inR a b c) := by
  unfold spec_l1In.f inR
  by_cases h : a ≥ b
  · rw [if_pos h]; simp [show b ≤ a from h]
  · rw [if_neg h]; simp [show ¬ b ≤ a from h]
theorem implInR (a b c : Int) : impl_from.f a b c = some (inR a b c) := by
  unfold impl_from.f inR
  by_cases h : a ≥ b
  · rw [if_pos h]; simp [show b ≤ a from h]
  · rw [if_neg h]; simp [show ¬ b ≤ a from h]
theorem implSmall (a : Int) : impl_isSmall.f a = some (small a) := by
  unfold impl_isSmall.f small
  by_cases h : a ≥ 97
  · rw [if_pos h]; simp [show 97 ≤ a from h]
  · rw [if_neg h]; simp [show ¬ 97 ≤ a from h]
theorem implDigit (a : Int) : impl_isDigit.f a = some (digit a) := by
  unfold impl_isDigit.f digit
  by_cases h : a ≥ 48
  · rw [if_pos h]; simp [show 48 ≤ a from h]
  · rw [if_neg h]; simp [show ¬ 48 ≤ a from h]
/-- from place n on (d places): each a small letter, or a digit that is not the first -/
def nmS (s : ByteArray) : Nat → Nat → Bool
  | 0, _ => inR (s.size : Int) 1 8
  | d + 1, n => if small (bt s (n : Int)) = true ∨ (0 < n ∧ digit (bt s (n : Int)) = true) then nmS s d (n + 1) else false
theorem specName_l (s : ByteArray) (hs : s.size ≤ maxLen) : ∀ d n : Nat, n + d = s.size → Ev (fun k => spec_NameOk.l0 k s (n : Int)) (nmS s d n) := by
  intro d
  induction d with
  | zero =>
    intro n hn
    exact Ev.step (fun k => by simp only [spec_NameOk.l0]; rfl) (Ev.ite_neg (by omega) (Ev.bind (Ev.cst (specInR _ _ _)) Ev.some))
  | succ d ih =>
    intro n hn
    refine Ev.step (fun k => by simp only [spec_NameOk.l0]; rfl) (Ev.ite_pos (by omega) (Ev.ite_pos (by omega) ?_))
    rw [wrap_nat (by omega), nmS]
    have ih := ih (n + 1) (by omega)
    have e : (small (bt s (n : Int)) = true) ↔ (bt s (n : Int) ≥ 97 ∧ bt s (n : Int) ≤ 122) := by simp [small]
    have e2 : (digit (bt s (n : Int)) = true) ↔ (bt s (n : Int) ≥ 48 ∧ bt s (n : Int) ≤ 57) := by simp [digit]
    simp only [e, e2]
    by_cases h1 : bt s (n : Int) ≥ 97
    · refine Ev.ite_pos h1 ?_
      by_cases h2 : bt s (n : Int) ≤ 122
      · rw [if_pos (Or.inl ⟨h1, h2⟩)]
        exact Ev.ite_pos h2 ih
      · refine Ev.ite_neg h2 ?_
        rw [if_neg (by omega)]
        by_cases h3 : (n : Int) > 0
        · exact Ev.ite_pos h3 (Ev.ite_pos (by omega) (Ev.ite_neg (by omega) Ev.some))
        · exact Ev.ite_neg h3 Ev.some
    · refine Ev.ite_neg h1 ?_
      by_cases h3 : (n : Int) > 0
      · refine Ev.ite_pos h3 ?_
        by_cases h4 : bt s (n : Int) ≥ 48
        · refine Ev.ite_pos h4 ?_
          by_cases h5 : bt s (n : Int) ≤ 57
          · rw [if_pos (Or.inr ⟨by omega, h4, h5⟩)]
            exact Ev.ite_pos h5 ih
          · rw [if_neg (by omega)]
            exact Ev.ite_neg h5 Ev.some
        · rw [if_neg (by omega)]
          exact Ev.ite_neg h4 Ev.some
      · rw [if_neg (by omega)]
        exact Ev.ite_neg h3 Ev.some
def al (s : ByteArray) : Nat → Nat → Bool
  | 0, _ => true
  | d + 1, n => if small (bt s (n : Int)) = true ∨ digit (bt s (n : Int)) = true then al s d (n + 1) else false
theorem implName_l (s : ByteArray) (hs : s.size ≤ maxLen) : ∀ d n : Nat, n + d = s.size → Ev (fun k => impl_NameOk.l0 k s (s.size : Int) (n : Int)) (al s d n && (inR (s.size : Int) 1 8 && small (bt s 0))) := by
  intro d
  induction d with
  | zero =>
    intro n hn
    refine Ev.step (fun k => by simp only [impl_NameOk.l0]; rfl) (Ev.ite_neg (by omega) (Ev.bind (Ev.cst (implInR _ _ _)) ?_))
    by_cases h : inR (s.size : Int) 1 8 = true
    · refine Ev.ite_pos h ?_
      have h' := h
      simp [inR] at h'
      refine Ev.ite_pos (by omega) (Ev.bind (Ev.cst (implSmall _)) (Ev.val Ev.some ?_))
      simp [al, h]
    · exact Ev.ite_neg h (Ev.val Ev.some (by simp [Bool.eq_false_iff.2 h]))
  | succ d ih =>
    intro n hn
    refine Ev.step (fun k => by simp only [impl_NameOk.l0]; rfl) (Ev.ite_pos (by omega) (Ev.ite_pos (by omega) (Ev.ite_pos (by omega) (Ev.bind (Ev.cst (implSmall _)) ?_))))
    rw [wrap_nat (by omega), al]
    have ih := ih (n + 1) (by omega)
    by_cases h1 : small (bt s (n : Int)) = true
    · rw [if_pos (Or.inl h1)]
      exact Ev.ite_pos h1 ih
    · refine Ev.ite_neg h1 (Ev.bind (Ev.cst (implDigit _)) ?_)
      by_cases h2 : digit (bt s (n : Int)) = true
      · rw [if_pos (Or.inr h2)]
        exact Ev.ite_pos h2 ih
      · rw [if_neg (fun e => e.elim h1 h2)]
        exact Ev.ite_neg h2 (Ev.val Ev.some (by simp))
theorem nmS_al (s : ByteArray) : ∀ d n : Nat, 0 < n → nmS s d n = (al s d n && inR (s.size : Int) 1 8) := by
  intro d
  induction d with
  | zero => intro n h; simp [nmS, al]
  | succ d ih =>
    intro n h
    rw [nmS, al, ih (n + 1) (by omega)]
    by_cases h1 : small (bt s (n : Int)) = true <;> by_cases h2 : digit (bt s (n : Int)) = true <;> simp [h, h1, h2]
def nameOk (s : ByteArray) : Bool := nmS s s.size 0
theorem nameOk_al (s : ByteArray) : nameOk s = (al s s.size 0 && (inR (s.size : Int) 1 8 && small (bt s 0))) := by
  unfold nameOk
  generalize hd : s.size = d
  cases d with
  | zero => simp [nmS, hd, inR]
  | succ d =>
    rw [nmS, al, nmS_al s d (0 + 1) (by omega), hd]
    have e : bt s ((0 : Nat) : Int) = bt s 0 := rfl
    rw [e]
    by_cases h1 : small (bt s 0) = true <;> by_cases h2 : digit (bt s 0) = true <;> simp [h1, h2]
theorem specName_ev (s : ByteArray) (hs : s.size ≤ maxLen) : Ev (fun k => spec_NameOk.f k s) (nameOk s) := by
  unfold spec_NameOk.f
  exact specName_l s hs s.size 0 (by omega)
theorem implName_ev (s : ByteArray) (hs : s.size ≤ maxLen) : Ev (fun k => impl_NameOk.f k s) (nameOk s) := by
  unfold impl_NameOk.f
  rw [nameOk_al]
  exact implName_l s hs s.size 0 (by omega)
def symL (l : List I_Sym) (m : ByteArray) : Nat → Nat → Int
  | 0, _ => -1
  | d + 1, n => if (rd_I_Sym l (n : Int)).f0.toList = m.toList then (n : Int) else symL l m d (n + 1)
def symOf (l : List I_Sym) (m : ByteArray) : Int := symL l m l.length 0
theorem specSymOf_l (l : List I_Sym) (m : ByteArray) (hl : l.length ≤ maxLen) : ∀ d n : Nat, n + d = l.length → Ev (fun k => spec_SymOf.l0 k l m (n : Int)) (symL l m d n) := by
  intro d
  induction d with
  | zero =>
    intro n hn
    exact Ev.step (fun k => by simp only [spec_SymOf.l0]; rfl) (Ev.ite_neg (by omega) Ev.some)
  | succ d ih =>
    intro n hn
    refine Ev.step (fun k => by simp only [spec_SymOf.l0]; rfl) (Ev.ite_pos (by omega) (Ev.ite_pos (by omega) ?_))
    rw [wrap_nat (by omega), symL]
    by_cases h : (rd_I_Sym l (n : Int)).f0.toList = m.toList
    · rw [if_pos h]; exact Ev.ite_pos h Ev.some
    · rw [if_neg h]; exact Ev.ite_neg h (ih _ (by omega))
theorem implSymOf_l (l : List I_Sym) (m : ByteArray) (hl : l.length ≤ maxLen) : ∀ d n : Nat, n + d = l.length → Ev (fun k => impl_Sym__with_impl_SymOf_1.l0 k l (l.length : Int) (n : Int) m) (symL l m d n) := by
  intro d
  induction d with
  | zero =>
    intro n hn
    exact Ev.step (fun k => by simp only [impl_Sym__with_impl_SymOf_1.l0]; rfl) (Ev.ite_neg (by omega) Ev.some)
  | succ d ih =>
    intro n hn
    refine Ev.step (fun k => by simp only [impl_Sym__with_impl_SymOf_1.l0]; rfl) (Ev.ite_pos (by omega) (Ev.ite_pos (by omega) (Ev.ite_pos (by omega) (Ev.bind Ev.some ?_))))
    rw [wrap_nat (by omega), symL]
    by_cases h : (rd_I_Sym l (n : Int)).f0.toList = m.toList
    · rw [if_pos h]; exact Ev.ite_pos (by simp [h]) Ev.some
    · rw [if_neg h]; exact Ev.ite_neg (by simp [h]) (ih _ (by omega))
theorem specSymOf_ev (l : List I_Sym) (m : ByteArray) (hl : l.length ≤ maxLen) : Ev (fun k => spec_SymOf.f k l m) (symOf l m) := by
  unfold spec_SymOf.f
  exact specSymOf_l l m hl l.length 0 (by omega)
theorem implSymOf_ev (l : List I_Sym) (m : ByteArray) (hl : l.length ≤ maxLen) : Ev (fun k => impl_SymOf.f k l m) (symOf l m) := by
  unfold impl_SymOf.f impl_Sym__with_impl_SymOf_1.f
  exact Ev.bind (implSymOf_l l m hl l.length 0 (by omega)) Ev.some
def okAt (l : List I_Sym) (n : Nat) : Bool := nameOk (rd_I_Sym l (n : Int)).f0 && (decide (symOf l (rd_I_Sym l (n : Int)).f0 = (n : Int)) && (inR (rd_I_Sym l (n : Int)).f1 0 3 && (!(rd_I_Sym l (n : Int)).f2 || decide ((rd_I_Sym l (n : Int)).f1 = 2))))
def sgEnd (l : List I_Sym) : Bool := inR (l.length : Int) 1 8 && ((rd_I_Sym l 0).f0.toList == ([116, 116] : List UInt8) && ((rd_I_Sym l 0).f1 == 0 && !(rd_I_Sym l 0).f2))
def sgL (l : List I_Sym) : Nat → Nat → Bool
  | 0, _ => sgEnd l
  | d + 1, n => if okAt l n = true then sgL l d (n + 1) else false
def sigOk (l : List I_Sym) : Bool := sgL l l.length 0
theorem specSig_l (l : List I_Sym) (hl : l.length ≤ maxLen) (hn : ∀ x ∈ l, x.f0.size ≤ maxLen) : ∀ d n : Nat, n + d = l.length → Ev (fun k => spec_SigOk.l0 k l (n : Int)) (sgL l d n) := by
  intro d
  induction d with
  | zero =>
    intro n hn
    refine Ev.step (fun k => by simp only [spec_SigOk.l0]; rfl) (Ev.ite_neg (by omega) (Ev.bind (Ev.cst (specInR _ _ _)) ?_))
    rw [sgL, sgEnd]
    by_cases h : inR (l.length : Int) 1 8 = true
    · have h' := h
      simp [inR] at h'
      rw [h, Bool.true_and]
      exact Ev.ite_pos rfl (Ev.ite_pos (by omega) Ev.some)
    · exact Ev.ite_neg h (Ev.val Ev.some (by simp [Bool.eq_false_iff.2 h]))
  | succ d ih =>
    intro n hd
    have hx := hn _ (getD_mem l zI_Sym n (by omega))
    refine Ev.step (fun k => by simp only [spec_SigOk.l0]; rfl) (Ev.ite_pos (by omega) (Ev.ite_pos (by omega) (Ev.bind (specName_ev _ hx) ?_)))
    rw [wrap_nat (by omega), sgL, okAt]
    have ih := ih (n + 1) (by omega)
    by_cases h1 : nameOk (rd_I_Sym l (n : Int)).f0 = true
    · refine Ev.ite_pos h1 (Ev.bind (specSymOf_ev _ _ hl) ?_)
      by_cases h2 : symOf l (rd_I_Sym l (n : Int)).f0 = (n : Int)
      · refine Ev.ite_pos h2 (Ev.bind (Ev.cst (specInR _ _ _)) ?_)
        by_cases h3 : inR (rd_I_Sym l (n : Int)).f1 0 3 = true
        · refine Ev.ite_pos h3 ?_
          by_cases h4 : (rd_I_Sym l (n : Int)).f2 = true
          · refine Ev.ite_pos h4 ?_
            by_cases h5 : (rd_I_Sym l (n : Int)).f1 = 2
            · exact Ev.ite_pos h5 (Ev.val ih (by rw [h5] at h3; simp [h1, h2, h3, h4, h5]))
            · exact Ev.ite_neg h5 (Ev.val Ev.some (by simp [h1, h2, h3, h4, h5]))
          · exact Ev.ite_neg h4 (Ev.val ih (by simp [h1, h2, h3, h4]))
        · exact Ev.ite_neg h3 (Ev.val Ev.some (by simp [h3]))
      · exact Ev.ite_neg h2 (Ev.val Ev.some (by simp [h2]))
    · exact Ev.ite_neg h1 (Ev.val Ev.some (by simp [h1]))
theorem specSigOk_ev (l : List I_Sym) (hl : l.length ≤ maxLen) (hn : ∀ x ∈ l, x.f0.size ≤ maxLen) : Ev (fun k => spec_SigOk.f k l) (sigOk l) := by
  unfold spec_SigOk.f
  exact specSig_l l hl hn l.length 0 (by omega)
theorem okAt_end {l : List I_Sym} (h : okAt l 0 = true) : ((rd_I_Sym l 0).f1 == 0) = ((rd_I_Sym l 0).f1 == 0 && !(rd_I_Sym l 0).f2) := by
  have e : rd_I_Sym l ((0 : Nat) : Int) = rd_I_Sym l 0 := rfl
  unfold okAt at h
  rw [e] at h
  simp only [Bool.and_eq_true, Bool.or_eq_true, Bool.not_eq_true', decide_eq_true_eq] at h
  rcases h.2.2.2 with h2 | h2
  · rw [h2]; simp
  · rw [h2]; rfl
theorem implSig_l (l : List I_Sym) (hl : l.length ≤ maxLen) (hn : ∀ x ∈ l, x.f0.size ≤ maxLen) : ∀ d n : Nat, n + d = l.length → (0 < n → okAt l 0 = true) → Ev (fun k => impl_SigOk.l0 k l l (l.length : Int) (n : Int)) (sgL l d n) := by
  intro d
  induction d with
  | zero =>
    intro n hn h0
    refine Ev.step (fun k => by simp only [impl_SigOk.l0]; rfl) (Ev.ite_neg (by omega) (Ev.bind (Ev.cst (implInR _ _ _)) ?_))
    rw [sgL, sgEnd]
    by_cases h : inR (l.length : Int) 1 8 = true
    · have h' := h
      simp [inR] at h'
      rw [h, Bool.true_and, ← okAt_end (h0 (by omega))]
      refine Ev.ite_pos rfl (Ev.ite_pos (by omega) ?_)
      by_cases ht : (rd_I_Sym l 0).f0.toList = ([116, 116] : List UInt8)
      · exact Ev.ite_pos ht (Ev.val Ev.some (by simp [ht]))
      · exact Ev.ite_neg ht (Ev.val Ev.some (by simp [ht]))
    · exact Ev.ite_neg h (Ev.val Ev.some (by simp [Bool.eq_false_iff.2 h]))
  | succ d ih =>
    intro n hd h0
    have hx := hn _ (getD_mem l zI_Sym n (by omega))
    refine Ev.step (fun k => by simp only [impl_SigOk.l0]; rfl) (Ev.ite_pos (by omega) (Ev.ite_pos (by omega) (Ev.ite_pos (by omega) (Ev.bind (implName_ev _ hx) ?_))))
    rw [wrap_nat (by omega), sgL]
    have ih : okAt l n = true → Ev (fun k => impl_SigOk.l0 k l l (l.length : Int) ((n + 1 : Nat) : Int)) (sgL l d (n + 1)) := fun h => ih (n + 1) (by omega) (fun _ => by
      by_cases e : n = 0
      · subst e; exact h
      · exact h0 (by omega))
    by_cases h1 : nameOk (rd_I_Sym l (n : Int)).f0 = true
    · refine Ev.ite_pos h1 (Ev.bind (implSymOf_ev _ _ hl) ?_)
      by_cases h2 : symOf l (rd_I_Sym l (n : Int)).f0 = (n : Int)
      · refine Ev.ite_pos h2 (Ev.bind (Ev.cst (implInR _ _ _)) ?_)
        by_cases h3 : inR (rd_I_Sym l (n : Int)).f1 0 3 = true
        · refine Ev.ite_pos h3 ?_
          by_cases h4 : (rd_I_Sym l (n : Int)).f2 = true
          · refine Ev.ite_pos h4 ?_
            by_cases h5 : (rd_I_Sym l (n : Int)).f1 = 2
            · have ok : okAt l n = true := by unfold okAt; rw [h5] at h3; simp [h1, h2, h3, h4, h5]
              exact Ev.ite_pos h5 (Ev.val (ih ok) (by rw [if_pos ok]))
            · exact Ev.ite_neg h5 (Ev.val Ev.some (by simp [okAt, h1, h2, h3, h4, h5]))
          · have ok : okAt l n = true := by unfold okAt; simp [h1, h2, h3, h4]
            exact Ev.ite_neg h4 (Ev.val (ih ok) (by rw [if_pos ok]))
        · exact Ev.ite_neg h3 (Ev.val Ev.some (by simp [okAt, h3]))
      · exact Ev.ite_neg h2 (Ev.val Ev.some (by simp [okAt, h2]))
    · exact Ev.ite_neg h1 (Ev.val Ev.some (by simp [okAt, h1]))
theorem implSigOk_ev (l : List I_Sym) (hl : l.length ≤ maxLen) (hn : ∀ x ∈ l, x.f0.size ≤ maxLen) : Ev (fun k => impl_SigOk.f k l) (sigOk l) := by
  unfold impl_SigOk.f
  exact implSig_l l hl hn l.length 0 (by omega) (fun h => absurd h (by omega))
theorem symS_len {l : List I_Sym} (h : el_SymS l ≤ maxLen) : l.length ≤ maxLen := by unfold el_SymS at h; omega
theorem names_cv {l : List L_Sym} (h : sz_SymS l ≤ 1048576) : ∀ x ∈ cv_SymS l, x.f0.size ≤ maxLen := by
  intro x hx
  have hm : maxLen = 9223372036854775807 := rfl
  obtain ⟨y, hy, rfl⟩ := List.mem_map.1 hx
  have := mem_sz_SymS hy
  simp only [sz_Sym] at this
  show y.f0.size ≤ _
  omega
/-! #### worlds that are right: what the program's WorldOk comes to -/
theorem sgL_all (l : List I_Sym) : ∀ d n : Nat, sgL l d n = true → ∀ m, n ≤ m → m < n + d → okAt l m = true := by
  intro d
  induction d with
  | zero => intro n h m a b; omega
  | succ d ih =>
    intro n h m a b
    rw [sgL] at h
    by_cases e : okAt l n = true
    · rw [if_pos e] at h
      by_cases e2 : m = n
      · subst e2; exact e
      · exact ih (n + 1) h m (by omega) (by omega)
    · rw [if_neg e] at h
      cases h
theorem sig_at {l : List I_Sym} (h : sigOk l = true) {n : Nat} (hn : n < l.length) : (0 ≤ (rd_I_Sym l (n : Int)).f1 ∧ (rd_I_Sym l (n : Int)).f1 ≤ 3) ∧ ((rd_I_Sym l (n : Int)).f2 = true → (rd_I_Sym l (n : Int)).f1 = 2) := by
  have h := sgL_all l l.length 0 h n (by omega) (by omega)
  unfold okAt at h
  simp only [Bool.and_eq_true, Bool.or_eq_true, Bool.not_eq_true', decide_eq_true_eq, inR] at h
  refine ⟨h.2.2.1, fun e => ?_⟩
  rcases h.2.2.2 with h2 | h2
  · rw [h2] at e; cases e
  · exact h2
def allF (P : Nat → Bool) : Nat → Nat → Bool
  | 0, _ => true
  | d + 1, n => P n && allF P d (n + 1)
theorem allF_and (c : Bool) (P : Nat → Bool) : ∀ d n : Nat, allF (fun i => c && P i) (d + 1) n = (c && allF P (d + 1) n) := by
  intro d
  induction d with
  | zero => intro n; simp [allF]
  | succ d ih =>
    intro n
    rw [allF, ih]
    simp only [allF]
    cases c <;> simp
theorem allF_congr {P Q : Nat → Bool} : ∀ d n : Nat, (∀ i, n ≤ i → i < n + d → P i = Q i) → allF P d n = allF Q d n := by
  intro d
  induction d with
  | zero => intro n h; rfl
  | succ d ih =>
    intro n h
    rw [allF, allF, h n (by omega) (by omega), ih (n + 1) (fun i a b => h i (by omega) (by omega))]
def pw (z a : Int) : Int := if a = 0 then 1 else if a = 1 then z else if a = 2 then z * z else z * z * z
theorem places_ev {z : Nat} (z1 : 1 ≤ z) (z4 : z ≤ 4) (a : Int) (h0 : 0 ≤ a) (h1 : a ≤ 3) : Ev (fun k => impl_placesOf.f k z a) (pw z a) := by
  have hz : z = 1 ∨ z = 2 ∨ z = 3 ∨ z = 4 := by omega
  have ha : a = 0 ∨ a = 1 ∨ a = 2 ∨ a = 3 := by omega
  refine Ev.of (fun k => impl_placesOf.mono z a k) (k := 8) ?_
  rcases hz with rfl | rfl | rfl | rfl <;> rcases ha with rfl | rfl | rfl | rfl <;> decide +kernel
def bd (hi : Int) (t : List Int) : Nat → Nat → Bool
  | 0, _ => true
  | d + 1, n => if inR (rd t (n : Int)) 0 hi = true then bd hi t d (n + 1) else false
theorem contains_l (z : Int) (t : List Int) (T : List (List Int)) (hl : t.length ≤ maxLen) : ∀ d n : Nat, n + d = t.length → ∃ i : Int, decide (i ≥ 0) = !bd (wrap64 (z - 1)) t d n ∧ Ev (fun k => slices_IndexFunc_int_int__with_impl_WorldOk_1.l0 k t (t.length : Int) (n : Int) z T) i := by
  intro d
  induction d with
  | zero =>
    intro n hn
    exact ⟨-1, by simp [bd], Ev.step (fun k => by simp only [slices_IndexFunc_int_int__with_impl_WorldOk_1.l0]; rfl) (Ev.ite_neg (by omega) Ev.some)⟩
  | succ d ih =>
    intro n hn
    obtain ⟨i, h1, h2⟩ := ih (n + 1) (by omega)
    have hw : impl_WorldOk_1.f (rd t (n : Int)) z T = some (!inR (rd t (n : Int)) 0 (wrap64 (z - 1))) := by
      unfold impl_WorldOk_1.f
      rw [implInR]
      rfl
    by_cases h : inR (rd t (n : Int)) 0 (wrap64 (z - 1)) = true
    · refine ⟨i, by rw [bd, if_pos h]; exact h1, ?_⟩
      refine Ev.step (fun k => by simp only [slices_IndexFunc_int_int__with_impl_WorldOk_1.l0]; rfl) (Ev.ite_pos (by omega) (Ev.ite_pos (by omega) (Ev.ite_pos (by omega) (Ev.bind (Ev.cst hw) ?_))))
      rw [wrap_nat (by omega), h]
      exact Ev.ite_neg (by decide) h2
    · refine ⟨(n : Int), by rw [bd, if_neg h]; simp, ?_⟩
      refine Ev.step (fun k => by simp only [slices_IndexFunc_int_int__with_impl_WorldOk_1.l0]; rfl) (Ev.ite_pos (by omega) (Ev.ite_pos (by omega) (Ev.ite_pos (by omega) (Ev.bind (Ev.cst hw) ?_))))
      rw [Bool.not_eq_true] at h
      rw [h]
      exact Ev.ite_pos (by decide) Ev.some
theorem contains_ev (z : Int) (t : List Int) (T : List (List Int)) (hl : t.length ≤ maxLen) : Ev (fun k => slices_ContainsFunc_int_int__with_impl_WorldOk_1.f k t z T) (!bd (wrap64 (z - 1)) t t.length 0) := by
  obtain ⟨i, h1, h2⟩ := contains_l z t T hl t.length 0 (by omega)
  unfold slices_ContainsFunc_int_int__with_impl_WorldOk_1.f slices_IndexFunc_int_int__with_impl_WorldOk_1.f
  exact Ev.bind h2 (Ev.val Ev.some h1)
theorem bd_all (hi : Int) (t : List Int) : ∀ d n : Nat, bd hi t d n = true → ∀ m, n ≤ m → m < n + d → 0 ≤ rd t (m : Int) ∧ rd t (m : Int) ≤ hi := by
  intro d
  induction d with
  | zero => intro n h m a b; omega
  | succ d ih =>
    intro n h m a b
    rw [bd] at h
    by_cases e : inR (rd t (n : Int)) 0 hi = true
    · rw [if_pos e] at h
      by_cases e2 : m = n
      · subst e2
        simpa [inR] using e
      · exact ih (n + 1) h m (by omega) (by omega)
    · rw [if_neg e] at h
      cases h
def op (z : Int) (t : List Int) (a b : Int) : Int := rd t (wrap64 (a + (wrap64 (z * b))))
theorem opR' {z : Int} (hz : z = 1 ∨ z = 2 ∨ z = 3 ∨ z = 4) {n : Int} (hl : n = z * z) {a b : Int} (a0 : 0 ≤ a) (a1 : a < z) (b0 : 0 ≤ b) (b1 : b < z) : 0 ≤ wrap64 (a + (wrap64 (z * b))) ∧ wrap64 (a + (wrap64 (z * b))) < n := by
  rcases hz with rfl | rfl | rfl | rfl <;> rw [wrap_id (x := _ * b) (by omega) (by omega), wrap_id (by omega) (by omega)] <;> omega
theorem opR {z : Nat} (z1 : 1 ≤ z) (z4 : z ≤ 4) {t : List Int} (hl : (t.length : Int) = z * z) {a b : Int} (a0 : 0 ≤ a) (a1 : a < z) (b0 : 0 ≤ b) (b1 : b < z) : 0 ≤ wrap64 (a + (wrap64 ((z : Int) * b))) ∧ wrap64 (a + (wrap64 ((z : Int) * b))) < (t.length : Int) := by
  exact opR' (by omega) hl a0 a1 b0 b1
theorem opV {z : Nat} (z1 : 1 ≤ z) (z4 : z ≤ 4) {t : List Int} (hl : (t.length : Int) = z * z) (hb : bd (wrap64 ((z : Int) - 1)) t t.length 0 = true) {a b : Int} (a0 : 0 ≤ a) (a1 : a < z) (b0 : 0 ≤ b) (b1 : b < z) : 0 ≤ op z t a b ∧ op z t a b < z := by
  have h := opR z1 z4 hl a0 a1 b0 b1
  obtain ⟨n, hn⟩ : ∃ n : Nat, wrap64 (a + (wrap64 ((z : Int) * b))) = n := ⟨_, (Int.toNat_of_nonneg h.1).symm⟩
  have g := bd_all _ t t.length 0 hb n (by omega) (by omega)
  have w : wrap64 ((z : Int) - 1) = (z : Int) - 1 := wrap_id (by omega) (by omega)
  unfold op
  rw [hn]
  omega
theorem implOp {z : Nat} (z1 : 1 ≤ z) (z4 : z ≤ 4) {t : List Int} (hl : (t.length : Int) = z * z) {a b : Int} (a0 : 0 ≤ a) (a1 : a < z) (b0 : 0 ≤ b) (b1 : b < z) : impl_indifferent_1.f a b t z = some (op z t a b) := by
  have h := opR z1 z4 hl a0 a1 b0 b1
  unfold impl_indifferent_1.f
  rw [if_pos h.1, if_pos h.2]
  rfl
def comm (z : Int) (t : List Int) (a b : Int) : Bool := decide (op z t a b = op z t b a)
def assoc (z : Int) (t : List Int) (a b c : Int) : Bool := decide (op z t (op z t a b) c = op z t a (op z t b c))
def indB (z : Nat) (t : List Int) : Bool := allF (fun a => allF (fun b => comm z t a b && allF (fun c => assoc z t a b c) z 0) z 0) z 0
theorem implInd2 {z : Nat} (z1 : 1 ≤ z) (z4 : z ≤ 4) {t : List Int} (hl : (t.length : Int) = z * z) (hb : bd (wrap64 ((z : Int) - 1)) t t.length 0 = true) (a b : Nat) (ha : a < z) (hB : b < z) (R : Bool) (hR : Ev (fun k => impl_indifferent.l1 k a z a z ((b + 1 : Nat) : Int) z t) R) : ∀ d c : Nat, c + d = z → Ev (fun k => impl_indifferent.l2 k a b z a z b z c z t) (allF (fun c => comm z t a b && assoc z t a b c) d c && R) := by
  have hm : maxLen = 9223372036854775807 := rfl
  intro d
  induction d with
  | zero =>
    intro c hc
    refine Ev.step (fun k => by simp only [impl_indifferent.l2]; rfl) (Ev.ite_neg (by omega) ?_)
    rw [wrap_nat (by omega), allF, Bool.true_and]
    exact hR
  | succ d ih =>
    intro c hc
    have v1 := opV z1 z4 hl hb (a := (a : Int)) (b := (b : Int)) (by omega) (by omega) (by omega) (by omega)
    have v2 := opV z1 z4 hl hb (a := (b : Int)) (b := (c : Int)) (by omega) (by omega) (by omega) (by omega)
    have o1 := implOp z1 z4 hl (a := (a : Int)) (b := (b : Int)) (by omega) (by omega) (by omega) (by omega)
    have o2 := implOp z1 z4 hl (a := (b : Int)) (b := (a : Int)) (by omega) (by omega) (by omega) (by omega)
    have o3 := implOp z1 z4 hl (a := op z t a b) (b := (c : Int)) v1.1 v1.2 (by omega) (by omega)
    have o4 := implOp z1 z4 hl (a := (b : Int)) (b := (c : Int)) (by omega) (by omega) (by omega) (by omega)
    have o5 := implOp z1 z4 hl (a := (a : Int)) (b := op z t b c) (by omega) (by omega) v2.1 v2.2
    refine Ev.step (fun k => by simp only [impl_indifferent.l2]; rfl) (Ev.ite_pos (by omega) (Ev.bind (Ev.cst o1) (Ev.bind (Ev.cst o2) ?_)))
    rw [allF]
    by_cases e : op z t a b = op z t b a
    · refine Ev.ite_pos e (Ev.bind (Ev.cst o1) (Ev.bind (Ev.cst o3) (Ev.bind (Ev.cst o4) (Ev.bind (Ev.cst o5) ?_))))
      by_cases e2 : op z t (op z t a b) c = op z t a (op z t b c)
      · refine Ev.ite_pos e2 ?_
        rw [wrap_nat (by omega)]
        refine Ev.val (ih (c + 1) (by omega)) ?_
        have c1 : comm z t a b = true := decide_eq_true e
        have c2 : assoc z t a b c = true := decide_eq_true e2
        rw [c1, c2]
        rfl
      · have c2 : assoc z t a b c = false := decide_eq_false e2
        exact Ev.ite_neg e2 (Ev.val Ev.some (by rw [c2]; simp))
    · have c1 : comm z t a b = false := decide_eq_false e
      exact Ev.ite_neg e (Ev.val Ev.some (by rw [c1]; simp))
theorem implInd1 {z : Nat} (z1 : 1 ≤ z) (z4 : z ≤ 4) {t : List Int} (hl : (t.length : Int) = z * z) (hb : bd (wrap64 ((z : Int) - 1)) t t.length 0 = true) (a : Nat) (ha : a < z) (R : Bool) (hR : Ev (fun k => impl_indifferent.l0 k z ((a + 1 : Nat) : Int) z t) R) : ∀ d b : Nat, b + d = z → Ev (fun k => impl_indifferent.l1 k a z a z b z t) (allF (fun b => comm z t a b && allF (fun c => assoc z t a b c) z 0) d b && R) := by
  have hm : maxLen = 9223372036854775807 := rfl
  intro d
  induction d with
  | zero =>
    intro b hd
    refine Ev.step (fun k => by simp only [impl_indifferent.l1]; rfl) (Ev.ite_neg (by omega) ?_)
    rw [wrap_nat (by omega), allF, Bool.true_and]
    exact hR
  | succ d ih =>
    intro b hd
    refine Ev.step (fun k => by simp only [impl_indifferent.l1]; rfl) (Ev.ite_pos (by omega) ?_)
    refine Ev.val (implInd2 z1 z4 hl hb a b ha (by omega) _ (ih (b + 1) (by omega)) z 0 (by omega)) ?_
    obtain ⟨y, rfl⟩ : ∃ y, z = y + 1 := ⟨z - 1, by omega⟩
    rw [allF_and]
    show _ = (((comm ((y + 1 : Nat) : Int) t a b && allF (fun c => assoc ((y + 1 : Nat) : Int) t a b c) (y + 1) 0) && _) && R)
    rw [Bool.and_assoc, Bool.and_assoc, Bool.and_assoc]
theorem implInd0 {z : Nat} (z1 : 1 ≤ z) (z4 : z ≤ 4) {t : List Int} (hl : (t.length : Int) = z * z) (hb : bd (wrap64 ((z : Int) - 1)) t t.length 0 = true) : ∀ d a : Nat, a + d = z → Ev (fun k => impl_indifferent.l0 k z a z t) (allF (fun a => allF (fun b => comm z t a b && allF (fun c => assoc z t a b c) z 0) z 0) d a) := by
  intro d
  induction d with
  | zero =>
    intro a hd
    exact Ev.step (fun k => by simp only [impl_indifferent.l0]; rfl) (Ev.ite_neg (by omega) Ev.some)
  | succ d ih =>
    intro a hd
    refine Ev.step (fun k => by simp only [impl_indifferent.l0]; rfl) (Ev.ite_pos (by omega) ?_)
    exact implInd1 z1 z4 hl hb a (by omega) _ (ih (a + 1) (by omega)) z 0 (by omega)
theorem implInd_ev {z : Nat} (z1 : 1 ≤ z) (z4 : z ≤ 4) {t : List Int} (hl : (t.length : Int) = z * z) (hb : bd (wrap64 ((z : Int) - 1)) t t.length 0 = true) : Ev (fun k => impl_indifferent.f k z t) (indB z t) := by
  unfold impl_indifferent.f
  exact implInd0 z1 z4 hl hb z 0 (by omega)
def rowOk (z : Nat) (x : I_Sym) (t : List Int) : Bool := decide ((t.length : Int) = pw z x.f1) && (bd (wrap64 ((z : Int) - 1)) t t.length 0 && (!x.f2 || indB z t))
def wo (z : Nat) (s : List I_Sym) (T : List (List Int)) : Nat → Nat → Bool
  | 0, _ => true
  | d + 1, n => if rowOk z (rd_I_Sym s (n : Int)) (rd_Ls_i64 T (n : Int)) = true then wo z s T d (n + 1) else false
def worldOk (s : List I_Sym) (z : Int) (T : List (List Int)) : Bool := sigOk s && (inR z 1 4 && (decide (T.length = s.length) && wo z.toNat s T s.length 0))
theorem pw2 {z : Nat} {x : Int} (h : x = 2) : pw z x = z * z := by subst h; rfl
theorem implWorld_l {z : Nat} (z1 : 1 ≤ z) (z4 : z ≤ 4) (s : List I_Sym) (T : List (List Int)) (hs : sigOk s = true) (hl : s.length ≤ maxLen) (hT : T.length = s.length) (hn : ∀ x ∈ T, x.length ≤ maxLen) : ∀ d n : Nat, n + d = s.length → Ev (fun k => impl_WorldOk.l0 k s (s.length : Int) (n : Int) z T) (wo z s T d n) := by
  intro d
  induction d with
  | zero =>
    intro n hd
    exact Ev.step (fun k => by simp only [impl_WorldOk.l0]; rfl) (Ev.ite_neg (by omega) Ev.some)
  | succ d ih =>
    intro n hd
    have hx := sig_at hs (n := n) (by omega)
    have ht : (rd_Ls_i64 T (n : Int)).length ≤ maxLen := hn _ (getD_mem T [] n (by omega))
    refine Ev.step (fun k => by simp only [impl_WorldOk.l0]; rfl) (Ev.ite_pos (by omega) (Ev.ite_pos (by omega) (Ev.ite_pos (by omega) (Ev.ite_pos (by omega) (Ev.bind (places_ev z1 z4 _ hx.1.1 hx.1.2) ?_)))))
    rw [wrap_nat (by omega), wo, rowOk]
    have ih := ih (n + 1) (by omega)
    by_cases h1 : ((rd_Ls_i64 T (n : Int)).length : Int) = pw z (rd_I_Sym s (n : Int)).f1
    · refine Ev.ite_pos h1 (Ev.bind (contains_ev _ _ _ ht) ?_)
      by_cases h2 : bd (wrap64 ((z : Int) - 1)) (rd_Ls_i64 T (n : Int)) (rd_Ls_i64 T (n : Int)).length 0 = true
      · refine Ev.ite_neg (by rw [h2]; decide) ?_
        by_cases h3 : (rd_I_Sym s (n : Int)).f2 = true
        · have hl2 := h1
          rw [pw2 (hx.2 h3)] at hl2
          refine Ev.ite_pos h3 (Ev.bind (implInd_ev z1 z4 hl2 h2) ?_)
          by_cases h4 : indB z (rd_Ls_i64 T (n : Int)) = true
          · exact Ev.ite_pos h4 (Ev.val ih (by simp [h1, h2, h3, h4]))
          · exact Ev.ite_neg h4 (Ev.val Ev.some (by simp [h1, h2, h3, h4]))
        · exact Ev.ite_neg h3 (Ev.val ih (by simp [h1, h2, h3]))
      · rw [Bool.not_eq_true] at h2
        exact Ev.ite_pos (by rw [h2]; decide) (Ev.val Ev.some (by simp [h2]))
    · exact Ev.ite_neg h1 (Ev.val Ev.some (by rw [decide_eq_false h1]; rfl))
theorem implWorldOk_ev (s : List I_Sym) (z : Int) (T : List (List Int)) (hl : s.length ≤ maxLen) (hn : ∀ x ∈ s, x.f0.size ≤ maxLen) (ht : ∀ x ∈ T, x.length ≤ maxLen) : Ev (fun k => impl_WorldOk.f k s z T) (worldOk s z T) := by
  unfold impl_WorldOk.f worldOk
  refine Ev.bind (implSigOk_ev s hl hn) ?_
  have hf : Ev (fun k => impl_WorldOk.j0 k s true z T) false := by
    refine Ev.step (fun k => by simp only [impl_WorldOk.j0]; rfl) ?_
    exact Ev.some
  by_cases h1 : sigOk s = true
  · refine Ev.ite_pos h1 (Ev.bind (Ev.cst (implInR _ _ _)) ?_)
    by_cases h2 : inR z 1 4 = true
    · refine Ev.ite_pos h2 (Ev.step (fun k => by simp only [impl_WorldOk.j0]; rfl) ?_)
      by_cases h3 : T.length = s.length
      · have h2' := h2
        simp [inR] at h2'
        obtain ⟨y, hy⟩ : ∃ y : Nat, z = (y : Int) := ⟨z.toNat, by omega⟩
        subst hy
        exact Ev.ite_neg (by simp [h3]) (Ev.val (implWorld_l (by omega) (by omega) s T h1 hl h3 ht s.length 0 (by omega)) (by simp [h1, h2, h3]))
      · exact Ev.ite_pos (by simp; omega) (Ev.val Ev.some (by simp [h3]))
    · exact Ev.ite_neg h2 (Ev.val hf (by simp [h2]))
  · exact Ev.ite_neg h1 (Ev.val hf (by simp [h1]))
theorem tabs_len {T : List (List Int)} (h : el_IntSS T ≤ maxLen) : ∀ x ∈ T, x.length ≤ maxLen := by
  intro x hx
  have := mem_size el_IntS hx
  have e : x.length ≤ el_IntS x := by unfold el_IntS; omega
  unfold el_IntSS at h
  omega
/-! #### the reference's WorldOk -/
theorem power_ev {z : Nat} (z1 : 1 ≤ z) (z4 : z ≤ 4) (a : Int) (h0 : 0 ≤ a) (h1 : a ≤ 3) : Ev (fun k => spec_l24Power.f k z a) (pw z a) := by
  have hz : z = 1 ∨ z = 2 ∨ z = 3 ∨ z = 4 := by omega
  have ha : a = 0 ∨ a = 1 ∨ a = 2 ∨ a = 3 := by omega
  refine Ev.of (fun k => spec_l24Power.mono z a k) (k := 8) ?_
  rcases hz with rfl | rfl | rfl | rfl <;> rcases ha with rfl | rfl | rfl | rfl <;> decide +kernel
theorem specOp {z : Nat} (z1 : 1 ≤ z) (z4 : z ≤ 4) {T : List (List Int)} {i : Nat} (hi : i < T.length) (hl : ((rd_Ls_i64 T (i : Int)).length : Int) = z * z) {a b : Int} (a0 : 0 ≤ a) (a1 : a < z) (b0 : 0 ≤ b) (b1 : b < z) : spec_l24Two.f z T (i : Int) a b = some (op z (rd_Ls_i64 T (i : Int)) a b) := by
  have h := opR z1 z4 hl a0 a1 b0 b1
  unfold spec_l24Two.f
  rw [if_pos (by omega), if_pos (by omega), if_pos h.1, if_pos h.2]
  rfl
theorem specInd2 {z : Nat} (z1 : 1 ≤ z) (z4 : z ≤ 4) {T : List (List Int)} {i : Nat} (hi : i < T.length) (hl : ((rd_Ls_i64 T (i : Int)).length : Int) = z * z) (hb : bd (wrap64 ((z : Int) - 1)) (rd_Ls_i64 T (i : Int)) (rd_Ls_i64 T (i : Int)).length 0 = true) (a b : Nat) (ha : a < z) (hB : b < z) (R : Bool) (hR : Ev (fun k => spec_l24Blind.l1 k (i : Int) a ((b + 1 : Nat) : Int) z T) R) : ∀ d c : Nat, c + d = z → Ev (fun k => spec_l24Blind.l2 k (i : Int) a b c z T) (allF (fun c => assoc z (rd_Ls_i64 T (i : Int)) a b c) d c && R) := by
  have hm : maxLen = 9223372036854775807 := rfl
  intro d
  induction d with
  | zero =>
    intro c hc
    refine Ev.step (fun k => by simp only [spec_l24Blind.l2]; rfl) (Ev.ite_neg (by omega) ?_)
    rw [wrap_nat (by omega), allF, Bool.true_and]
    exact hR
  | succ d ih =>
    intro c hc
    have v1 := opV z1 z4 hl hb (a := (a : Int)) (b := (b : Int)) (by omega) (by omega) (by omega) (by omega)
    have v2 := opV z1 z4 hl hb (a := (b : Int)) (b := (c : Int)) (by omega) (by omega) (by omega) (by omega)
    have o1 := specOp z1 z4 hi hl (a := (a : Int)) (b := (b : Int)) (by omega) (by omega) (by omega) (by omega)
    have o2 := specOp z1 z4 hi hl (a := (b : Int)) (b := (a : Int)) (by omega) (by omega) (by omega) (by omega)
    have o3 := specOp z1 z4 hi hl (a := op z (rd_Ls_i64 T (i : Int)) a b) (b := (c : Int)) v1.1 v1.2 (by omega) (by omega)
    have o4 := specOp z1 z4 hi hl (a := (b : Int)) (b := (c : Int)) (by omega) (by omega) (by omega) (by omega)
    have o5 := specOp z1 z4 hi hl (a := (a : Int)) (b := op z (rd_Ls_i64 T (i : Int)) b c) (by omega) (by omega) v2.1 v2.2
    refine Ev.step (fun k => by simp only [spec_l24Blind.l2]; rfl) (Ev.ite_pos (by omega) ?_)
    rw [allF]
    refine Ev.bind (Ev.cst o1) (Ev.bind (Ev.cst o3) (Ev.bind (Ev.cst o4) (Ev.bind (Ev.cst o5) ?_)))
    by_cases e2 : op z (rd_Ls_i64 T (i : Int)) (op z (rd_Ls_i64 T (i : Int)) a b) c = op z (rd_Ls_i64 T (i : Int)) a (op z (rd_Ls_i64 T (i : Int)) b c)
    · refine Ev.ite_pos e2 ?_
      rw [wrap_nat (by omega)]
      refine Ev.val (ih (c + 1) (by omega)) ?_
      have c2 : assoc z (rd_Ls_i64 T (i : Int)) a b c = true := decide_eq_true e2
      rw [c2]
      rfl
    · have c2 : assoc z (rd_Ls_i64 T (i : Int)) a b c = false := decide_eq_false e2
      exact Ev.ite_neg e2 (Ev.val Ev.some (by rw [c2]; simp))
theorem specInd1 {z : Nat} (z1 : 1 ≤ z) (z4 : z ≤ 4) {T : List (List Int)} {i : Nat} (hi : i < T.length) (hl : ((rd_Ls_i64 T (i : Int)).length : Int) = z * z) (hb : bd (wrap64 ((z : Int) - 1)) (rd_Ls_i64 T (i : Int)) (rd_Ls_i64 T (i : Int)).length 0 = true) (a : Nat) (ha : a < z) (R : Bool) (hR : Ev (fun k => spec_l24Blind.l0 k (i : Int) ((a + 1 : Nat) : Int) z T) R) : ∀ d b : Nat, b + d = z → Ev (fun k => spec_l24Blind.l1 k (i : Int) a b z T) (allF (fun b => comm z (rd_Ls_i64 T (i : Int)) a b && allF (fun c => assoc z (rd_Ls_i64 T (i : Int)) a b c) z 0) d b && R) := by
  have hm : maxLen = 9223372036854775807 := rfl
  intro d
  induction d with
  | zero =>
    intro b hd
    refine Ev.step (fun k => by simp only [spec_l24Blind.l1]; rfl) (Ev.ite_neg (by omega) ?_)
    rw [wrap_nat (by omega), allF, Bool.true_and]
    exact hR
  | succ d ih =>
    intro b hd
    refine Ev.step (fun k => by simp only [spec_l24Blind.l1]; rfl) (Ev.ite_pos (by omega) ?_)
    have o1 := specOp z1 z4 hi hl (a := (a : Int)) (b := (b : Int)) (by omega) (by omega) (by omega) (by omega)
    have o2 := specOp z1 z4 hi hl (a := (b : Int)) (b := (a : Int)) (by omega) (by omega) (by omega) (by omega)
    refine Ev.bind (Ev.cst o1) (Ev.bind (Ev.cst o2) ?_)
    rw [allF]
    by_cases e : op z (rd_Ls_i64 T (i : Int)) a b = op z (rd_Ls_i64 T (i : Int)) b a
    · refine Ev.ite_pos e (Ev.val (specInd2 z1 z4 hi hl hb a b ha (by omega) _ (ih (b + 1) (by omega)) z 0 (by omega)) ?_)
      have c1 : comm z (rd_Ls_i64 T (i : Int)) a b = true := decide_eq_true e
      rw [c1]
      simp [Bool.and_assoc]
    · have c1 : comm z (rd_Ls_i64 T (i : Int)) a b = false := decide_eq_false e
      exact Ev.ite_neg e (Ev.val Ev.some (by rw [c1]; simp))
theorem specInd0 {z : Nat} (z1 : 1 ≤ z) (z4 : z ≤ 4) {T : List (List Int)} {i : Nat} (hi : i < T.length) (hl : ((rd_Ls_i64 T (i : Int)).length : Int) = z * z) (hb : bd (wrap64 ((z : Int) - 1)) (rd_Ls_i64 T (i : Int)) (rd_Ls_i64 T (i : Int)).length 0 = true) : ∀ d a : Nat, a + d = z → Ev (fun k => spec_l24Blind.l0 k (i : Int) a z T) (allF (fun a => allF (fun b => comm z (rd_Ls_i64 T (i : Int)) a b && allF (fun c => assoc z (rd_Ls_i64 T (i : Int)) a b c) z 0) z 0) d a) := by
  intro d
  induction d with
  | zero =>
    intro a hd
    exact Ev.step (fun k => by simp only [spec_l24Blind.l0]; rfl) (Ev.ite_neg (by omega) Ev.some)
  | succ d ih =>
    intro a hd
    refine Ev.step (fun k => by simp only [spec_l24Blind.l0]; rfl) (Ev.ite_pos (by omega) ?_)
    have hm : maxLen = 9223372036854775807 := rfl
    have ih := ih (a + 1) (by omega)
    exact specInd1 z1 z4 hi hl hb a (by omega) _ ih z 0 (by omega)
theorem specInd_ev {z : Nat} (z1 : 1 ≤ z) (z4 : z ≤ 4) {T : List (List Int)} {i : Nat} (hi : i < T.length) (hl : ((rd_Ls_i64 T (i : Int)).length : Int) = z * z) (hb : bd (wrap64 ((z : Int) - 1)) (rd_Ls_i64 T (i : Int)) (rd_Ls_i64 T (i : Int)).length 0 = true) : Ev (fun k => spec_l24Blind.f k z T (i : Int)) (indB z (rd_Ls_i64 T (i : Int))) := by
  unfold spec_l24Blind.f
  exact specInd0 z1 z4 hi hl hb z 0 (by omega)
theorem specWorld_r {z : Nat} (s : List I_Sym) (T : List (List Int)) (hT : T.length = s.length) (n : Nat) (hn : n < s.length) (ht : (rd_Ls_i64 T (n : Int)).length ≤ maxLen) (R : Bool) (hR : bd (wrap64 ((z : Int) - 1)) (rd_Ls_i64 T (n : Int)) (rd_Ls_i64 T (n : Int)).length 0 = true → Ev (fun k => if (rd_I_Sym s (n : Int)).f2 = true then ((spec_l24Blind.f k z T (n : Int)).bind fun t157 => (if t157 = true then (spec_WorldOk.l0 k s (wrap64 ((n : Int) + 1)) z T) else (some false))) else (spec_WorldOk.l0 k s (wrap64 ((n : Int) + 1)) z T)) R) : ∀ d m : Nat, m + d = (rd_Ls_i64 T (n : Int)).length → (bd (wrap64 ((z : Int) - 1)) (rd_Ls_i64 T (n : Int)) (rd_Ls_i64 T (n : Int)).length 0 = bd (wrap64 ((z : Int) - 1)) (rd_Ls_i64 T (n : Int)) d m) → Ev (fun k => spec_WorldOk.l1 k s (n : Int) (m : Int) z T) (bd (wrap64 ((z : Int) - 1)) (rd_Ls_i64 T (n : Int)) d m && R) := by
  intro d
  induction d with
  | zero =>
    intro m hd hb
    refine Ev.step (fun k => by simp only [spec_WorldOk.l1]; rfl) (Ev.ite_pos (by omega) (Ev.ite_pos (by omega) (Ev.ite_neg (by omega) (Ev.ite_pos (by omega) (Ev.val (hR (by rw [hb]; rfl)) (by simp [bd]))))))
  | succ d ih =>
    intro m hd hb
    refine Ev.step (fun k => by simp only [spec_WorldOk.l1]; rfl) (Ev.ite_pos (by omega) (Ev.ite_pos (by omega) (Ev.ite_pos (by omega) (Ev.ite_pos (by omega) (Ev.bind (Ev.cst (specInR _ _ _)) ?_)))))
    rw [wrap_nat (by omega), bd]
    rw [bd] at hb
    by_cases e : inR (rd (rd_Ls_i64 T (n : Int)) (m : Int)) 0 (wrap64 ((z : Int) - 1)) = true
    · rw [if_pos e] at hb
      rw [if_pos e]
      exact Ev.ite_pos e (ih (m + 1) (by omega) hb)
    · rw [if_neg e]
      exact Ev.ite_neg e Ev.some
theorem specWorld_l {z : Nat} (z1 : 1 ≤ z) (z4 : z ≤ 4) (s : List I_Sym) (T : List (List Int)) (hs : sigOk s = true) (hl : s.length ≤ maxLen) (hT : T.length = s.length) (hn : ∀ x ∈ T, x.length ≤ maxLen) : ∀ d n : Nat, n + d = s.length → Ev (fun k => spec_WorldOk.l0 k s (n : Int) z T) (wo z s T d n) := by
  intro d
  induction d with
  | zero =>
    intro n hd
    exact Ev.step (fun k => by simp only [spec_WorldOk.l0]; rfl) (Ev.ite_neg (by omega) Ev.some)
  | succ d ih =>
    intro n hd
    have hx := sig_at hs (n := n) (by omega)
    have ht : (rd_Ls_i64 T (n : Int)).length ≤ maxLen := hn _ (getD_mem T [] n (by omega))
    refine Ev.step (fun k => by simp only [spec_WorldOk.l0]; rfl) (Ev.ite_pos (by omega) (Ev.ite_pos (by omega) (Ev.ite_pos (by omega) (Ev.bind (power_ev z1 z4 _ hx.1.1 hx.1.2) ?_))))
    rw [wo, rowOk]
    have ih := ih (n + 1) (by omega)
    rw [← wrap_nat (by omega)] at ih
    by_cases h1 : ((rd_Ls_i64 T (n : Int)).length : Int) = pw z (rd_I_Sym s (n : Int)).f1
    · refine Ev.ite_pos h1 ?_
      refine Ev.val (specWorld_r s T hT n (by omega) ht (if (rd_I_Sym s (n : Int)).f2 = true then (if indB z (rd_Ls_i64 T (n : Int)) = true then wo z s T d (n + 1) else false) else wo z s T d (n + 1)) (fun h2 => ?_) (rd_Ls_i64 T (n : Int)).length 0 (by omega) rfl) ?_
      · by_cases h3 : (rd_I_Sym s (n : Int)).f2 = true
        · have hl2 := h1
          rw [pw2 (hx.2 h3)] at hl2
          rw [if_pos h3]
          refine Ev.ite_pos h3 (Ev.bind (specInd_ev z1 z4 (by omega) hl2 h2) ?_)
          by_cases h4 : indB z (rd_Ls_i64 T (n : Int)) = true
          · rw [if_pos h4]; exact Ev.ite_pos h4 ih
          · rw [if_neg h4]; exact Ev.ite_neg h4 Ev.some
        · rw [if_neg h3]; exact Ev.ite_neg h3 ih
      · by_cases h2 : bd (wrap64 ((z : Int) - 1)) (rd_Ls_i64 T (n : Int)) (rd_Ls_i64 T (n : Int)).length 0 = true
        · by_cases h3 : (rd_I_Sym s (n : Int)).f2 = true
          · by_cases h4 : indB z (rd_Ls_i64 T (n : Int)) = true
            · simp [h1, h2, h3, h4]
            · simp [h1, h2, h3, h4]
          · simp [h1, h2, h3]
        · simp [h2]
    · exact Ev.ite_neg h1 (Ev.val Ev.some (by rw [decide_eq_false h1]; rfl))
theorem specWorldOk_ev (s : List I_Sym) (z : Int) (T : List (List Int)) (hl : s.length ≤ maxLen) (hn : ∀ x ∈ s, x.f0.size ≤ maxLen) (ht : ∀ x ∈ T, x.length ≤ maxLen) : Ev (fun k => spec_WorldOk.f k s z T) (worldOk s z T) := by
  unfold spec_WorldOk.f worldOk
  refine Ev.bind (specSigOk_ev s hl hn) ?_
  have hf : Ev (fun k => spec_WorldOk.j0 k s true z T) false := by
    refine Ev.step (fun k => by simp only [spec_WorldOk.j0]; rfl) ?_
    exact Ev.some
  by_cases h1 : sigOk s = true
  · refine Ev.ite_pos h1 (Ev.bind (Ev.cst (specInR _ _ _)) ?_)
    by_cases h2 : inR z 1 4 = true
    · refine Ev.ite_pos h2 (Ev.step (fun k => by simp only [spec_WorldOk.j0]; rfl) ?_)
      by_cases h3 : T.length = s.length
      · have h2' := h2
        simp [inR] at h2'
        obtain ⟨y, hy⟩ : ∃ y : Nat, z = (y : Int) := ⟨z.toNat, by omega⟩
        subst hy
        exact Ev.ite_neg (by simp [h3]) (Ev.val (specWorld_l (by omega) (by omega) s T h1 hl h3 ht s.length 0 (by omega)) (by simp [h1, h2, h3]))
      · exact Ev.ite_pos (by simp; omega) (Ev.val Ev.some (by simp [h3]))
    · exact Ev.ite_neg h2 (Ev.val hf (by simp [h2]))
  · exact Ev.ite_neg h1 (Ev.val hf (by simp [h1]))
/-! #### what is known of a world that is right -/
theorem wo_all {z : Nat} {s : List I_Sym} {T : List (List Int)} : ∀ d n : Nat, wo z s T d n = true → ∀ m, n ≤ m → m < n + d → rowOk z (rd_I_Sym s (m : Int)) (rd_Ls_i64 T (m : Int)) = true := by
  intro d
  induction d with
  | zero => intro n h m a b; omega
  | succ d ih =>
    intro n h m a b
    rw [wo] at h
    by_cases e : rowOk z (rd_I_Sym s (n : Int)) (rd_Ls_i64 T (n : Int)) = true
    · rw [if_pos e] at h
      by_cases e2 : m = n
      · subst e2; exact e
      · exact ih (n + 1) h m (by omega) (by omega)
    · rw [if_neg e] at h
      cases h
/-- what is known of a world that is right, function by function -/
structure Row (s : List I_Sym) (z : Int) (T : List (List Int)) (f : Int) : Prop where
  lt : f < (T.length : Int)
  ar : 0 ≤ (rd_I_Sym s f).f1 ∧ (rd_I_Sym s f).f1 ≤ 3
  ac : (rd_I_Sym s f).f2 = true → (rd_I_Sym s f).f1 = 2
  len : ((rd_Ls_i64 T f).length : Int) = pw z (rd_I_Sym s f).f1
  val : ∀ i : Int, 0 ≤ i → i < ((rd_Ls_i64 T f).length : Int) → 0 ≤ rd (rd_Ls_i64 T f) i ∧ rd (rd_Ls_i64 T f) i < z
theorem world_row {s : List I_Sym} {z : Int} {T : List (List Int)} (h : worldOk s z T = true) : (z = 1 ∨ z = 2 ∨ z = 3 ∨ z = 4) ∧ ∀ f : Int, 0 ≤ f → f < (s.length : Int) → Row s z T f := by
  unfold worldOk at h
  simp only [Bool.and_eq_true, decide_eq_true_eq] at h
  obtain ⟨h1, h2, h3, h4⟩ := h
  simp [inR] at h2
  refine ⟨by omega, fun f f0 f1 => ?_⟩
  obtain ⟨n, rfl⟩ : ∃ n : Nat, f = n := ⟨f.toNat, by omega⟩
  have g := wo_all s.length 0 h4 n (by omega) (by omega)
  have sg := sig_at h1 (n := n) (by omega)
  unfold rowOk at g
  simp only [Bool.and_eq_true, decide_eq_true_eq] at g
  obtain ⟨y, rfl⟩ : ∃ y : Nat, z = y := ⟨z.toNat, by omega⟩
  rw [Int.toNat_natCast] at g
  have w : wrap64 ((y : Int) - 1) = (y : Int) - 1 := wrap_id (by omega) (by omega)
  refine ⟨by omega, sg.1, sg.2, g.1, fun i i0 i1 => ?_⟩
  obtain ⟨m, rfl⟩ : ∃ m : Nat, i = m := ⟨i.toNat, by omega⟩
  have := bd_all _ _ _ 0 g.2.1 m (by omega) (by omega)
  rw [w] at this
  omega
/-! #### places of tables: which arguments they tell -/
def dg (n : Int) : Nat → Int → List Int
  | 0, _ => []
  | d + 1, k => Int.tmod k n :: dg n d (wrap64 (Int.tdiv k n))
/-- the place in a table of a world of z things that a place of one of n things tells -/
def sAt (z n : Int) : Nat → Int → Int → Int → Int
  | 0, a, _, _ => a
  | d + 1, a, l, s => sAt z n d (wrap64 (a + (wrap64 (s * (Int.tmod l n))))) (wrap64 (Int.tdiv l n)) (wrap64 (s * z))
def digB (n a k : Nat) : Bool := !(decide (1 ≤ n) && decide (k < n ^ a)) || decide (impl_digitsOf.f 8 (k : Int) (n : Int) (a : Int) = some (dg n a k))
def sAtB (z n a k : Nat) : Bool := !(decide (1 ≤ n) && (decide (n ≤ z) && decide (k < n ^ a))) || (decide (impl_placeOf.f 8 (dg (n : Int) a (k : Int)) (z : Int) = some (sAt z n a 0 k 1)) && (decide (0 ≤ sAt z n a 0 k 1) && decide (sAt z n a 0 k 1 < pw z (a : Int))))
theorem digB_all : ((List.range 5).all fun n => (List.range 4).all fun a => (List.range 65).all fun k => digB n a k) = true := by decide +kernel
theorem sAtB_all : ((List.range 5).all fun z => (List.range 5).all fun n => (List.range 4).all fun a => (List.range 65).all fun k => sAtB z n a k) = true := by decide +kernel
theorem digits_fin (n : Nat) (hn : n < 5) (a : Nat) (ha : a < 4) (k : Nat) (hk : k < 65) (h1 : 1 ≤ n) (h2 : k < n ^ a) : impl_digitsOf.f 8 (k : Int) (n : Int) (a : Int) = some (dg n a k) := by
  have h := List.all_eq_true.1 (List.all_eq_true.1 (List.all_eq_true.1 digB_all n (List.mem_range.2 hn)) a (List.mem_range.2 ha)) k (List.mem_range.2 hk)
  unfold digB at h
  rw [decide_eq_true h1, decide_eq_true h2] at h
  simpa using h
theorem sAt_fin (z : Nat) (hz : z < 5) (n : Nat) (hn : n < 5) (a : Nat) (ha : a < 4) (k : Nat) (hk : k < 65) (h1 : 1 ≤ n) (h2 : n ≤ z) (h3 : k < n ^ a) : impl_placeOf.f 8 (dg (n : Int) a (k : Int)) (z : Int) = some (sAt z n a 0 k 1) ∧ (0 ≤ sAt z n a 0 k 1 ∧ sAt z n a 0 k 1 < pw z (a : Int)) := by
  have h := List.all_eq_true.1 (List.all_eq_true.1 (List.all_eq_true.1 (List.all_eq_true.1 sAtB_all z (List.mem_range.2 hz)) n (List.mem_range.2 hn)) a (List.mem_range.2 ha)) k (List.mem_range.2 hk)
  unfold sAtB at h
  rw [decide_eq_true h1, decide_eq_true h2, decide_eq_true h3] at h
  simpa using h
theorem pow_le {n a : Nat} (h : n ≤ 4) (ha : a ≤ 3) : n ^ a ≤ 64 := by
  have h1 : n = 0 ∨ n = 1 ∨ n = 2 ∨ n = 3 ∨ n = 4 := by omega
  have h2 : a = 0 ∨ a = 1 ∨ a = 2 ∨ a = 3 := by omega
  rcases h1 with rfl | rfl | rfl | rfl | rfl <;> rcases h2 with rfl | rfl | rfl | rfl <;> decide
theorem pw_nat {n a : Nat} (ha : a ≤ 3) : pw (n : Nat) (a : Nat) = ((n ^ a : Nat) : Int) := by
  have h2 : a = 0 ∨ a = 1 ∨ a = 2 ∨ a = 3 := by omega
  rcases h2 with rfl | rfl | rfl | rfl <;> simp [pw, Nat.pow_succ]
theorem digits_ev {n a k : Nat} (n1 : 1 ≤ n) (n4 : n ≤ 4) (ha : a ≤ 3) (hk : k < n ^ a) : Ev (fun r => impl_digitsOf.f r (k : Int) (n : Int) (a : Int)) (dg n a k) := Ev.of (fun r => impl_digitsOf.mono (k : Int) (n : Int) (a : Int) r) (k := 8) (digits_fin n (by omega) a (by omega) k (by have := pow_le n4 ha; omega) n1 hk)
theorem dg_len (n : Int) : ∀ (d : Nat) (k : Int), (dg n d k).length = d := by
  intro d
  induction d with
  | zero => intro k; rfl
  | succ d ih => intro k; rw [dg, List.length_cons, ih]
/-! #### two worlds at once -/
def pAt (a c : Int) : Nat → Int → Int → Int → Int
  | 0, p, _, _ => p
  | d + 1, p, l, st => pAt a c d (wrap64 (p + (wrap64 (st * (Int.tmod (Int.tmod l c) a))))) (wrap64 (Int.tdiv l c)) (wrap64 (st * a))
def qAt (a b c : Int) : Nat → Int → Int → Int → Int
  | 0, q, _, _ => q
  | d + 1, q, l, st => qAt a b c d (wrap64 (q + (wrap64 (st * (wrap64 (Int.tdiv (Int.tmod l c) a)))))) (wrap64 (Int.tdiv l c)) (wrap64 (st * b))
def mdA (a : Int) (l : List Int) : List Int := l.map fun x => Int.tmod x a
def dvA (a : Int) (l : List Int) : List Int := l.map fun x => wrap64 (Int.tdiv x a)
def pqB (a b r k : Nat) : Bool := !(decide (1 ≤ a) && (decide (1 ≤ b) && (decide (a * b ≤ 4) && decide (k < (a * b) ^ r)))) || ((decide (impl_placeOf.f 8 (mdA a (dg ((a * b : Nat) : Int) r (k : Int))) (a : Int) = some (pAt a ((a * b : Nat) : Int) r 0 k 1)) && (decide (0 ≤ pAt a ((a * b : Nat) : Int) r 0 k 1) && decide (pAt a ((a * b : Nat) : Int) r 0 k 1 < pw a (r : Int)))) && (decide (impl_placeOf.f 8 (dvA a (dg ((a * b : Nat) : Int) r (k : Int))) (b : Int) = some (qAt a b ((a * b : Nat) : Int) r 0 k 1)) && (decide (0 ≤ qAt a b ((a * b : Nat) : Int) r 0 k 1) && decide (qAt a b ((a * b : Nat) : Int) r 0 k 1 < pw b (r : Int)))))
theorem pqB_all : ((List.range 5).all fun a => (List.range 5).all fun b => (List.range 4).all fun r => (List.range 65).all fun k => pqB a b r k) = true := by decide +kernel
theorem pq_fin {a b r k : Nat} (h1 : 1 ≤ a) (h2 : 1 ≤ b) (h3 : a * b ≤ 4) (hr : r ≤ 3) (h4 : k < (a * b) ^ r) : (impl_placeOf.f 8 (mdA a (dg ((a * b : Nat) : Int) r (k : Int))) (a : Int) = some (pAt a ((a * b : Nat) : Int) r 0 k 1) ∧ (0 ≤ pAt a ((a * b : Nat) : Int) r 0 k 1 ∧ pAt a ((a * b : Nat) : Int) r 0 k 1 < pw a (r : Int))) ∧ (impl_placeOf.f 8 (dvA a (dg ((a * b : Nat) : Int) r (k : Int))) (b : Int) = some (qAt a b ((a * b : Nat) : Int) r 0 k 1) ∧ (0 ≤ qAt a b ((a * b : Nat) : Int) r 0 k 1 ∧ qAt a b ((a * b : Nat) : Int) r 0 k 1 < pw b (r : Int))) := by
  have ha : a ≤ 4 := Nat.le_trans (Nat.le_mul_of_pos_right a h2) h3
  have hb : b ≤ 4 := Nat.le_trans (Nat.le_mul_of_pos_left b h1) h3
  have hk := pow_le (n := a * b) (a := r) h3 hr
  have h := List.all_eq_true.1 (List.all_eq_true.1 (List.all_eq_true.1 (List.all_eq_true.1 pqB_all a (List.mem_range.2 (by omega))) b (List.mem_range.2 (by omega))) r (List.mem_range.2 (by omega))) k (List.mem_range.2 (by omega))
  unfold pqB at h
  rw [decide_eq_true h1, decide_eq_true h2, decide_eq_true h3, decide_eq_true h4] at h
  simpa using h
theorem each1_1_ev (l : List Int) (hl : l.length ≤ 100) (a : Int) (ha : a ≠ 0) (T : List (List Int)) : Ev (fun q => impl_each1_with_impl_Product_1_1.f q l a T) (mdA a l) := by
  have hm : maxLen = 9223372036854775807 := rfl
  have key : ∀ d i : Nat, i + d = l.length → ∀ acc : List Int, acc.length = i → Ev (fun q => impl_each1_with_impl_Product_1_1.l0 q acc l (l.length : Int) (i : Int) a T) (acc ++ mdA a (l.drop i)) := by
    intro d
    induction d with
    | zero =>
      intro i hi acc hac
      refine Ev.step (fun q => by simp only [impl_each1_with_impl_Product_1_1.l0]; rfl) (Ev.ite_neg (by omega) (Ev.val Ev.some ?_))
      rw [List.drop_of_length_le (by omega)]
      simp [mdA]
    | succ d ih =>
      intro i hi acc hac
      have hx : impl_Product_1_1.f (rd l (i : Int)) a T = some (Int.tmod (rd l (i : Int)) a) := by
        unfold impl_Product_1_1.f
        rw [if_neg ha]
      refine Ev.step (fun q => by simp only [impl_each1_with_impl_Product_1_1.l0]; rfl) (Ev.ite_pos (by omega) (Ev.ite_pos (by omega) (Ev.ite_pos (by omega) (Ev.bind (Ev.cst hx) ?_))))
      refine Ev.ite_pos (by omega) ?_
      rw [wrap_nat (by omega)]
      refine Ev.val (ih (i + 1) (by omega) _ (by rw [List.length_append, List.length_singleton]; omega)) ?_
      rw [List.append_assoc, List.singleton_append, getD_drop l 0 i (by omega)]
      rfl
  exact key l.length 0 (by omega) [] rfl
theorem each1_2_ev (l : List Int) (hl : l.length ≤ 100) (a : Int) (ha : a ≠ 0) (T : List (List Int)) : Ev (fun q => impl_each1_with_impl_Product_1_2.f q l a T) (dvA a l) := by
  have hm : maxLen = 9223372036854775807 := rfl
  have key : ∀ d i : Nat, i + d = l.length → ∀ acc : List Int, acc.length = i → Ev (fun q => impl_each1_with_impl_Product_1_2.l0 q acc l (l.length : Int) (i : Int) a T) (acc ++ dvA a (l.drop i)) := by
    intro d
    induction d with
    | zero =>
      intro i hi acc hac
      refine Ev.step (fun q => by simp only [impl_each1_with_impl_Product_1_2.l0]; rfl) (Ev.ite_neg (by omega) (Ev.val Ev.some ?_))
      rw [List.drop_of_length_le (by omega)]
      simp [dvA]
    | succ d ih =>
      intro i hi acc hac
      have hx : impl_Product_1_2.f (rd l (i : Int)) a T = some (wrap64 (Int.tdiv (rd l (i : Int)) a)) := by
        unfold impl_Product_1_2.f
        rw [if_neg ha]
      refine Ev.step (fun q => by simp only [impl_each1_with_impl_Product_1_2.l0]; rfl) (Ev.ite_pos (by omega) (Ev.ite_pos (by omega) (Ev.ite_pos (by omega) (Ev.bind (Ev.cst hx) ?_))))
      refine Ev.ite_pos (by omega) ?_
      rw [wrap_nat (by omega)]
      refine Ev.val (ih (i + 1) (by omega) _ (by rw [List.length_append, List.length_singleton]; omega)) ?_
      rw [List.append_assoc, List.singleton_append, getD_drop l 0 i (by omega)]
      rfl
  exact key l.length 0 (by omega) [] rfl
/-- one entry of the product's table -/
def prE (a b : Nat) (ta tb : List Int) (r k : Nat) : Int := wrap64 ((rd ta (pAt a ((a * b : Nat) : Int) r 0 k 1)) + (wrap64 ((a : Int) * (rd tb (qAt a b ((a * b : Nat) : Int) r 0 k 1)))))
def prR (a b : Nat) (ta tb : List Int) (r : Nat) : Nat → Nat → List Int
  | 0, _ => []
  | d + 1, k => prE a b ta tb r k :: prR a b ta tb r d (k + 1)
theorem prR_len (a b : Nat) (ta tb : List Int) (r : Nat) : ∀ d k : Nat, (prR a b ta tb r d k).length = d := by
  intro d
  induction d with
  | zero => intro k; rfl
  | succ d ih => intro k; rw [prR, List.length_cons, ih]
def prT (s : List I_Sym) (a b : Nat) (A B : List (List Int)) : Nat → Nat → List (List Int)
  | 0, _ => []
  | d + 1, f => prR a b (rd_Ls_i64 A (f : Int)) (rd_Ls_i64 B (f : Int)) (rd_I_Sym s (f : Int)).f1.toNat ((a * b) ^ (rd_I_Sym s (f : Int)).f1.toNat) 0 :: prT s a b A B d (f + 1)
theorem prT_rows (s : List I_Sym) (a b : Nat) (A B : List (List Int)) (hab : a * b ≤ 4) (hs : ∀ f : Nat, f < s.length → (rd_I_Sym s (f : Int)).f1 ≤ 3) : ∀ d f : Nat, f + d ≤ s.length → (prT s a b A B d f).length = d ∧ ∀ x ∈ prT s a b A B d f, x.length ≤ 64 := by
  intro d
  induction d with
  | zero => intro f h; exact ⟨rfl, fun x hx => by simp [prT] at hx⟩
  | succ d ih =>
    intro f h
    have i := ih (f + 1) (by omega)
    rw [prT]
    refine ⟨by rw [List.length_cons, i.1], fun x hx => ?_⟩
    rcases List.mem_cons.1 hx with rfl | hx
    · rw [prR_len]
      have := hs f (by omega)
      exact pow_le hab (by omega)
    · exact i.2 x hx
theorem specPr2 (s : List I_Sym) {a b : Nat} (h1 : 1 ≤ a) (h2 : 1 ≤ b) (A B : List (List Int)) (f : Nat) (hf : f < s.length) (acc : List Int) (k : Int) (R : List (List Int)) (v : Int × List (List Int) × Bool) (r : Nat) (hr : (rd_I_Sym s (f : Int)).f1 = r) (hr3 : r ≤ 3) : ∀ d i : Nat, i + d = r → ∀ p q l sa sb : Int, Ev (fun z => if (f : Int) < (A.length : Int) then (if 0 ≤ pAt a ((a * b : Nat) : Int) d p l sa then (if pAt a ((a * b : Nat) : Int) d p l sa < ((rd_Ls_i64 A (f : Int)).length : Int) then (if (f : Int) < (B.length : Int) then (if 0 ≤ qAt a b ((a * b : Nat) : Int) d q l sb then (if qAt a b ((a * b : Nat) : Int) d q l sb < ((rd_Ls_i64 B (f : Int)).length : Int) then (if acc.length < 17592186044416 then (spec_Product.l1 z s f (acc ++ [wrap64 ((rd (rd_Ls_i64 A (f : Int)) (pAt a ((a * b : Nat) : Int) d p l sa)) + (wrap64 ((a : Int) * (rd (rd_Ls_i64 B (f : Int)) (qAt a b ((a * b : Nat) : Int) d q l sb)))))]) (wrap64 (k + 1)) a A b B ((a * b : Nat) : Int) R) else (none)) else (none)) else (none)) else (none)) else (none)) else (none)) else (none)) v → Ev (fun z => spec_Product.l2 z s f acc k p q l sa sb (i : Int) a A b B ((a * b : Nat) : Int) R) v := by
  have hm : maxLen = 9223372036854775807 := rfl
  have hab : 1 ≤ a * b := Nat.mul_pos h1 h2
  intro d
  induction d with
  | zero =>
    intro i hi p q l sa sb h
    exact Ev.step (fun z => by simp only [spec_Product.l2]; rfl) (Ev.ite_pos (by omega) (Ev.ite_pos (by omega) (Ev.ite_neg (by omega) h)))
  | succ d ih =>
    intro i hi p q l sa sb h
    refine Ev.step (fun z => by simp only [spec_Product.l2]; rfl) (Ev.ite_pos (by omega) (Ev.ite_pos (by omega) (Ev.ite_pos (by omega) (Ev.ite_neg (by omega) (Ev.ite_neg (by omega) ?_)))))
    rw [wrap_nat (by omega)]
    exact ih (i + 1) (by omega) _ _ _ _ _ h
theorem specPr1 (s : List I_Sym) (hs : s.length ≤ 1048577) {a b : Nat} (h1 : 1 ≤ a) (h2 : 1 ≤ b) (h3 : a * b ≤ 4) {A B : List (List Int)} (f : Nat) (hf : f < s.length) (hA : Row s a A f) (hB : Row s b B f) (R : List (List Int)) (hRl : R.length ≤ 1048577) (r : Nat) (hr : (rd_I_Sym s (f : Int)).f1 = r) (v : Int × List (List Int) × Bool) (row : List Int) (hv : Ev (fun z => spec_Product.l0 z s ((f + 1 : Nat) : Int) a A b B ((a * b : Nat) : Int) (R ++ [row])) v) : ∀ d k : Nat, k + d = (a * b) ^ r → ∀ acc : List Int, acc.length = k → acc ++ prR a b (rd_Ls_i64 A f) (rd_Ls_i64 B f) r d k = row → Ev (fun z => spec_Product.l1 z s f acc (k : Int) a A b B ((a * b : Nat) : Int) R) v := by
  have hm : maxLen = 9223372036854775807 := rfl
  have hab : 1 ≤ a * b := Nat.mul_pos h1 h2
  have hr3 : r ≤ 3 := by have := hA.ar; omega
  have hp := pow_le (n := a * b) h3 hr3
  have hpw := pw_nat (n := a * b) hr3
  intro d
  induction d with
  | zero =>
    intro k hk acc hl hrow
    refine Ev.step (fun z => by simp only [spec_Product.l1]; rfl) (Ev.ite_pos (by omega) (Ev.ite_pos (by omega) (Ev.bind (power_ev hab h3 _ hA.ar.1 hA.ar.2) ?_)))
    rw [hr, hpw]
    refine Ev.ite_neg (by omega) (Ev.ite_pos (by omega) ?_)
    rw [prR, List.append_nil] at hrow
    rw [wrap_nat (by omega), hrow]
    exact hv
  | succ d ih =>
    intro k hk acc hl hrow
    have fin := pq_fin (k := k) h1 h2 h3 hr3 (by omega)
    have lA := hA.len
    have lB := hB.len
    rw [hr] at lA lB
    refine Ev.step (fun z => by simp only [spec_Product.l1]; rfl) (Ev.ite_pos (by omega) (Ev.ite_pos (by omega) (Ev.bind (power_ev hab h3 _ hA.ar.1 hA.ar.2) ?_)))
    rw [hr, hpw]
    refine Ev.ite_pos (by omega) ?_
    refine specPr2 s h1 h2 A B f hf acc k R _ r hr hr3 r 0 (by omega) 0 0 k 1 1 ?_
    refine Ev.ite_pos hA.lt (Ev.ite_pos fin.1.2.1 (Ev.ite_pos (by omega) (Ev.ite_pos hB.lt (Ev.ite_pos fin.2.2.1 (Ev.ite_pos (by omega) ?_)))))
    refine Ev.ite_pos (by omega) ?_
    rw [wrap_nat (by omega)]
    exact ih (k + 1) (by omega) _ (by rw [List.length_append, List.length_singleton]; omega) (by rw [List.append_assoc, List.singleton_append]; rw [prR] at hrow; exact hrow)
theorem specPr0 (s : List I_Sym) (hs : s.length ≤ 1048577) {a b : Nat} (h1 : 1 ≤ a) (h2 : 1 ≤ b) (h3 : a * b ≤ 4) {A B : List (List Int)} (hA : ∀ f : Nat, f < s.length → Row s a A f) (hB : ∀ f : Nat, f < s.length → Row s b B f) : ∀ d f : Nat, f + d = s.length → ∀ R : List (List Int), R.length = f → Ev (fun z => spec_Product.l0 z s (f : Int) a A b B ((a * b : Nat) : Int) R) (((a * b : Nat) : Int), R ++ prT s a b A B d f, true) := by
  intro d
  induction d with
  | zero =>
    intro f hf R hl
    refine Ev.step (fun z => by simp only [spec_Product.l0]; rfl) (Ev.ite_neg (by omega) (Ev.val Ev.some ?_))
    rw [prT, List.append_nil]
  | succ d ih =>
    intro f hf R hl
    have hr := hA f (by omega)
    obtain ⟨r, ha⟩ : ∃ r : Nat, (rd_I_Sym s (f : Int)).f1 = r := ⟨(rd_I_Sym s (f : Int)).f1.toNat, by have := hr.ar; omega⟩
    refine Ev.step (fun z => by simp only [spec_Product.l0]; rfl) (Ev.ite_pos (by omega) ?_)
    rw [prT, ha, Int.toNat_natCast]
    have h := specPr1 s hs h1 h2 h3 f (by omega) hr (hB f (by omega)) R (by omega) r ha _ (prR a b (rd_Ls_i64 A f) (rd_Ls_i64 B f) r ((a * b) ^ r) 0) (ih (f + 1) (by omega) (R ++ [prR a b (rd_Ls_i64 A f) (rd_Ls_i64 B f) r ((a * b) ^ r) 0]) (by rw [List.length_append, List.length_singleton]; omega)) ((a * b) ^ r) 0 (by omega) [] rfl rfl
    refine Ev.val h ?_
    rw [List.append_assoc, List.singleton_append]
theorem implPr_1 {s : List I_Sym} {a b r k : Nat} (h1 : 1 ≤ a) (h2 : 1 ≤ b) (h3 : a * b ≤ 4) {A B : List (List Int)} {f : Nat} (hA : Row s a A f) (hB : Row s b B f) (hr : (rd_I_Sym s (f : Int)).f1 = r) (hk : k < (a * b) ^ r) : Ev (fun z => impl_Product_1.f z (f : Int) (dg ((a * b : Nat) : Int) r k) a A b B) (prE a b (rd_Ls_i64 A (f : Int)) (rd_Ls_i64 B (f : Int)) r k) := by
  have hr3 : r ≤ 3 := by have := hA.ar; omega
  have fin := pq_fin (k := k) h1 h2 h3 hr3 hk
  have lA := hA.len
  have lB := hB.len
  rw [hr] at lA lB
  have e1 : Ev (fun z => impl_placeOf.f z (mdA a (dg ((a * b : Nat) : Int) r (k : Int))) (a : Int)) (pAt a ((a * b : Nat) : Int) r 0 k 1) := Ev.of (fun z => impl_placeOf.mono (mdA a (dg ((a * b : Nat) : Int) r (k : Int))) (a : Int) z) (k := 8) fin.1.1
  have e2 : Ev (fun z => impl_placeOf.f z (dvA a (dg ((a * b : Nat) : Int) r (k : Int))) (b : Int)) (qAt a b ((a * b : Nat) : Int) r 0 k 1) := Ev.of (fun z => impl_placeOf.mono (dvA a (dg ((a * b : Nat) : Int) r (k : Int))) (b : Int) z) (k := 8) fin.2.1
  unfold impl_Product_1.f
  refine Ev.ite_pos (by omega) (Ev.ite_pos hA.lt (Ev.bind (each1_1_ev _ (by rw [dg_len]; omega) a (by omega) A) (Ev.bind e1 (Ev.ite_pos fin.1.2.1 (Ev.ite_pos (by omega) (Ev.ite_pos hB.lt (Ev.bind (each1_2_ev _ (by rw [dg_len]; omega) a (by omega) A) (Ev.bind e2 (Ev.ite_pos fin.2.2.1 (Ev.ite_pos (by omega) Ev.some))))))))))
theorem implPr1 (s : List I_Sym) (hs : s.length ≤ 1048577) {a b : Nat} (h1 : 1 ≤ a) (h2 : 1 ≤ b) (h3 : a * b ≤ 4) {A B : List (List Int)} (f : Nat) (hf : f < s.length) (hA : Row s a A f) (hB : Row s b B f) (R : List (List Int)) (hRl : R.length ≤ 1048577) (r : Nat) (hr : (rd_I_Sym s (f : Int)).f1 = r) (b0 : ByteArray) (b2 : Bool) (v : Int × List (List Int)) (row : List Int) (hv : Ev (fun z => impl_tabled_with_impl_Product_1.l0 z ((a * b : Nat) : Int) s (s.length : Int) ((f + 1 : Nat) : Int) a A b B ((a * b : Nat) : Int) (R ++ [row])) v) : ∀ d k : Nat, k + d = (a * b) ^ r → ∀ acc : List Int, acc.length = k → acc ++ prR a b (rd_Ls_i64 A f) (rd_Ls_i64 B f) r d k = row → Ev (fun z => impl_tabled_with_impl_Product_1.l1 z ((a * b : Nat) : Int) f acc s (s.length : Int) f (((a * b) ^ r : Nat) : Int) (k : Int) a A b B ((a * b : Nat) : Int) R b0 (r : Int) b2) v := by
  have hm : maxLen = 9223372036854775807 := rfl
  have hab : 1 ≤ a * b := Nat.mul_pos h1 h2
  have hr3 : r ≤ 3 := by have := hA.ar; omega
  have hp := pow_le (n := a * b) h3 hr3
  intro d
  induction d with
  | zero =>
    intro k hk acc hl hrow
    refine Ev.step (fun z => by simp only [impl_tabled_with_impl_Product_1.l1]; rfl) (Ev.ite_neg (by omega) (Ev.ite_pos (by omega) ?_))
    rw [prR, List.append_nil] at hrow
    rw [wrap_nat (by omega), hrow]
    exact hv
  | succ d ih =>
    intro k hk acc hl hrow
    refine Ev.step (fun z => by simp only [impl_tabled_with_impl_Product_1.l1]; rfl) (Ev.ite_pos (by omega) (Ev.bind (digits_ev (n := a * b) (a := r) (k := k) hab h3 hr3 (by omega)) (Ev.bind (implPr_1 (k := k) h1 h2 h3 hA hB hr (by omega)) ?_)))
    refine Ev.ite_pos (by omega) ?_
    rw [wrap_nat (by omega)]
    exact ih (k + 1) (by omega) _ (by rw [List.length_append, List.length_singleton]; omega) (by rw [List.append_assoc, List.singleton_append]; rw [prR] at hrow; exact hrow)
theorem implPr0 (s : List I_Sym) (hs : s.length ≤ 1048577) {a b : Nat} (h1 : 1 ≤ a) (h2 : 1 ≤ b) (h3 : a * b ≤ 4) {A B : List (List Int)} (hA : ∀ f : Nat, f < s.length → Row s a A f) (hB : ∀ f : Nat, f < s.length → Row s b B f) : ∀ d f : Nat, f + d = s.length → ∀ R : List (List Int), R.length = f → Ev (fun z => impl_tabled_with_impl_Product_1.l0 z ((a * b : Nat) : Int) s (s.length : Int) (f : Int) a A b B ((a * b : Nat) : Int) R) (((a * b : Nat) : Int), R ++ prT s a b A B d f) := by
  have hab : 1 ≤ a * b := Nat.mul_pos h1 h2
  intro d
  induction d with
  | zero =>
    intro f hf R hl
    refine Ev.step (fun z => by simp only [impl_tabled_with_impl_Product_1.l0]; rfl) (Ev.ite_neg (by omega) (Ev.val Ev.some ?_))
    rw [prT, List.append_nil]
  | succ d ih =>
    intro f hf R hl
    have hr := hA f (by omega)
    obtain ⟨r, ha⟩ : ∃ r : Nat, (rd_I_Sym s (f : Int)).f1 = r := ⟨(rd_I_Sym s (f : Int)).f1.toNat, by have := hr.ar; omega⟩
    refine Ev.step (fun z => by simp only [impl_tabled_with_impl_Product_1.l0]; rfl) (Ev.ite_pos (by omega) (Ev.ite_pos (by omega) (Ev.ite_pos (by omega) (Ev.bind (places_ev hab h3 _ hr.ar.1 hr.ar.2) ?_))))
    rw [prT, ha, Int.toNat_natCast, pw_nat (by have := hr.ar; omega)]
    have h := implPr1 s hs h1 h2 h3 f (by omega) hr (hB f (by omega)) R (by omega) r ha (rd_I_Sym s (f : Int)).f0 (rd_I_Sym s (f : Int)).f2 _ (prR a b (rd_Ls_i64 A f) (rd_Ls_i64 B f) r ((a * b) ^ r) 0) (ih (f + 1) (by omega) (R ++ [prR a b (rd_Ls_i64 A f) (rd_Ls_i64 B f) r ((a * b) ^ r) 0]) (by rw [List.length_append, List.length_singleton]; omega)) ((a * b) ^ r) 0 (by omega) [] rfl rfl
    refine Ev.val h ?_
    rw [List.append_assoc, List.singleton_append]
def prV (s : List I_Sym) (a : Int) (A : List (List Int)) (b : Int) (B : List (List Int)) : Int × List (List Int) × Bool := if worldOk s a A = true ∧ worldOk s b B = true ∧ a.toNat * b.toNat ≤ 4 then (((a.toNat * b.toNat : Nat) : Int), prT s a.toNat b.toNat A B s.length 0, true) else (0, [], false)
theorem mul_wrap {a b : Nat} (ha : a ≤ 4) (hb : b ≤ 4) : wrap64 ((a : Int) * (b : Int)) = ((a * b : Nat) : Int) := by
  have h : a * b ≤ 16 := Nat.mul_le_mul ha hb
  rw [← Int.natCast_mul]
  exact wrap_id (by omega) (by omega)
theorem specProduct_ev (s : List I_Sym) (a : Int) (A : List (List Int)) (b : Int) (B : List (List Int)) (hl : s.length ≤ 1048577) (hn : ∀ x ∈ s, x.f0.size ≤ maxLen) (hA : ∀ x ∈ A, x.length ≤ maxLen) (hB : ∀ x ∈ B, x.length ≤ maxLen) : Ev (fun k => spec_Product.f k s a A b B) (prV s a A b B) := by
  have hm : maxLen = 9223372036854775807 := rfl
  have hf : Ev (fun k => spec_Product.j0 k s true a A b B) (0, [], false) := Ev.step (fun k => by simp only [spec_Product.j0]; rfl) (Ev.ite_pos (show true = true from rfl) Ev.some)
  unfold spec_Product.f prV
  refine Ev.bind (specWorldOk_ev s a A (by omega) hn hA) ?_
  by_cases h1 : worldOk s a A = true
  · refine Ev.ite_pos h1 (Ev.bind (specWorldOk_ev s b B (by omega) hn hB) ?_)
    by_cases h2 : worldOk s b B = true
    · refine Ev.ite_pos h2 ?_
      obtain ⟨za, rA⟩ := world_row h1
      obtain ⟨zb, rB⟩ := world_row h2
      obtain ⟨x, rfl⟩ : ∃ x : Nat, a = x := ⟨a.toNat, by omega⟩
      obtain ⟨y, rfl⟩ : ∃ y : Nat, b = y := ⟨b.toNat, by omega⟩
      rw [Int.toNat_natCast, Int.toNat_natCast, mul_wrap (by omega) (by omega)]
      by_cases h3 : x * y ≤ 4
      · rw [decide_eq_false (by omega : ¬ ((x * y : Nat) : Int) > 4)]
        refine Ev.step (fun k => by simp only [spec_Product.j0]; rfl) (Ev.ite_neg (by simp) ?_)
        rw [mul_wrap (by omega) (by omega)]
        refine Ev.val (specPr0 s hl (by omega) (by omega) h3 (fun f hf => rA f (by omega) (by omega)) (fun f hf => rB f (by omega) (by omega)) s.length 0 (by omega) [] rfl) ?_
        rw [if_pos ⟨h1, h2, h3⟩, List.nil_append]
      · rw [decide_eq_true (by omega : ((x * y : Nat) : Int) > 4)]
        exact Ev.val hf (by rw [if_neg (fun h => h3 h.2.2)])
    · exact Ev.ite_neg h2 (Ev.val hf (by rw [if_neg (fun h => h2 h.2.1)]))
  · exact Ev.ite_neg h1 (Ev.val hf (by rw [if_neg (fun h => h1 h.1)]))
theorem implProduct_ev (s : List I_Sym) (a : Int) (A : List (List Int)) (b : Int) (B : List (List Int)) (hl : s.length ≤ 1048577) (hn : ∀ x ∈ s, x.f0.size ≤ maxLen) (hA : ∀ x ∈ A, x.length ≤ maxLen) (hB : ∀ x ∈ B, x.length ≤ maxLen) : Ev (fun k => impl_Product.f k s a A b B) (prV s a A b B) := by
  have hm : maxLen = 9223372036854775807 := rfl
  unfold impl_Product.f prV
  refine Ev.bind (implWorldOk_ev s a A (by omega) hn hA) ?_
  by_cases h1 : worldOk s a A = true
  · refine Ev.ite_pos h1 (Ev.bind (implWorldOk_ev s b B (by omega) hn hB) ?_)
    by_cases h2 : worldOk s b B = true
    · refine Ev.ite_pos h2 ?_
      obtain ⟨za, rA⟩ := world_row h1
      obtain ⟨zb, rB⟩ := world_row h2
      obtain ⟨x, rfl⟩ : ∃ x : Nat, a = x := ⟨a.toNat, by omega⟩
      obtain ⟨y, rfl⟩ : ∃ y : Nat, b = y := ⟨b.toNat, by omega⟩
      rw [Int.toNat_natCast, Int.toNat_natCast, mul_wrap (by omega) (by omega)]
      by_cases h3 : x * y ≤ 4
      · refine Ev.ite_neg (by omega) ?_
        refine Ev.bind (implPr0 s hl (by omega) (by omega) h3 (fun f hf => rA f (by omega) (by omega)) (fun f hf => rB f (by omega) (by omega)) s.length 0 (by omega) [] rfl) (Ev.val Ev.some ?_)
        rw [if_pos ⟨h1, h2, h3⟩, List.nil_append]
      · refine Ev.ite_pos (by omega) (Ev.val Ev.some ?_)
        rw [if_neg (fun h => h3 h.2.2)]
    · exact Ev.ite_neg h2 (Ev.val Ev.some (by rw [if_neg (fun h => h2 h.2.1)]))
  · exact Ev.ite_neg h1 (Ev.val Ev.some (by rw [if_neg (fun h => h1 h.1)]))
theorem prV_rows (s : List I_Sym) (a : Int) (A : List (List Int)) (b : Int) (B : List (List Int)) : (prV s a A b B).2.1.length ≤ s.length ∧ ∀ x ∈ (prV s a A b B).2.1, x.length ≤ 64 := by
  unfold prV
  split
  · rename_i h
    obtain ⟨h1, h2, h3⟩ := h
    obtain ⟨hz, hR⟩ := world_row h1
    have h := prT_rows s a.toNat b.toNat A B h3 (fun f hf => (hR f (by omega) (by omega)).ar.2) s.length 0 (by omega)
    exact ⟨Nat.le_of_eq h.1, h.2⟩
  · exact ⟨Nat.zero_le _, fun x hx => by simp at hx⟩
/-! #### marks on rows of rows, and on symbols -/
def oneI (v : Int) : Int := v
def totI : List (List Int) → Nat
  | [] => 0
  | t :: r => t.length + totI r
def mkSS : Int → List (List Int) → List (List Int)
  | _, [] => []
  | v, t :: r => mkL oneI 1 v t.length :: mkSS (v + (t.length : Nat)) r
theorem mkSS_length : ∀ (T : List (List Int)) (v : Int), (mkSS v T).length = T.length := by
  intro T
  induction T with
  | nil => intro v; rfl
  | cons t r ih => intro v; rw [mkSS, List.length_cons, ih, List.length_cons]
theorem markIntS_ev (l : List Int) (v : Int) (hl : l.length ≤ maxLen) (h0 : 0 ≤ v) (hv : v + (l.length : Nat) ≤ 4611686018427387904) : Ev (fun k => laws_markIntS.f k l v) (v + (l.length : Nat), mkL oneI 1 v l.length) := by
  have hm : maxLen = 9223372036854775807 := rfl
  have h := mark_loop oneI 1 (fun k acc v i => laws_markIntS.l0 k acc v i) (fun k acc v n hn hl h0 hv => by
    simp only [laws_markIntS.l0]
    rw [if_pos (by omega), if_pos (by omega), Int.toNat_natCast, wrap_nat (by omega), wrap_id (by omega) (by omega)]
    rfl) (fun k acc v => by
    simp only [laws_markIntS.l0]
    rw [if_neg (by omega)]) l hl v h0 (by omega)
  rw [Nat.one_mul] at h
  exact h
theorem heldIntS_ev (m : Nat) (v : Int) (hl : m ≤ maxLen) (h0 : 0 ≤ v) (hv : v + (m : Nat) ≤ 4611686018427387904) : Ev (fun k => laws_heldIntS.f k (mkL oneI 1 v m) v) (v + (m : Nat)) := by
  have hm : maxLen = 9223372036854775807 := rfl
  have h := held_loop oneI 1 0 (fun k acc v i => laws_heldIntS.l0 k acc v i) (fun k acc v n hn hl h0 hv e => by
    simp only [laws_heldIntS.l0]
    have e' : rd acc (n : Int) = v := e
    rw [if_pos (by omega), if_pos (by omega), if_pos e', wrap_nat (by omega), wrap_id (by omega) (by omega)]
    rfl) (fun k acc v => by
    simp only [laws_heldIntS.l0]
    rw [if_neg (by omega)]) m hl v h0 (by omega)
  rw [Nat.one_mul] at h
  exact h
theorem rdSS_mid (a : List (List Int)) (t : List Int) (r : List (List Int)) : rd_Ls_i64 (a ++ t :: r) ((a.length : Nat) : Int) = t := by
  show (a ++ t :: r).getD (Int.toNat (a.length : Int)) [] = t
  rw [Int.toNat_natCast, List.getD_eq_getElem?_getD, List.getElem?_append_right (Nat.le_refl _), Nat.sub_self]
  rfl
theorem markIntSS_l : ∀ (r a : List (List Int)) (v : Int), (a ++ r).length ≤ 1048577 → (∀ t ∈ r, t.length ≤ maxLen) → 0 ≤ v → v + (totI r : Nat) ≤ 4611686018427387904 → Ev (fun k => laws_markIntSS.l0 k (a ++ r) v ((a.length : Nat) : Int)) (v + (totI r : Nat), a ++ mkSS v r) := by
  have hm : maxLen = 9223372036854775807 := rfl
  intro r
  induction r with
  | nil =>
    intro a v hl ht h0 hv
    refine Ev.step (fun k => by simp only [laws_markIntSS.l0]; rfl) (Ev.ite_neg (by rw [List.append_nil]; omega) ?_)
    exact Ev.val Ev.some (by simp [totI, mkSS])
  | cons t r ih =>
    intro a v hl ht h0 hv
    have hlen : (a ++ t :: r).length = a.length + (r.length + 1) := by rw [List.length_append, List.length_cons]
    rw [totI] at hv
    refine Ev.step (fun k => by simp only [laws_markIntSS.l0]; rfl) (Ev.ite_pos (by omega) (Ev.ite_pos (by omega) ?_))
    rw [rdSS_mid]
    refine Ev.bind (markIntS_ev t v (ht t (List.mem_cons_self ..)) h0 (by omega)) ?_
    rw [Int.toNat_natCast, wrap_nat (by omega), List.set_append_right _ _ (Nat.le_refl _), Nat.sub_self, List.set_cons_zero]
    have h := ih (a ++ [mkL oneI 1 v t.length]) (v + (t.length : Nat)) (by rw [List.length_append, List.length_append, List.length_cons, List.length_nil]; omega) (fun x hx => ht x (List.mem_cons_of_mem _ hx)) (by omega) (by omega)
    rw [List.length_append, List.length_cons, List.length_nil, List.append_assoc, List.singleton_append, List.append_assoc, List.singleton_append] at h
    refine Ev.val h ?_
    rw [totI, mkSS]
    congr 1
    omega
theorem markIntSS_ev (T : List (List Int)) (v : Int) (hl : T.length ≤ 1048577) (ht : ∀ t ∈ T, t.length ≤ maxLen) (h0 : 0 ≤ v) (hv : v + (totI T : Nat) ≤ 4611686018427387904) : Ev (fun k => laws_markIntSS.f k T v) (v + (totI T : Nat), mkSS v T) := markIntSS_l T [] v hl ht h0 hv
theorem heldIntSS_l : ∀ (r a : List (List Int)) (v : Int), a.length + r.length ≤ 1048577 → (∀ t ∈ r, t.length ≤ maxLen) → 0 ≤ v → v + (totI r : Nat) ≤ 4611686018427387904 → Ev (fun k => laws_heldIntSS.l0 k (a ++ mkSS v r) v ((a.length : Nat) : Int)) (v + (totI r : Nat)) := by
  have hm : maxLen = 9223372036854775807 := rfl
  intro r
  induction r with
  | nil =>
    intro a v hl ht h0 hv
    refine Ev.step (fun k => by simp only [laws_heldIntSS.l0]; rfl) (Ev.ite_neg (by simp [mkSS]) ?_)
    exact Ev.val Ev.some (by simp [totI])
  | cons t r ih =>
    intro a v hl ht h0 hv
    rw [List.length_cons] at hl
    rw [totI] at hv
    rw [mkSS]
    have hlen : (a ++ mkL oneI 1 v t.length :: mkSS (v + (t.length : Nat)) r).length = a.length + (r.length + 1) := by rw [List.length_append, List.length_cons, mkSS_length]
    refine Ev.step (fun k => by simp only [laws_heldIntSS.l0]; rfl) (Ev.ite_pos (by omega) (Ev.ite_pos (by omega) ?_))
    rw [rdSS_mid]
    refine Ev.bind (heldIntS_ev t.length v (ht t (List.mem_cons_self ..)) h0 (by omega)) (Ev.ite_neg (by omega) ?_)
    rw [wrap_nat (by omega)]
    have h := ih (a ++ [mkL oneI 1 v t.length]) (v + (t.length : Nat)) (by rw [List.length_append, List.length_cons, List.length_nil]; omega) (fun x hx => ht x (List.mem_cons_of_mem _ hx)) (by omega) (by omega)
    rw [List.length_append, List.length_cons, List.length_nil, List.append_assoc, List.singleton_append] at h
    refine Ev.val h ?_
    rw [totI]
    omega
theorem heldIntSS_ev (T : List (List Int)) (v : Int) (hl : T.length ≤ 1048577) (ht : ∀ t ∈ T, t.length ≤ maxLen) (h0 : 0 ≤ v) (hv : v + (totI T : Nat) ≤ 4611686018427387904) : Ev (fun k => laws_heldIntSS.f k (mkSS v T) v) (v + (totI T : Nat)) := heldIntSS_l T [] v (by simpa using hl) ht h0 hv
theorem markWorld_ev (z : Int) (T : List (List Int)) (v : Int) (hl : T.length ≤ 1048577) (ht : ∀ t ∈ T, t.length ≤ maxLen) (h0 : 0 ≤ v) (hv : v + (totI T : Nat) ≤ 4611686018427387904) : Ev (fun k => laws_markWorld.f k z T v) (v + (totI T : Nat), mkSS v T) := markIntSS_ev T v hl ht h0 hv
theorem heldWorld_ev (z : Int) (T : List (List Int)) (v : Int) (hl : T.length ≤ 1048577) (ht : ∀ t ∈ T, t.length ≤ maxLen) (h0 : 0 ≤ v) (hv : v + (totI T : Nat) ≤ 4611686018427387904) : Ev (fun k => laws_heldWorld.f k z (mkSS v T) v) (v + (totI T : Nat)) := by
  unfold laws_heldWorld.f
  exact Ev.bind (heldIntSS_ev T v hl ht h0 hv) (Ev.ite_neg (by omega) Ev.some)
theorem totI_le : ∀ T : List (List Int), T.length + totI T ≤ el_IntSS T := by
  intro T
  unfold el_IntSS
  induction T with
  | nil => simp [totI]
  | cons t r ih =>
    rw [totI, List.map_cons, List.sum_cons, List.length_cons]
    have : t.length ≤ el_IntS t := by unfold el_IntS; omega
    omega
theorem el_rows (m : Nat) : ∀ T : List (List Int), (∀ t ∈ T, t.length ≤ m) → el_IntSS T ≤ (m + 1) * T.length := by
  intro T h
  unfold el_IntSS
  induction T with
  | nil => simp
  | cons t r ih =>
    have h1 := ih (fun x hx => h x (List.mem_cons_of_mem _ hx))
    have h2 := h t (List.mem_cons_self ..)
    have h3 : el_IntS t = t.length := by unfold el_IntS; rw [sum_zero _ _ (fun _ => rfl)]; rfl
    rw [List.map_cons, List.sum_cons, List.length_cons, h3, Nat.mul_succ]
    omega
/-! #### marks on symbols: how far they count -/
theorem markText_l : ∀ (d : Nat) (x : Int) (b : ByteArray), x < 10 ^ d → b.size + d ≤ 1000 → ∃ c, Ev (fun k => laws_markText.l0 k x b) c := by
  intro d
  induction d with
  | zero =>
    intro x b hx hb
    exact ⟨_, Ev.step (fun k => by simp only [laws_markText.l0]; rfl) (Ev.ite_neg (by simp at hx; omega) (Ev.ite_pos (by omega) Ev.some))⟩
  | succ d ih =>
    intro x b hx hb
    by_cases h : x > 0
    · have hd : Int.tdiv x 10 = x / 10 := Int.tdiv_eq_ediv_of_nonneg (by omega)
      have h10 : (10 : Int) ^ (d + 1) = 10 ^ d * 10 := Int.pow_succ ..
      by_cases hw : x ≤ 9223372036854775807
      · obtain ⟨c, hc⟩ := ih (x / 10) (strOfNums [wrap64 (48 + Int.tmod x 10) % 256] ++ b) (by omega) (by rw [ByteArray.size_append, strOfNums_size, List.length_singleton]; omega)
        refine ⟨c, Ev.step (fun k => by simp only [laws_markText.l0]; rfl) (Ev.ite_pos h (Ev.bind Ev.some (Ev.ite_pos (by rw [strOfNums_size, List.length_singleton]; omega) ?_)))⟩
        rw [hd, wrap_id (x := x / 10) (by omega) (by omega)]
        exact hc
      · obtain ⟨c, hc⟩ := ih (wrap64 (Int.tdiv x 10)) (strOfNums [wrap64 (48 + Int.tmod x 10) % 256] ++ b) (by rw [hd]; unfold wrap64; omega) (by rw [ByteArray.size_append, strOfNums_size, List.length_singleton]; omega)
        exact ⟨c, Ev.step (fun k => by simp only [laws_markText.l0]; rfl) (Ev.ite_pos h (Ev.bind Ev.some (Ev.ite_pos (by rw [strOfNums_size, List.length_singleton]; omega) hc)))⟩
    · exact ⟨_, Ev.step (fun k => by simp only [laws_markText.l0]; rfl) (Ev.ite_neg h (Ev.ite_pos (by omega) Ev.some))⟩
theorem markText_ev (x : Int) (hx : x ≤ 4611686018427387904) : ∃ c, Ev (fun k => laws_markText.f k x) c := by
  unfold laws_markText.f
  by_cases h : x ≤ 0
  · exact ⟨_, Ev.ite_pos h Ev.some⟩
  · obtain ⟨c, hc⟩ := markText_l 20 x ⟨#[]⟩ (by omega) (by decide)
    exact ⟨c, Ev.ite_neg h hc⟩
def symSet (acc : List I_Sym) (n : Nat) (c : ByteArray) (v : Int) : List I_Sym :=
  ((acc.set (n : Int).toNat (⟨c, (rd_I_Sym acc n).f1, (rd_I_Sym acc n).f2⟩ : I_Sym)).set (n : Int).toNat (⟨(rd_I_Sym (acc.set (n : Int).toNat (⟨c, (rd_I_Sym acc n).f1, (rd_I_Sym acc n).f2⟩ : I_Sym)) n).f0, v + 1, (rd_I_Sym (acc.set (n : Int).toNat (⟨c, (rd_I_Sym acc n).f1, (rd_I_Sym acc n).f2⟩ : I_Sym)) n).f2⟩ : I_Sym)).set (n : Int).toNat (⟨(rd_I_Sym ((acc.set (n : Int).toNat (⟨c, (rd_I_Sym acc n).f1, (rd_I_Sym acc n).f2⟩ : I_Sym)).set (n : Int).toNat (⟨(rd_I_Sym (acc.set (n : Int).toNat (⟨c, (rd_I_Sym acc n).f1, (rd_I_Sym acc n).f2⟩ : I_Sym)) n).f0, v + 1, (rd_I_Sym (acc.set (n : Int).toNat (⟨c, (rd_I_Sym acc n).f1, (rd_I_Sym acc n).f2⟩ : I_Sym)) n).f2⟩ : I_Sym)) n).f0, (rd_I_Sym ((acc.set (n : Int).toNat (⟨c, (rd_I_Sym acc n).f1, (rd_I_Sym acc n).f2⟩ : I_Sym)).set (n : Int).toNat (⟨(rd_I_Sym (acc.set (n : Int).toNat (⟨c, (rd_I_Sym acc n).f1, (rd_I_Sym acc n).f2⟩ : I_Sym)) n).f0, v + 1, (rd_I_Sym (acc.set (n : Int).toNat (⟨c, (rd_I_Sym acc n).f1, (rd_I_Sym acc n).f2⟩ : I_Sym)) n).f2⟩ : I_Sym)) n).f1, ((Int.tmod (v + 1 + 1) 3) == 0)⟩ : I_Sym)
theorem markSymS_l (l : List I_Sym) (hl : l.length ≤ 1048577) : ∀ d n : Nat, n + d = l.length → ∀ (acc : List I_Sym) (v : Int), acc.length = l.length → 0 ≤ v → v + (3 * d : Nat) ≤ 4611686018427387904 → ∃ r, Ev (fun k => laws_markSymS.l0 k acc v (n : Int)) (v + (3 * d : Nat), r) := by
  have hm : maxLen = 9223372036854775807 := rfl
  intro d
  induction d with
  | zero =>
    intro n hn acc v ha h0 hv
    exact ⟨acc, Ev.step (fun k => by simp only [laws_markSymS.l0]; rfl) (Ev.ite_neg (by omega) (Ev.val (r := (v, acc)) Ev.some (by simp)))⟩
  | succ d ih =>
    intro n hn acc v ha h0 hv
    obtain ⟨c, hc⟩ := markText_ev v (by omega)
    have w1 : wrap64 (v + 1) = v + 1 := wrap_id (by omega) (by omega)
    have w2 : wrap64 (v + 1 + 1) = v + 1 + 1 := wrap_id (by omega) (by omega)
    have w3 : wrap64 (v + 1 + 1 + 1) = v + 1 + 1 + 1 := wrap_id (by omega) (by omega)
    obtain ⟨r, hr⟩ := ih (n + 1) (by omega) (symSet acc n c v) (v + 1 + 1 + 1) (by unfold symSet; simp only [List.length_set]; exact ha) (by omega) (by omega)
    refine ⟨r, Ev.step (fun k => by simp only [laws_markSymS.l0]; rfl) (Ev.ite_pos (by omega) (Ev.bind hc ?_))⟩
    refine Ev.ite_pos (by omega) ?_
    refine Ev.bind Ev.some ?_
    refine Ev.bind Ev.some ?_
    rw [wrap_nat (by omega), w1, w2, w3]
    refine Ev.val hr ?_
    have e : v + 1 + 1 + 1 + ((3 * d : Nat) : Int) = v + ((3 * (d + 1) : Nat) : Int) := by omega
    rw [e]
theorem markSymS_ev (l : List I_Sym) (v : Int) (hl : l.length ≤ 1048577) (h0 : 0 ≤ v) (hv : v ≤ 1048577) : ∃ r, Ev (fun k => laws_markSymS.f k l v) (v + (3 * l.length : Nat), r) := markSymS_l l hl l.length 0 (by omega) l v rfl h0 (by omega)
theorem FnExactProduct : laws_FnExactProduct.Pure := by
  intro s w_0 w_1 v_0 v_1 hs hw_0 hw_1 hv_0 hv_1
  refine Ev.rounds (g := fun k => laws_FnExactProduct.f k s w_0 w_1 v_0 v_1) ?_
  unfold laws_FnExactProduct.f
  have hm : maxLen = 9223372036854775807 := rfl
  have W2 : Wf_L_World (⟨w_0, w_1⟩ : L_World) := ⟨hw_0, hw_1⟩
  have W3 : Wf_L_World (⟨v_0, v_1⟩ : L_World) := ⟨hv_0, hv_1⟩
  refine law_sz (by omega) (by omega) (szSymS_ev s hs 1048576 (by omega) (by omega)) fun q1 a1 b1 S1 => ?_
  refine Ev.nxt ?_
  simp only [laws_FnExactProduct.j0]
  refine law_sz a1 b1 (szWorld_ev (⟨w_0, w_1⟩ : L_World) W2 q1 a1 b1) fun q2 a2 b2 S2 => ?_
  refine Ev.nxt ?_
  simp only [laws_FnExactProduct.j1]
  refine law_sz a2 b2 (szWorld_ev (⟨v_0, v_1⟩ : L_World) W3 q2 a2 b2) fun q3 a3 b3 S3 => ?_
  have K1 : el_SymS (cv_SymS s) ≤ 1048576 := by have := el_cv_SymS s; omega
  have K2 : el_World (cv_World (⟨w_0, w_1⟩ : L_World)) ≤ 1048576 := by have := el_cv_World (⟨w_0, w_1⟩ : L_World); omega
  have K3 : el_World (cv_World (⟨v_0, v_1⟩ : L_World)) ≤ 1048576 := by have := el_cv_World (⟨v_0, v_1⟩ : L_World); omega
  obtain ⟨S, hS⟩ : ∃ S, cv_SymS s = S := ⟨_, rfl⟩
  obtain ⟨V, hV⟩ : ∃ V, cv_World (⟨w_0, w_1⟩ : L_World) = V := ⟨_, rfl⟩
  obtain ⟨U, hU⟩ : ∃ U, cv_World (⟨v_0, v_1⟩ : L_World) = U := ⟨_, rfl⟩
  have tS := toSymS_ev s S1
  have tV := toWorld_ev (⟨w_0, w_1⟩ : L_World) S2
  have tU := toWorld_ev (⟨v_0, v_1⟩ : L_World) S3
  have nS := names_cv S1
  rw [hS] at tS nS K1
  rw [hV] at tV K2
  rw [hU] at tU K3
  have hl : S.length ≤ 1048576 := by unfold el_SymS at K1; omega
  have hT : el_IntSS V.f1 ≤ 1048576 := by unfold el_World at K2; omega
  have hT2 : el_IntSS U.f1 ≤ 1048576 := by unfold el_World at K3; omega
  have hTl := totI_le V.f1
  have hTl2 := totI_le U.f1
  have hTs := tabs_len (T := V.f1) (by omega)
  have hTs2 := tabs_len (T := U.f1) (by omega)
  have hr := prV_rows S V.f0 V.f1 U.f0 U.f1
  obtain ⟨G, hG⟩ : ∃ G, prV S V.f0 V.f1 U.f0 U.f1 = G := ⟨_, rfl⟩
  have sp := specProduct_ev S V.f0 V.f1 U.f0 U.f1 (by omega) nS hTs hTs2
  have im := implProduct_ev S V.f0 V.f1 U.f0 U.f1 (by omega) nS hTs hTs2
  rw [hG] at hr sp im
  have hGe := el_rows 64 G.2.1 hr.2
  have hGt := totI_le G.2.1
  have hGx : ∀ x ∈ G.2.1, x.length ≤ maxLen := fun x hx => by have := hr.2 x hx; omega
  have eG := eqWorld_ev (⟨G.1, G.2.1⟩ : I_World) (by unfold el_World; dsimp only; omega)
  refine Ev.nxt ?_
  simp only [laws_FnExactProduct.j2]
  refine Ev.bind tS (Ev.bind tV (Ev.bind tU (Ev.bind sp (Ev.bind tS (Ev.bind tV (Ev.bind tU (Ev.bind im (Ev.bind eG (Ev.ite_pos rfl ?_)))))))))
  refine Ev.nxt ?_
  simp only [laws_FnExactProduct.j3]
  refine Ev.ite_neg (by simp) ?_
  refine Ev.nxt ?_
  simp only [laws_FnExactProduct.j4]
  refine Ev.bind tS (Ev.bind (eqSymS_ev S (by omega)) (Ev.ite_pos rfl ?_))
  refine Ev.nxt ?_
  simp only [laws_FnExactProduct.j5]
  refine Ev.bind tV (Ev.bind (eqWorld_ev V (by omega)) (Ev.ite_pos rfl ?_))
  refine Ev.nxt ?_
  simp only [laws_FnExactProduct.j6]
  refine Ev.bind tU (Ev.bind (eqWorld_ev U (by omega)) (Ev.ite_pos rfl ?_))
  refine Ev.nxt ?_
  simp only [laws_FnExactProduct.j7]
  obtain ⟨m1, M1⟩ := markSymS_ev S 1 (by omega) (by omega) (by omega)
  refine Ev.bind M1 (Ev.bind (markWorld_ev _ V.f1 _ (by omega) hTs (by omega) (by omega)) (Ev.bind (markWorld_ev _ U.f1 _ (by omega) hTs2 (by dsimp only; omega) (by dsimp only; omega)) ?_))
  refine Ev.ite_neg (by dsimp only; omega) (Ev.bind eG (Ev.ite_pos rfl ?_))
  refine Ev.nxt ?_
  simp only [laws_FnExactProduct.j8]
  refine Ev.ite_neg (by simp) ?_
  refine Ev.nxt ?_
  simp only [laws_FnExactProduct.j9]
  refine Ev.bind (markWorld_ev _ G.2.1 1 (by omega) hGx (by omega) (by omega)) (Ev.bind (heldWorld_ev _ G.2.1 1 (by omega) hGx (by omega) (by omega)) ?_)
  refine Ev.ite_neg (by omega) ?_
  refine Ev.nxt ?_
  simp only [laws_FnExactProduct.j10]
  refine Ev.ite_pos (by first | rfl | trivial) ?_
  refine Ev.nxt ?_
  simp only [laws_FnExactProduct.j11]
  refine Ev.bind tS (Ev.bind tV (Ev.bind tU (Ev.bind im (Ev.bind eG (Ev.ite_pos rfl ?_)))))
  refine Ev.nxt ?_
  simp only [laws_FnExactProduct.j12]
  refine Ev.ite_neg (by simp) ?_
  refine Ev.nxt ?_
  simp only [laws_FnExactProduct.j13]
  refine Ev.bind (heldWorld_ev _ G.2.1 1 (by omega) hGx (by omega) (by omega)) (Ev.ite_neg (by omega) (Ev.ite_pos rfl Ev.some))
end Go.Proofs.Ytcboagkbcoihjaa.Pure
