/- The program's Renamed returns what the reference's returns, for all arguments. -/
import Derived.Test.YtcboagkbcoihjaaXRenamedh
namespace Go.Proofs.Ytcboagkbcoihjaa.Pure
open Go.RowKit Go.Proofs.Ytcboagkbcoihjaa.XRenamed Go.Proofs.Ytcboagkbcoihjaa.XPure Go.Proofs.YtcboagkbcoihjaaW.PrintWords Go.Proofs.YtcboagkbcoihjaaW.PrintLast Go.Proofs.YtcboagkbcoihjaaW.PrintMore
set_option linter.unusedVariables false
set_option linter.unusedSimpArgs false
/-! #### signatures: names, which function has a name, what is right (under way: not built yet) -/
def small (c : Int) : Bool := decide (97 ≤ c) && decide (c ≤ 122)
def digit (c : Int) : Bool := decide (48 ≤ c) && decide (c ≤ 57)
def inR (a b c : Int) : Bool := decide (b ≤ a) && decide (a ≤ c)
theorem specInR (a b c : Int) : spec_l1In.f a b c = some (inR a b c) := by
  unfold spec_l1In.f inR
  by_cases h : a ≥ b
  · rw [if_pos h]; simp [show b ≤ a from h]
  · rw [if_neg h]; simp [show ¬ b ≤ a from h]
theorem implInR (a b c : Int) : impl_from.f a b c = some (inR a b c) := by
  unfold impl_from.f inR
  by_cases h : a ≥ b
  · rw [if_pos h]; simp [show b ≤ a from h]
  · rw [if_neg h]; simp [show ¬ b ≤ a from h]
theorem implSmall (a : Int) : impl_isSmall.f a = some (small a) := by
  unfold impl_isSmall.f small
  by_cases h : a ≥ 97
  · rw [if_pos h]; simp [show 97 ≤ a from h]
  · rw [if_neg h]; simp [show ¬ 97 ≤ a from h]
theorem implDigit (a : Int) : impl_isDigit.f a = some (digit a) := by
  unfold impl_isDigit.f digit
  by_cases h : a ≥ 48
  · rw [if_pos h]; simp [show 48 ≤ a from h]
  · rw [if_neg h]; simp [show ¬ 48 ≤ a from h]
/-- from place n on (d places): each a small letter, or a digit that is not the first -/
def nmS (s : ByteArray) : Nat → Nat → Bool
  | 0, _ => inR (s.size : Int) 1 8
  | d + 1, n => if small (bt s (n : Int)) = true ∨ (0 < n ∧ digit (bt s (n : Int)) = true) then nmS s d (n + 1) else false
theorem specName_l (s : ByteArray) (hs : s.size ≤ maxLen) : ∀ d n : Nat, n + d = s.size → Ev (fun k => spec_NameOk.l0 k s (n : Int)) (nmS s d n) := by
  intro d
  induction d with
  | zero =>
    intro n hn
    exact Ev.step (fun k => by simp only [spec_NameOk.l0]; rfl) (Ev.ite_neg (by omega) (Ev.bind (Ev.cst (specInR _ _ _)) Ev.some))
  | succ d ih =>
    intro n hn
    refine Ev.step (fun k => by simp only [spec_NameOk.l0]; rfl) (Ev.ite_pos (by omega) (Ev.ite_pos (by omega) ?_))
    rw [wrap_nat (by omega), nmS]
    have ih := ih (n + 1) (by omega)
    have e : (small (bt s (n : Int)) = true) ↔ (bt s (n : Int) ≥ 97 ∧ bt s (n : Int) ≤ 122) := by simp [small]
    have e2 : (digit (bt s (n : Int)) = true) ↔ (bt s (n : Int) ≥ 48 ∧ bt s (n : Int) ≤ 57) := by simp [digit]
    simp only [e, e2]
    by_cases h1 : bt s (n : Int) ≥ 97
    · refine Ev.ite_pos h1 ?_
      by_cases h2 : bt s (n : Int) ≤ 122
      · rw [if_pos (Or.inl ⟨h1, h2⟩)]
        exact Ev.ite_pos h2 ih
      · refine Ev.ite_neg h2 ?_
        rw [if_neg (by omega)]
        by_cases h3 : (n : Int) > 0
        · exact Ev.ite_pos h3 (Ev.ite_pos (by omega) (Ev.ite_neg (by omega) Ev.some))
        · exact Ev.ite_neg h3 Ev.some
    · refine Ev.ite_neg h1 ?_
      by_cases h3 : (n : Int) > 0
      · refine Ev.ite_pos h3 ?_
        by_cases h4 : bt s (n : Int) ≥ 48
        · refine Ev.ite_pos h4 ?_
          by_cases h5 : bt s (n : Int) ≤ 57
          · rw [if_pos (Or.inr ⟨by omega, h4, h5⟩)]
            exact Ev.ite_pos h5 ih
          · rw [if_neg (by omega)]
            exact Ev.ite_neg h5 Ev.some
        · rw [if_neg (by omega)]
          exact Ev.ite_neg h4 Ev.some
      · rw [if_neg (by omega)]
        exact Ev.ite_neg h3 Ev.some
def al (s : ByteArray) : Nat → Nat → Bool
  | 0, _ => true
  | d + 1, n => if small (bt s (n : Int)) = true ∨ digit (bt s (n : Int)) = true then al s d (n + 1) else false
theorem implName_l (s : ByteArray) (hs : s.size ≤ maxLen) : ∀ d n : Nat, n + d = s.size → Ev (fun k => impl_NameOk.l0 k s (s.size : Int) (n : Int)) (al s d n && (inR (s.size : Int) 1 8 && small (bt s 0))) := by
  intro d
  induction d with
  | zero =>
    intro n hn
    refine Ev.step (fun k => by simp only [impl_NameOk.l0]; rfl) (Ev.ite_neg (by omega) (Ev.bind (Ev.cst (implInR _ _ _)) ?_))
    by_cases h : inR (s.size : Int) 1 8 = true
    · refine Ev.ite_pos h ?_
      have h' := h
      simp [inR] at h'
      refine Ev.ite_pos (by omega) (Ev.bind (Ev.cst (implSmall _)) (Ev.val Ev.some ?_))
      simp [al, h]
    · exact Ev.ite_neg h (Ev.val Ev.some (by simp [Bool.eq_false_iff.2 h]))
  | succ d ih =>
    intro n hn
    refine Ev.step (fun k => by simp only [impl_NameOk.l0]; rfl) (Ev.ite_pos (by omega) (Ev.ite_pos (by omega) (Ev.ite_pos (by omega) (Ev.bind (Ev.cst (implSmall _)) ?_))))
    rw [wrap_nat (by omega), al]
    have ih := ih (n + 1) (by omega)
    by_cases h1 : small (bt s (n : Int)) = true
    · rw [if_pos (Or.inl h1)]
      exact Ev.ite_pos h1 ih
    · refine Ev.ite_neg h1 (Ev.bind (Ev.cst (implDigit _)) ?_)
      by_cases h2 : digit (bt s (n : Int)) = true
      · rw [if_pos (Or.inr h2)]
        exact Ev.ite_pos h2 ih
      · rw [if_neg (fun e => e.elim h1 h2)]
        exact Ev.ite_neg h2 (Ev.val Ev.some (by simp))
theorem nmS_al (s : ByteArray) : ∀ d n : Nat, 0 < n → nmS s d n = (al s d n && inR (s.size : Int) 1 8) := by
  intro d
  induction d with
  | zero => intro n h; simp [nmS, al]
  | succ d ih =>
    intro n h
    rw [nmS, al, ih (n + 1) (by omega)]
    by_cases h1 : small (bt s (n : Int)) = true <;> by_cases h2 : digit (bt s (n : Int)) = true <;> simp [h, h1, h2]
def nameOk (s : ByteArray) : Bool := nmS s s.size 0
theorem nameOk_al (s : ByteArray) : nameOk s = (al s s.size 0 && (inR (s.size : Int) 1 8 && small (bt s 0))) := by
  unfold nameOk
  generalize hd : s.size = d
  cases d with
  | zero => simp [nmS, hd, inR]
  | succ d =>
    rw [nmS, al, nmS_al s d (0 + 1) (by omega), hd]
    have e : bt s ((0 : Nat) : Int) = bt s 0 := rfl
    rw [e]
    by_cases h1 : small (bt s 0) = true <;> by_cases h2 : digit (bt s 0) = true <;> simp [h1, h2]
theorem specName_ev (s : ByteArray) (hs : s.size ≤ maxLen) : Ev (fun k => spec_NameOk.f k s) (nameOk s) := by
  unfold spec_NameOk.f
  exact specName_l s hs s.size 0 (by omega)
theorem implName_ev (s : ByteArray) (hs : s.size ≤ maxLen) : Ev (fun k => impl_NameOk.f k s) (nameOk s) := by
  unfold impl_NameOk.f
  rw [nameOk_al]
  exact implName_l s hs s.size 0 (by omega)
def symL (l : List I_Sym) (m : ByteArray) : Nat → Nat → Int
  | 0, _ => -1
  | d + 1, n => if (rd_I_Sym l (n : Int)).f0.toList = m.toList then (n : Int) else symL l m d (n + 1)
def symOf (l : List I_Sym) (m : ByteArray) : Int := symL l m l.length 0
theorem specSymOf_l (l : List I_Sym) (m : ByteArray) (hl : l.length ≤ maxLen) : ∀ d n : Nat, n + d = l.length → Ev (fun k => spec_SymOf.l0 k l m (n : Int)) (symL l m d n) := by
  intro d
  induction d with
  | zero =>
    intro n hn
    exact Ev.step (fun k => by simp only [spec_SymOf.l0]; rfl) (Ev.ite_neg (by omega) Ev.some)
  | succ d ih =>
    intro n hn
    refine Ev.step (fun k => by simp only [spec_SymOf.l0]; rfl) (Ev.ite_pos (by omega) (Ev.ite_pos (by omega) ?_))
    rw [wrap_nat (by omega), symL]
    by_cases h : (rd_I_Sym l (n : Int)).f0.toList = m.toList
    · rw [if_pos h]; exact Ev.ite_pos h Ev.some
    · rw [if_neg h]; exact Ev.ite_neg h (ih _ (by omega))
theorem implSymOf_l (l : List I_Sym) (m : ByteArray) (hl : l.length ≤ maxLen) : ∀ d n : Nat, n + d = l.length → Ev (fun k => impl_Sym__with_impl_SymOf_1.l0 k l (l.length : Int) (n : Int) m) (symL l m d n) := by
  intro d
  induction d with
  | zero =>
    intro n hn
    exact Ev.step (fun k => by simp only [impl_Sym__with_impl_SymOf_1.l0]; rfl) (Ev.ite_neg (by omega) Ev.some)
  | succ d ih =>
    intro n hn
    refine Ev.step (fun k => by simp only [impl_Sym__with_impl_SymOf_1.l0]; rfl) (Ev.ite_pos (by omega) (Ev.ite_pos (by omega) (Ev.ite_pos (by omega) (Ev.bind Ev.some ?_))))
    rw [wrap_nat (by omega), symL]
    by_cases h : (rd_I_Sym l (n : Int)).f0.toList = m.toList
    · rw [if_pos h]; exact Ev.ite_pos (by simp [h]) Ev.some
    · rw [if_neg h]; exact Ev.ite_neg (by simp [h]) (ih _ (by omega))
theorem specSymOf_ev (l : List I_Sym) (m : ByteArray) (hl : l.length ≤ maxLen) : Ev (fun k => spec_SymOf.f k l m) (symOf l m) := by
  unfold spec_SymOf.f
  exact specSymOf_l l m hl l.length 0 (by omega)
theorem implSymOf_ev (l : List I_Sym) (m : ByteArray) (hl : l.length ≤ maxLen) : Ev (fun k => impl_SymOf.f k l m) (symOf l m) := by
  unfold impl_SymOf.f impl_Sym__with_impl_SymOf_1.f
  exact Ev.bind (implSymOf_l l m hl l.length 0 (by omega)) Ev.some
def okAt (l : List I_Sym) (n : Nat) : Bool := nameOk (rd_I_Sym l (n : Int)).f0 && (decide (symOf l (rd_I_Sym l (n : Int)).f0 = (n : Int)) && (inR (rd_I_Sym l (n : Int)).f1 0 3 && (!(rd_I_Sym l (n : Int)).f2 || decide ((rd_I_Sym l (n : Int)).f1 = 2))))
def sgEnd (l : List I_Sym) : Bool := inR (l.length : Int) 1 8 && ((rd_I_Sym l 0).f0.toList == ([116, 116] : List UInt8) && ((rd_I_Sym l 0).f1 == 0 && !(rd_I_Sym l 0).f2))
def sgL (l : List I_Sym) : Nat → Nat → Bool
  | 0, _ => sgEnd l
  | d + 1, n => if okAt l n = true then sgL l d (n + 1) else false
def sigOk (l : List I_Sym) : Bool := sgL l l.length 0
theorem specSig_l (l : List I_Sym) (hl : l.length ≤ maxLen) (hn : ∀ x ∈ l, x.f0.size ≤ maxLen) : ∀ d n : Nat, n + d = l.length → Ev (fun k => spec_SigOk.l0 k l (n : Int)) (sgL l d n) := by
  intro d
  induction d with
  | zero =>
    intro n hn
    refine Ev.step (fun k => by simp only [spec_SigOk.l0]; rfl) (Ev.ite_neg (by omega) (Ev.bind (Ev.cst (specInR _ _ _)) ?_))
    rw [sgL, sgEnd]
    by_cases h : inR (l.length : Int) 1 8 = true
    · have h' := h
      simp [inR] at h'
      rw [h, Bool.true_and]
      exact Ev.ite_pos rfl (Ev.ite_pos (by omega) Ev.some)
    · exact Ev.ite_neg h (Ev.val Ev.some (by simp [Bool.eq_false_iff.2 h]))
  | succ d ih =>
    intro n hd
    have hx := hn _ (getD_mem l zI_Sym n (by omega))
    refine Ev.step (fun k => by simp only [spec_SigOk.l0]; rfl) (Ev.ite_pos (by omega) (Ev.ite_pos (by omega) (Ev.bind (specName_ev _ hx) ?_)))
    rw [wrap_nat (by omega), sgL, okAt]
    have ih := ih (n + 1) (by omega)
    by_cases h1 : nameOk (rd_I_Sym l (n : Int)).f0 = true
    · refine Ev.ite_pos h1 (Ev.bind (specSymOf_ev _ _ hl) ?_)
      by_cases h2 : symOf l (rd_I_Sym l (n : Int)).f0 = (n : Int)
      · refine Ev.ite_pos h2 (Ev.bind (Ev.cst (specInR _ _ _)) ?_)
        by_cases h3 : inR (rd_I_Sym l (n : Int)).f1 0 3 = true
        · refine Ev.ite_pos h3 ?_
          by_cases h4 : (rd_I_Sym l (n : Int)).f2 = true
          · refine Ev.ite_pos h4 ?_
            by_cases h5 : (rd_I_Sym l (n : Int)).f1 = 2
            · exact Ev.ite_pos h5 (Ev.val ih (by rw [h5] at h3; simp [h1, h2, h3, h4, h5]))
            · exact Ev.ite_neg h5 (Ev.val Ev.some (by simp [h1, h2, h3, h4, h5]))
          · exact Ev.ite_neg h4 (Ev.val ih (by simp [h1, h2, h3, h4]))
        · exact Ev.ite_neg h3 (Ev.val Ev.some (by simp [h3]))
      · exact Ev.ite_neg h2 (Ev.val Ev.some (by simp [h2]))
    · exact Ev.ite_neg h1 (Ev.val Ev.some (by simp [h1]))
theorem specSigOk_ev (l : List I_Sym) (hl : l.length ≤ maxLen) (hn : ∀ x ∈ l, x.f0.size ≤ maxLen) : Ev (fun k => spec_SigOk.f k l) (sigOk l) := by
  unfold spec_SigOk.f
  exact specSig_l l hl hn l.length 0 (by omega)
theorem okAt_end {l : List I_Sym} (h : okAt l 0 = true) : ((rd_I_Sym l 0).f1 == 0) = ((rd_I_Sym l 0).f1 == 0 && !(rd_I_Sym l 0).f2) := by
  have e : rd_I_Sym l ((0 : Nat) : Int) = rd_I_Sym l 0 := rfl
  unfold okAt at h
  rw [e] at h
  simp only [Bool.and_eq_true, Bool.or_eq_true, Bool.not_eq_true', decide_eq_true_eq] at h
  rcases h.2.2.2 with h2 | h2
  · rw [h2]; simp
  · rw [h2]; rfl
theorem implSig_l (l : List I_Sym) (hl : l.length ≤ maxLen) (hn : ∀ x ∈ l, x.f0.size ≤ maxLen) : ∀ d n : Nat, n + d = l.length → (0 < n → okAt l 0 = true) → Ev (fun k => impl_SigOk.l0 k l l (l.length : Int) (n : Int)) (sgL l d n) := by
  intro d
  induction d with
  | zero =>
    intro n hn h0
    refine Ev.step (fun k => by simp only [impl_SigOk.l0]; rfl) (Ev.ite_neg (by omega) (Ev.bind (Ev.cst (implInR _ _ _)) ?_))
    rw [sgL, sgEnd]
    by_cases h : inR (l.length : Int) 1 8 = true
    · have h' := h
      simp [inR] at h'
      rw [h, Bool.true_and, ← okAt_end (h0 (by omega))]
      refine Ev.ite_pos rfl (Ev.ite_pos (by omega) ?_)
      by_cases ht : (rd_I_Sym l 0).f0.toList = ([116, 116] : List UInt8)
      · exact Ev.ite_pos ht (Ev.val Ev.some (by simp [ht]))
      · exact Ev.ite_neg ht (Ev.val Ev.some (by simp [ht]))
    · exact Ev.ite_neg h (Ev.val Ev.some (by simp [Bool.eq_false_iff.2 h]))
  | succ d ih =>
    intro n hd h0
    have hx := hn _ (getD_mem l zI_Sym n (by omega))
    refine Ev.step (fun k => by simp only [impl_SigOk.l0]; rfl) (Ev.ite_pos (by omega) (Ev.ite_pos (by omega) (Ev.ite_pos (by omega) (Ev.bind (implName_ev _ hx) ?_))))
    rw [wrap_nat (by omega), sgL]
    have ih : okAt l n = true → Ev (fun k => impl_SigOk.l0 k l l (l.length : Int) ((n + 1 : Nat) : Int)) (sgL l d (n + 1)) := fun h => ih (n + 1) (by omega) (fun _ => by
      by_cases e : n = 0
      · subst e; exact h
      · exact h0 (by omega))
    by_cases h1 : nameOk (rd_I_Sym l (n : Int)).f0 = true
    · refine Ev.ite_pos h1 (Ev.bind (implSymOf_ev _ _ hl) ?_)
      by_cases h2 : symOf l (rd_I_Sym l (n : Int)).f0 = (n : Int)
      · refine Ev.ite_pos h2 (Ev.bind (Ev.cst (implInR _ _ _)) ?_)
        by_cases h3 : inR (rd_I_Sym l (n : Int)).f1 0 3 = true
        · refine Ev.ite_pos h3 ?_
          by_cases h4 : (rd_I_Sym l (n : Int)).f2 = true
          · refine Ev.ite_pos h4 ?_
            by_cases h5 : (rd_I_Sym l (n : Int)).f1 = 2
            · have ok : okAt l n = true := by unfold okAt; rw [h5] at h3; simp [h1, h2, h3, h4, h5]
              exact Ev.ite_pos h5 (Ev.val (ih ok) (by rw [if_pos ok]))
            · exact Ev.ite_neg h5 (Ev.val Ev.some (by simp [okAt, h1, h2, h3, h4, h5]))
          · have ok : okAt l n = true := by unfold okAt; simp [h1, h2, h3, h4]
            exact Ev.ite_neg h4 (Ev.val (ih ok) (by rw [if_pos ok]))
        · exact Ev.ite_neg h3 (Ev.val Ev.some (by simp [okAt, h3]))
      · exact Ev.ite_neg h2 (Ev.val Ev.some (by simp [okAt, h2]))
    · exact Ev.ite_neg h1 (Ev.val Ev.some (by simp [okAt, h1]))
theorem implSigOk_ev (l : List I_Sym) (hl : l.length ≤ maxLen) (hn : ∀ x ∈ l, x.f0.size ≤ maxLen) : Ev (fun k => impl_SigOk.f k l) (sigOk l) := by
  unfold impl_SigOk.f
  exact implSig_l l hl hn l.length 0 (by omega) (fun h => absurd h (by omega))
theorem symS_len {l : List I_Sym} (h : el_SymS l ≤ maxLen) : l.length ≤ maxLen := by unfold el_SymS at h; omega
theorem names_cv {l : List L_Sym} (h : sz_SymS l ≤ 1048576) : ∀ x ∈ cv_SymS l, x.f0.size ≤ maxLen := by
  intro x hx
  have hm : maxLen = 9223372036854775807 := rfl
  obtain ⟨y, hy, rfl⟩ := List.mem_map.1 hx
  have := mem_sz_SymS hy
  simp only [sz_Sym] at this
  show y.f0.size ≤ _
  omega
/-! #### worlds that are right: what the program's WorldOk comes to -/
theorem sgL_all (l : List I_Sym) : ∀ d n : Nat, sgL l d n = true → ∀ m, n ≤ m → m < n + d → okAt l m = true := by
  intro d
  induction d with
  | zero => intro n h m a b; omega
  | succ d ih =>
    intro n h m a b
    rw [sgL] at h
    by_cases e : okAt l n = true
    · rw [if_pos e] at h
      by_cases e2 : m = n
      · subst e2; exact e
      · exact ih (n + 1) h m (by omega) (by omega)
    · rw [if_neg e] at h
      cases h
theorem sig_at {l : List I_Sym} (h : sigOk l = true) {n : Nat} (hn : n < l.length) : (0 ≤ (rd_I_Sym l (n : Int)).f1 ∧ (rd_I_Sym l (n : Int)).f1 ≤ 3) ∧ ((rd_I_Sym l (n : Int)).f2 = true → (rd_I_Sym l (n : Int)).f1 = 2) := by
  have h := sgL_all l l.length 0 h n (by omega) (by omega)
  unfold okAt at h
  simp only [Bool.and_eq_true, Bool.or_eq_true, Bool.not_eq_true', decide_eq_true_eq, inR] at h
  refine ⟨h.2.2.1, fun e => ?_⟩
  rcases h.2.2.2 with h2 | h2
  · rw [h2] at e; cases e
  · exact h2
def allF (P : Nat → Bool) : Nat → Nat → Bool
  | 0, _ => true
  | d + 1, n => P n && allF P d (n + 1)
theorem allF_and (c : Bool) (P : Nat → Bool) : ∀ d n : Nat, allF (fun i => c && P i) (d + 1) n = (c && allF P (d + 1) n) := by
  intro d
  induction d with
  | zero => intro n; simp [allF]
  | succ d ih =>
    intro n
    rw [allF, ih]
    simp only [allF]
    cases c <;> simp
theorem allF_congr {P Q : Nat → Bool} : ∀ d n : Nat, (∀ i, n ≤ i → i < n + d → P i = Q i) → allF P d n = allF Q d n := by
  intro d
  induction d with
  | zero => intro n h; rfl
  | succ d ih =>
    intro n h
    rw [allF, allF, h n (by omega) (by omega), ih (n + 1) (fun i a b => h i (by omega) (by omega))]
def pw (z a : Int) : Int := if a = 0 then 1 else if a = 1 then z else if a = 2 then z * z else z * z * z
theorem places_ev {z : Nat} (z1 : 1 ≤ z) (z4 : z ≤ 4) (a : Int) (h0 : 0 ≤ a) (h1 : a ≤ 3) : Ev (fun k => impl_placesOf.f k z a) (pw z a) := by
  have hz : z = 1 ∨ z = 2 ∨ z = 3 ∨ z = 4 := by omega
  have ha : a = 0 ∨ a = 1 ∨ a = 2 ∨ a = 3 := by omega
  refine Ev.of (fun k => impl_placesOf.mono z a k) (k := 8) ?_
  rcases hz with rfl | rfl | rfl | rfl <;> rcases ha with rfl | rfl | rfl | rfl <;> decide +kernel
def bd (hi : Int) (t : List Int) : Nat → Nat → Bool
  | 0, _ => true
  | d + 1, n => if inR (rd t (n : Int)) 0 hi = true then bd hi t d (n + 1) else false
theorem contains_l (z : Int) (t : List Int) (T : List (List Int)) (hl : t.length ≤ maxLen) : ∀ d n : Nat, n + d = t.length → ∃ i : Int, decide (i ≥ 0) = !bd (wrap64 (z - 1)) t d n ∧ Ev (fun k => slices_IndexFunc_int_int__with_impl_WorldOk_1.l0 k t (t.length : Int) (n : Int) z T) i := by
  intro d
  induction d with
  | zero =>
    intro n hn
    exact ⟨-1, by simp [bd], Ev.step (fun k => by simp only [slices_IndexFunc_int_int__with_impl_WorldOk_1.l0]; rfl) (Ev.ite_neg (by omega) Ev.some)⟩
  | succ d ih =>
    intro n hn
    obtain ⟨i, h1, h2⟩ := ih (n + 1) (by omega)
    have hw : impl_WorldOk_1.f (rd t (n : Int)) z T = some (!inR (rd t (n : Int)) 0 (wrap64 (z - 1))) := by
      unfold impl_WorldOk_1.f
      rw [implInR]
      rfl
    by_cases h : inR (rd t (n : Int)) 0 (wrap64 (z - 1)) = true
    · refine ⟨i, by rw [bd, if_pos h]; exact h1, ?_⟩
      refine Ev.step (fun k => by simp only [slices_IndexFunc_int_int__with_impl_WorldOk_1.l0]; rfl) (Ev.ite_pos (by omega) (Ev.ite_pos (by omega) (Ev.ite_pos (by omega) (Ev.bind (Ev.cst hw) ?_))))
      rw [wrap_nat (by omega), h]
      exact Ev.ite_neg (by decide) h2
    · refine ⟨(n : Int), by rw [bd, if_neg h]; simp, ?_⟩
      refine Ev.step (fun k => by simp only [slices_IndexFunc_int_int__with_impl_WorldOk_1.l0]; rfl) (Ev.ite_pos (by omega) (Ev.ite_pos (by omega) (Ev.ite_pos (by omega) (Ev.bind (Ev.cst hw) ?_))))
      rw [Bool.not_eq_true] at h
      rw [h]
      exact Ev.ite_pos (by decide) Ev.some
theorem contains_ev (z : Int) (t : List Int) (T : List (List Int)) (hl : t.length ≤ maxLen) : Ev (fun k => slices_ContainsFunc_int_int__with_impl_WorldOk_1.f k t z T) (!bd (wrap64 (z - 1)) t t.length 0) := by
  obtain ⟨i, h1, h2⟩ := contains_l z t T hl t.length 0 (by omega)
  unfold slices_ContainsFunc_int_int__with_impl_WorldOk_1.f slices_IndexFunc_int_int__with_impl_WorldOk_1.f
  exact Ev.bind h2 (Ev.val Ev.some h1)
theorem bd_all (hi : Int) (t : List Int) : ∀ d n : Nat, bd hi t d n = true → ∀ m, n ≤ m → m < n + d → 0 ≤ rd t (m : Int) ∧ rd t (m : Int) ≤ hi := by
  intro d
  induction d with
  | zero => intro n h m a b; omega
  | succ d ih =>
    intro n h m a b
    rw [bd] at h
    by_cases e : inR (rd t (n : Int)) 0 hi = true
    · rw [if_pos e] at h
      by_cases e2 : m = n
      · subst e2
        simpa [inR] using e
      · exact ih (n + 1) h m (by omega) (by omega)
    · rw [if_neg e] at h
      cases h
def op (z : Int) (t : List Int) (a b : Int) : Int := rd t (wrap64 (a + (wrap64 (z * b))))
theorem opR' {z : Int} (hz : z = 1 ∨ z = 2 ∨ z = 3 ∨ z = 4) {n : Int} (hl : n = z * z) {a b : Int} (a0 : 0 ≤ a) (a1 : a < z) (b0 : 0 ≤ b) (b1 : b < z) : 0 ≤ wrap64 (a + (wrap64 (z * b))) ∧ wrap64 (a + (wrap64 (z * b))) < n := by
  rcases hz with rfl | rfl | rfl | rfl <;> rw [wrap_id (x := _ * b) (by omega) (by omega), wrap_id (by omega) (by omega)] <;> omega
theorem opR {z : Nat} (z1 : 1 ≤ z) (z4 : z ≤ 4) {t : List Int} (hl : (t.length : Int) = z * z) {a b : Int} (a0 : 0 ≤ a) (a1 : a < z) (b0 : 0 ≤ b) (b1 : b < z) : 0 ≤ wrap64 (a + (wrap64 ((z : Int) * b))) ∧ wrap64 (a + (wrap64 ((z : Int) * b))) < (t.length : Int) := by
  exact opR' (by omega) hl a0 a1 b0 b1
theorem opV {z : Nat} (z1 : 1 ≤ z) (z4 : z ≤ 4) {t : List Int} (hl : (t.length : Int) = z * z) (hb : bd (wrap64 ((z : Int) - 1)) t t.length 0 = true) {a b : Int} (a0 : 0 ≤ a) (a1 : a < z) (b0 : 0 ≤ b) (b1 : b < z) : 0 ≤ op z t a b ∧ op z t a b < z := by
  have h := opR z1 z4 hl a0 a1 b0 b1
  obtain ⟨n, hn⟩ : ∃ n : Nat, wrap64 (a + (wrap64 ((z : Int) * b))) = n := ⟨_, (Int.toNat_of_nonneg h.1).symm⟩
  have g := bd_all _ t t.length 0 hb n (by omega) (by omega)
  have w : wrap64 ((z : Int) - 1) = (z : Int) - 1 := wrap_id (by omega) (by omega)
  unfold op
  rw [hn]
  omega
theorem implOp {z : Nat} (z1 : 1 ≤ z) (z4 : z ≤ 4) {t : List Int} (hl : (t.length : Int) = z * z) {a b : Int} (a0 : 0 ≤ a) (a1 : a < z) (b0 : 0 ≤ b) (b1 : b < z) : impl_indifferent_1.f a b t z = some (op z t a b) := by
  have h := opR z1 z4 hl a0 a1 b0 b1
  unfold impl_indifferent_1.f
  rw [if_pos h.1, if_pos h.2]
  rfl
def comm (z : Int) (t : List Int) (a b : Int) : Bool := decide (op z t a b = op z t b a)
def assoc (z : Int) (t : List Int) (a b c : Int) : Bool := decide (op z t (op z t a b) c = op z t a (op z t b c))
def indB (z : Nat) (t : List Int) : Bool := allF (fun a => allF (fun b => comm z t a b && allF (fun c => assoc z t a b c) z 0) z 0) z 0
theorem implInd2 {z : Nat} (z1 : 1 ≤ z) (z4 : z ≤ 4) {t : List Int} (hl : (t.length : Int) = z * z) (hb : bd (wrap64 ((z : Int) - 1)) t t.length 0 = true) (a b : Nat) (ha : a < z) (hB : b < z) (R : Bool) (hR : Ev (fun k => impl_indifferent.l1 k a z a z ((b + 1 : Nat) : Int) z t) R) : ∀ d c : Nat, c + d = z → Ev (fun k => impl_indifferent.l2 k a b z a z b z c z t) (allF (fun c => comm z t a b && assoc z t a b c) d c && R) := by
  have hm : maxLen = 9223372036854775807 := rfl
  intro d
  induction d with
  | zero =>
    intro c hc
    refine Ev.step (fun k => by simp only [impl_indifferent.l2]; rfl) (Ev.ite_neg (by omega) ?_)
    rw [wrap_nat (by omega), allF, Bool.true_and]
    exact hR
  | succ d ih =>
    intro c hc
    have v1 := opV z1 z4 hl hb (a := (a : Int)) (b := (b : Int)) (by omega) (by omega) (by omega) (by omega)
    have v2 := opV z1 z4 hl hb (a := (b : Int)) (b := (c : Int)) (by omega) (by omega) (by omega) (by omega)
    have o1 := implOp z1 z4 hl (a := (a : Int)) (b := (b : Int)) (by omega) (by omega) (by omega) (by omega)
    have o2 := implOp z1 z4 hl (a := (b : Int)) (b := (a : Int)) (by omega) (by omega) (by omega) (by omega)
    have o3 := implOp z1 z4 hl (a := op z t a b) (b := (c : Int)) v1.1 v1.2 (by omega) (by omega)
    have o4 := implOp z1 z4 hl (a := (b : Int)) (b := (c : Int)) (by omega) (by omega) (by omega) (by omega)
    have o5 := implOp z1 z4 hl (a := (a : Int)) (b := op z t b c) (by omega) (by omega) v2.1 v2.2
    refine Ev.step (fun k => by simp only [impl_indifferent.l2]; rfl) (Ev.ite_pos (by omega) (Ev.bind (Ev.cst o1) (Ev.bind (Ev.cst o2) ?_)))
    rw [allF]
    by_cases e : op z t a b = op z t b a
    · refine Ev.ite_pos e (Ev.bind (Ev.cst o1) (Ev.bind (Ev.cst o3) (Ev.bind (Ev.cst o4) (Ev.bind (Ev.cst o5) ?_))))
      by_cases e2 : op z t (op z t a b) c = op z t a (op z t b c)
      · refine Ev.ite_pos e2 ?_
        rw [wrap_nat (by omega)]
        refine Ev.val (ih (c + 1) (by omega)) ?_
        have c1 : comm z t a b = true := decide_eq_true e
        have c2 : assoc z t a b c = true := decide_eq_true e2
        rw [c1, c2]
        rfl
      · have c2 : assoc z t a b c = false := decide_eq_false e2
        exact Ev.ite_neg e2 (Ev.val Ev.some (by rw [c2]; simp))
    · have c1 : comm z t a b = false := decide_eq_false e
      exact Ev.ite_neg e (Ev.val Ev.some (by rw [c1]; simp))
theorem implInd1 {z : Nat} (z1 : 1 ≤ z) (z4 : z ≤ 4) {t : List Int} (hl : (t.length : Int) = z * z) (hb : bd (wrap64 ((z : Int) - 1)) t t.length 0 = true) (a : Nat) (ha : a < z) (R : Bool) (hR : Ev (fun k => impl_indifferent.l0 k z ((a + 1 : Nat) : Int) z t) R) : ∀ d b : Nat, b + d = z → Ev (fun k => impl_indifferent.l1 k a z a z b z t) (allF (fun b => comm z t a b && allF (fun c => assoc z t a b c) z 0) d b && R) := by
  have hm : maxLen = 9223372036854775807 := rfl
  intro d
  induction d with
  | zero =>
    intro b hd
    refine Ev.step (fun k => by simp only [impl_indifferent.l1]; rfl) (Ev.ite_neg (by omega) ?_)
    rw [wrap_nat (by omega), allF, Bool.true_and]
    exact hR
  | succ d ih =>
    intro b hd
    refine Ev.step (fun k => by simp only [impl_indifferent.l1]; rfl) (Ev.ite_pos (by omega) ?_)
    refine Ev.val (implInd2 z1 z4 hl hb a b ha (by omega) _ (ih (b + 1) (by omega)) z 0 (by omega)) ?_
    obtain ⟨y, rfl⟩ : ∃ y, z = y + 1 := ⟨z - 1, by omega⟩
    rw [allF_and]
    show _ = (((comm ((y + 1 : Nat) : Int) t a b && allF (fun c => assoc ((y + 1 : Nat) : Int) t a b c) (y + 1) 0) && _) && R)
    rw [Bool.and_assoc, Bool.and_assoc, Bool.and_assoc]
theorem implInd0 {z : Nat} (z1 : 1 ≤ z) (z4 : z ≤ 4) {t : List Int} (hl : (t.length : Int) = z * z) (hb : bd (wrap64 ((z : Int) - 1)) t t.length 0 = true) : ∀ d a : Nat, a + d = z → Ev (fun k => impl_indifferent.l0 k z a z t) (allF (fun a => allF (fun b => comm z t a b && allF (fun c => assoc z t a b c) z 0) z 0) d a) := by
  intro d
  induction d with
  | zero =>
    intro a hd
    exact Ev.step (fun k => by simp only [impl_indifferent.l0]; rfl) (Ev.ite_neg (by omega) Ev.some)
  | succ d ih =>
    intro a hd
    refine Ev.step (fun k => by simp only [impl_indifferent.l0]; rfl) (Ev.ite_pos (by omega) ?_)
    exact implInd1 z1 z4 hl hb a (by omega) _ (ih (a + 1) (by omega)) z 0 (by omega)
theorem implInd_ev {z : Nat} (z1 : 1 ≤ z) (z4 : z ≤ 4) {t : List Int} (hl : (t.length : Int) = z * z) (hb : bd (wrap64 ((z : Int) - 1)) t t.length 0 = true) : Ev (fun k => impl_indifferent.f k z t) (indB z t) := by
  unfold impl_indifferent.f
  exact implInd0 z1 z4 hl hb z 0 (by omega)
def rowOk (z : Nat) (x : I_Sym) (t : List Int) : Bool := decide ((t.length : Int) = pw z x.f1) && (bd (wrap64 ((z : Int) - 1)) t t.length 0 && (!x.f2 || indB z t))
def wo (z : Nat) (s : List I_Sym) (T : List (List Int)) : Nat → Nat → Bool
  | 0, _ => true
  | d + 1, n => if rowOk z (rd_I_Sym s (n : Int)) (rd_Ls_i64 T (n : Int)) = true then wo z s T d (n + 1) else false
def worldOk (s : List I_Sym) (z : Int) (T : List (List Int)) : Bool := sigOk s && (inR z 1 4 && (decide (T.length = s.length) && wo z.toNat s T s.length 0))
theorem pw2 {z : Nat} {x : Int} (h : x = 2) : pw z x = z * z := by subst h; rfl
theorem implWorld_l {z : Nat} (z1 : 1 ≤ z) (z4 : z ≤ 4) (s : List I_Sym) (T : List (List Int)) (hs : sigOk s = true) (hl : s.length ≤ maxLen) (hT : T.length = s.length) (hn : ∀ x ∈ T, x.length ≤ maxLen) : ∀ d n : Nat, n + d = s.length → Ev (fun k => impl_WorldOk.l0 k s (s.length : Int) (n : Int) z T) (wo z s T d n) := by
  intro d
  induction d with
  | zero =>
    intro n hd
    exact Ev.step (fun k => by simp only [impl_WorldOk.l0]; rfl) (Ev.ite_neg (by omega) Ev.some)
  | succ d ih =>
    intro n hd
    have hx := sig_at hs (n := n) (by omega)
    have ht : (rd_Ls_i64 T (n : Int)).length ≤ maxLen := hn _ (getD_mem T [] n (by omega))
    refine Ev.step (fun k => by simp only [impl_WorldOk.l0]; rfl) (Ev.ite_pos (by omega) (Ev.ite_pos (by omega) (Ev.ite_pos (by omega) (Ev.ite_pos (by omega) (Ev.bind (places_ev z1 z4 _ hx.1.1 hx.1.2) ?_)))))
    rw [wrap_nat (by omega), wo, rowOk]
    have ih := ih (n + 1) (by omega)
    by_cases h1 : ((rd_Ls_i64 T (n : Int)).length : Int) = pw z (rd_I_Sym s (n : Int)).f1
    · refine Ev.ite_pos h1 (Ev.bind (contains_ev _ _ _ ht) ?_)
      by_cases h2 : bd (wrap64 ((z : Int) - 1)) (rd_Ls_i64 T (n : Int)) (rd_Ls_i64 T (n : Int)).length 0 = true
      · refine Ev.ite_neg (by rw [h2]; decide) ?_
        by_cases h3 : (rd_I_Sym s (n : Int)).f2 = true
        · have hl2 := h1
          rw [pw2 (hx.2 h3)] at hl2
          refine Ev.ite_pos h3 (Ev.bind (implInd_ev z1 z4 hl2 h2) ?_)
          by_cases h4 : indB z (rd_Ls_i64 T (n : Int)) = true
          · exact Ev.ite_pos h4 (Ev.val ih (by simp [h1, h2, h3, h4]))
          · exact Ev.ite_neg h4 (Ev.val Ev.some (by simp [h1, h2, h3, h4]))
        · exact Ev.ite_neg h3 (Ev.val ih (by simp [h1, h2, h3]))
      · rw [Bool.not_eq_true] at h2
        exact Ev.ite_pos (by rw [h2]; decide) (Ev.val Ev.some (by simp [h2]))
    · exact Ev.ite_neg h1 (Ev.val Ev.some (by rw [decide_eq_false h1]; rfl))
theorem implWorldOk_ev (s : List I_Sym) (z : Int) (T : List (List Int)) (hl : s.length ≤ maxLen) (hn : ∀ x ∈ s, x.f0.size ≤ maxLen) (ht : ∀ x ∈ T, x.length ≤ maxLen) : Ev (fun k => impl_WorldOk.f k s z T) (worldOk s z T) := by
  unfold impl_WorldOk.f worldOk
  refine Ev.bind (implSigOk_ev s hl hn) ?_
  have hf : Ev (fun k => impl_WorldOk.j0 k s true z T) false := by
    refine Ev.step (fun k => by simp only [impl_WorldOk.j0]; rfl) ?_
    exact Ev.some
  by_cases h1 : sigOk s = true
  · refine Ev.ite_pos h1 (Ev.bind (Ev.cst (implInR _ _ _)) ?_)
    by_cases h2 : inR z 1 4 = true
    · refine Ev.ite_pos h2 (Ev.step (fun k => by simp only [impl_WorldOk.j0]; rfl) ?_)
      by_cases h3 : T.length = s.length
      · have h2' := h2
        simp [inR] at h2'
        obtain ⟨y, hy⟩ : ∃ y : Nat, z = (y : Int) := ⟨z.toNat, by omega⟩
        subst hy
        exact Ev.ite_neg (by simp [h3]) (Ev.val (implWorld_l (by omega) (by omega) s T h1 hl h3 ht s.length 0 (by omega)) (by simp [h1, h2, h3]))
      · exact Ev.ite_pos (by simp; omega) (Ev.val Ev.some (by simp [h3]))
    · exact Ev.ite_neg h2 (Ev.val hf (by simp [h2]))
  · exact Ev.ite_neg h1 (Ev.val hf (by simp [h1]))
theorem tabs_len {T : List (List Int)} (h : el_IntSS T ≤ maxLen) : ∀ x ∈ T, x.length ≤ maxLen := by
  intro x hx
  have := mem_size el_IntS hx
  have e : x.length ≤ el_IntS x := by unfold el_IntS; omega
  unfold el_IntSS at h
  omega
/-! #### the reference's WorldOk -/
theorem power_ev {z : Nat} (z1 : 1 ≤ z) (z4 : z ≤ 4) (a : Int) (h0 : 0 ≤ a) (h1 : a ≤ 3) : Ev (fun k => spec_l24Power.f k z a) (pw z a) := by
  have hz : z = 1 ∨ z = 2 ∨ z = 3 ∨ z = 4 := by omega
  have ha : a = 0 ∨ a = 1 ∨ a = 2 ∨ a = 3 := by omega
  refine Ev.of (fun k => spec_l24Power.mono z a k) (k := 8) ?_
  rcases hz with rfl | rfl | rfl | rfl <;> rcases ha with rfl | rfl | rfl | rfl <;> decide +kernel
theorem specOp {z : Nat} (z1 : 1 ≤ z) (z4 : z ≤ 4) {T : List (List Int)} {i : Nat} (hi : i < T.length) (hl : ((rd_Ls_i64 T (i : Int)).length : Int) = z * z) {a b : Int} (a0 : 0 ≤ a) (a1 : a < z) (b0 : 0 ≤ b) (b1 : b < z) : spec_l24Two.f z T (i : Int) a b = some (op z (rd_Ls_i64 T (i : Int)) a b) := by
  have h := opR z1 z4 hl a0 a1 b0 b1
  unfold spec_l24Two.f
  rw [if_pos (by omega), if_pos (by omega), if_pos h.1, if_pos h.2]
  rfl
theorem specInd2 {z : Nat} (z1 : 1 ≤ z) (z4 : z ≤ 4) {T : List (List Int)} {i : Nat} (hi : i < T.length) (hl : ((rd_Ls_i64 T (i : Int)).length : Int) = z * z) (hb : bd (wrap64 ((z : Int) - 1)) (rd_Ls_i64 T (i : Int)) (rd_Ls_i64 T (i : Int)).length 0 = true) (a b : Nat) (ha : a < z) (hB : b < z) (R : Bool) (hR : Ev (fun k => spec_l24Blind.l1 k (i : Int) a ((b + 1 : Nat) : Int) z T) R) : ∀ d c : Nat, c + d = z → Ev (fun k => spec_l24Blind.l2 k (i : Int) a b c z T) (allF (fun c => assoc z (rd_Ls_i64 T (i : Int)) a b c) d c && R) := by
  have hm : maxLen = 9223372036854775807 := rfl
  intro d
  induction d with
  | zero =>
    intro c hc
    refine Ev.step (fun k => by simp only [spec_l24Blind.l2]; rfl) (Ev.ite_neg (by omega) ?_)
    rw [wrap_nat (by omega), allF, Bool.true_and]
    exact hR
  | succ d ih =>
    intro c hc
    have v1 := opV z1 z4 hl hb (a := (a : Int)) (b := (b : Int)) (by omega) (by omega) (by omega) (by omega)
    have v2 := opV z1 z4 hl hb (a := (b : Int)) (b := (c : Int)) (by omega) (by omega) (by omega) (by omega)
    have o1 := specOp z1 z4 hi hl (a := (a : Int)) (b := (b : Int)) (by omega) (by omega) (by omega) (by omega)
    have o2 := specOp z1 z4 hi hl (a := (b : Int)) (b := (a : Int)) (by omega) (by omega) (by omega) (by omega)
    have o3 := specOp z1 z4 hi hl (a := op z (rd_Ls_i64 T (i : Int)) a b) (b := (c : Int)) v1.1 v1.2 (by omega) (by omega)
    have o4 := specOp z1 z4 hi hl (a := (b : Int)) (b := (c : Int)) (by omega) (by omega) (by omega) (by omega)
    have o5 := specOp z1 z4 hi hl (a := (a : Int)) (b := op z (rd_Ls_i64 T (i : Int)) b c) (by omega) (by omega) v2.1 v2.2
    refine Ev.step (fun k => by simp only [spec_l24Blind.l2]; rfl) (Ev.ite_pos (by omega) ?_)
    rw [allF]
    refine Ev.bind (Ev.cst o1) (Ev.bind (Ev.cst o3) (Ev.bind (Ev.cst o4) (Ev.bind (Ev.cst o5) ?_)))
    by_cases e2 : op z (rd_Ls_i64 T (i : Int)) (op z (rd_Ls_i64 T (i : Int)) a b) c = op z (rd_Ls_i64 T (i : Int)) a (op z (rd_Ls_i64 T (i : Int)) b c)
    · refine Ev.ite_pos e2 ?_
      rw [wrap_nat (by omega)]
      refine Ev.val (ih (c + 1) (by omega)) ?_
      have c2 : assoc z (rd_Ls_i64 T (i : Int)) a b c = true := decide_eq_true e2
      rw [c2]
      rfl
    · have c2 : assoc z (rd_Ls_i64 T (i : Int)) a b c = false := decide_eq_false e2
      exact Ev.ite_neg e2 (Ev.val Ev.some (by rw [c2]; simp))
theorem specInd1 {z : Nat} (z1 : 1 ≤ z) (z4 : z ≤ 4) {T : List (List Int)} {i : Nat} (hi : i < T.length) (hl : ((rd_Ls_i64 T (i : Int)).length : Int) = z * z) (hb : bd (wrap64 ((z : Int) - 1)) (rd_Ls_i64 T (i : Int)) (rd_Ls_i64 T (i : Int)).length 0 = true) (a : Nat) (ha : a < z) (R : Bool) (hR : Ev (fun k => spec_l24Blind.l0 k (i : Int) ((a + 1 : Nat) : Int) z T) R) : ∀ d b : Nat, b + d = z → Ev (fun k => spec_l24Blind.l1 k (i : Int) a b z T) (allF (fun b => comm z (rd_Ls_i64 T (i : Int)) a b && allF (fun c => assoc z (rd_Ls_i64 T (i : Int)) a b c) z 0) d b && R) := by
  have hm : maxLen = 9223372036854775807 := rfl
  intro d
  induction d with
  | zero =>
    intro b hd
    refine Ev.step (fun k => by simp only [spec_l24Blind.l1]; rfl) (Ev.ite_neg (by omega) ?_)
    rw [wrap_nat (by omega), allF, Bool.true_and]
    exact hR
  | succ d ih =>
    intro b hd
    refine Ev.step (fun k => by simp only [spec_l24Blind.l1]; rfl) (Ev.ite_pos (by omega) ?_)
    have o1 := specOp z1 z4 hi hl (a := (a : Int)) (b := (b : Int)) (by omega) (by omega) (by omega) (by omega)
    have o2 := specOp z1 z4 hi hl (a := (b : Int)) (b := (a : Int)) (by omega) (by omega) (by omega) (by omega)
    refine Ev.bind (Ev.cst o1) (Ev.bind (Ev.cst o2) ?_)
    rw [allF]
    by_cases e : op z (rd_Ls_i64 T (i : Int)) a b = op z (rd_Ls_i64 T (i : Int)) b a
    · refine Ev.ite_pos e (Ev.val (specInd2 z1 z4 hi hl hb a b ha (by omega) _ (ih (b + 1) (by omega)) z 0 (by omega)) ?_)
      have c1 : comm z (rd_Ls_i64 T (i : Int)) a b = true := decide_eq_true e
      rw [c1]
      simp [Bool.and_assoc]
    · have c1 : comm z (rd_Ls_i64 T (i : Int)) a b = false := decide_eq_false e
      exact Ev.ite_neg e (Ev.val Ev.some (by rw [c1]; simp))
theorem specInd0 {z : Nat} (z1 : 1 ≤ z) (z4 : z ≤ 4) {T : List (List Int)} {i : Nat} (hi : i < T.length) (hl : ((rd_Ls_i64 T (i : Int)).length : Int) = z * z) (hb : bd (wrap64 ((z : Int) - 1)) (rd_Ls_i64 T (i : Int)) (rd_Ls_i64 T (i : Int)).length 0 = true) : ∀ d a : Nat, a + d = z → Ev (fun k => spec_l24Blind.l0 k (i : Int) a z T) (allF (fun a => allF (fun b => comm z (rd_Ls_i64 T (i : Int)) a b && allF (fun c => assoc z (rd_Ls_i64 T (i : Int)) a b c) z 0) z 0) d a) := by
  intro d
  induction d with
  | zero =>
    intro a hd
    exact Ev.step (fun k => by simp only [spec_l24Blind.l0]; rfl) (Ev.ite_neg (by omega) Ev.some)
  | succ d ih =>
    intro a hd
    refine Ev.step (fun k => by simp only [spec_l24Blind.l0]; rfl) (Ev.ite_pos (by omega) ?_)
    have hm : maxLen = 9223372036854775807 := rfl
    have ih := ih (a + 1) (by omega)
    exact specInd1 z1 z4 hi hl hb a (by omega) _ ih z 0 (by omega)
theorem specInd_ev {z : Nat} (z1 : 1 ≤ z) (z4 : z ≤ 4) {T : List (List Int)} {i : Nat} (hi : i < T.length) (hl : ((rd_Ls_i64 T (i : Int)).length : Int) = z * z) (hb : bd (wrap64 ((z : Int) - 1)) (rd_Ls_i64 T (i : Int)) (rd_Ls_i64 T (i : Int)).length 0 = true) : Ev (fun k => spec_l24Blind.f k z T (i : Int)) (indB z (rd_Ls_i64 T (i : Int))) := by
  unfold spec_l24Blind.f
  exact specInd0 z1 z4 hi hl hb z 0 (by omega)
theorem specWorld_r {z : Nat} (s : List I_Sym) (T : List (List Int)) (hT : T.length = s.length) (n : Nat) (hn : n < s.length) (ht : (rd_Ls_i64 T (n : Int)).length ≤ maxLen) (R : Bool) (hR : bd (wrap64 ((z : Int) - 1)) (rd_Ls_i64 T (n : Int)) (rd_Ls_i64 T (n : Int)).length 0 = true → Ev (fun k => if (rd_I_Sym s (n : Int)).f2 = true then ((spec_l24Blind.f k z T (n : Int)).bind fun t157 => (if t157 = true then (spec_WorldOk.l0 k s (wrap64 ((n : Int) + 1)) z T) else (some false))) else (spec_WorldOk.l0 k s (wrap64 ((n : Int) + 1)) z T)) R) : ∀ d m : Nat, m + d = (rd_Ls_i64 T (n : Int)).length → (bd (wrap64 ((z : Int) - 1)) (rd_Ls_i64 T (n : Int)) (rd_Ls_i64 T (n : Int)).length 0 = bd (wrap64 ((z : Int) - 1)) (rd_Ls_i64 T (n : Int)) d m) → Ev (fun k => spec_WorldOk.l1 k s (n : Int) (m : Int) z T) (bd (wrap64 ((z : Int) - 1)) (rd_Ls_i64 T (n : Int)) d m && R) := by
  intro d
  induction d with
  | zero =>
    intro m hd hb
    refine Ev.step (fun k => by simp only [spec_WorldOk.l1]; rfl) (Ev.ite_pos (by omega) (Ev.ite_pos (by omega) (Ev.ite_neg (by omega) (Ev.ite_pos (by omega) (Ev.val (hR (by rw [hb]; rfl)) (by simp [bd]))))))
  | succ d ih =>
    intro m hd hb
    refine Ev.step (fun k => by simp only [spec_WorldOk.l1]; rfl) (Ev.ite_pos (by omega) (Ev.ite_pos (by omega) (Ev.ite_pos (by omega) (Ev.ite_pos (by omega) (Ev.bind (Ev.cst (specInR _ _ _)) ?_)))))
    rw [wrap_nat (by omega), bd]
    rw [bd] at hb
    by_cases e : inR (rd (rd_Ls_i64 T (n : Int)) (m : Int)) 0 (wrap64 ((z : Int) - 1)) = true
    · rw [if_pos e] at hb
      rw [if_pos e]
      exact Ev.ite_pos e (ih (m + 1) (by omega) hb)
    · rw [if_neg e]
      exact Ev.ite_neg e Ev.some
theorem specWorld_l {z : Nat} (z1 : 1 ≤ z) (z4 : z ≤ 4) (s : List I_Sym) (T : List (List Int)) (hs : sigOk s = true) (hl : s.length ≤ maxLen) (hT : T.length = s.length) (hn : ∀ x ∈ T, x.length ≤ maxLen) : ∀ d n : Nat, n + d = s.length → Ev (fun k => spec_WorldOk.l0 k s (n : Int) z T) (wo z s T d n) := by
  intro d
  induction d with
  | zero =>
    intro n hd
    exact Ev.step (fun k => by simp only [spec_WorldOk.l0]; rfl) (Ev.ite_neg (by omega) Ev.some)
  | succ d ih =>
    intro n hd
    have hx := sig_at hs (n := n) (by omega)
    have ht : (rd_Ls_i64 T (n : Int)).length ≤ maxLen := hn _ (getD_mem T [] n (by omega))
    refine Ev.step (fun k => by simp only [spec_WorldOk.l0]; rfl) (Ev.ite_pos (by omega) (Ev.ite_pos (by omega) (Ev.ite_pos (by omega) (Ev.bind (power_ev z1 z4 _ hx.1.1 hx.1.2) ?_))))
    rw [wo, rowOk]
    have ih := ih (n + 1) (by omega)
    rw [← wrap_nat (by omega)] at ih
    by_cases h1 : ((rd_Ls_i64 T (n : Int)).length : Int) = pw z (rd_I_Sym s (n : Int)).f1
    · refine Ev.ite_pos h1 ?_
      refine Ev.val (specWorld_r s T hT n (by omega) ht (if (rd_I_Sym s (n : Int)).f2 = true then (if indB z (rd_Ls_i64 T (n : Int)) = true then wo z s T d (n + 1) else false) else wo z s T d (n + 1)) (fun h2 => ?_) (rd_Ls_i64 T (n : Int)).length 0 (by omega) rfl) ?_
      · by_cases h3 : (rd_I_Sym s (n : Int)).f2 = true
        · have hl2 := h1
          rw [pw2 (hx.2 h3)] at hl2
          rw [if_pos h3]
          refine Ev.ite_pos h3 (Ev.bind (specInd_ev z1 z4 (by omega) hl2 h2) ?_)
          by_cases h4 : indB z (rd_Ls_i64 T (n : Int)) = true
          · rw [if_pos h4]; exact Ev.ite_pos h4 ih
          · rw [if_neg h4]; exact Ev.ite_neg h4 Ev.some
        · rw [if_neg h3]; exact Ev.ite_neg h3 ih
      · by_cases h2 : bd (wrap64 ((z : Int) - 1)) (rd_Ls_i64 T (n : Int)) (rd_Ls_i64 T (n : Int)).length 0 = true
        · by_cases h3 : (rd_I_Sym s (n : Int)).f2 = true
          · by_cases h4 : indB z (rd_Ls_i64 T (n : Int)) = true
            · simp [h1, h2, h3, h4]
            · simp [h1, h2, h3, h4]
          · simp [h1, h2, h3]
        · simp [h2]
    · exact Ev.ite_neg h1 (Ev.val Ev.some (by rw [decide_eq_false h1]; rfl))
theorem specWorldOk_ev (s : List I_Sym) (z : Int) (T : List (List Int)) (hl : s.length ≤ maxLen) (hn : ∀ x ∈ s, x.f0.size ≤ maxLen) (ht : ∀ x ∈ T, x.length ≤ maxLen) : Ev (fun k => spec_WorldOk.f k s z T) (worldOk s z T) := by
  unfold spec_WorldOk.f worldOk
  refine Ev.bind (specSigOk_ev s hl hn) ?_
  have hf : Ev (fun k => spec_WorldOk.j0 k s true z T) false := by
    refine Ev.step (fun k => by simp only [spec_WorldOk.j0]; rfl) ?_
    exact Ev.some
  by_cases h1 : sigOk s = true
  · refine Ev.ite_pos h1 (Ev.bind (Ev.cst (specInR _ _ _)) ?_)
    by_cases h2 : inR z 1 4 = true
    · refine Ev.ite_pos h2 (Ev.step (fun k => by simp only [spec_WorldOk.j0]; rfl) ?_)
      by_cases h3 : T.length = s.length
      · have h2' := h2
        simp [inR] at h2'
        obtain ⟨y, hy⟩ : ∃ y : Nat, z = (y : Int) := ⟨z.toNat, by omega⟩
        subst hy
        exact Ev.ite_neg (by simp [h3]) (Ev.val (specWorld_l (by omega) (by omega) s T h1 hl h3 ht s.length 0 (by omega)) (by simp [h1, h2, h3]))
      · exact Ev.ite_pos (by simp; omega) (Ev.val Ev.some (by simp [h3]))
    · exact Ev.ite_neg h2 (Ev.val hf (by simp [h2]))
  · exact Ev.ite_neg h1 (Ev.val hf (by simp [h1]))
/-! #### what is known of a world that is right -/
theorem wo_all {z : Nat} {s : List I_Sym} {T : List (List Int)} : ∀ d n : Nat, wo z s T d n = true → ∀ m, n ≤ m → m < n + d → rowOk z (rd_I_Sym s (m : Int)) (rd_Ls_i64 T (m : Int)) = true := by
  intro d
  induction d with
  | zero => intro n h m a b; omega
  | succ d ih =>
    intro n h m a b
    rw [wo] at h
    by_cases e : rowOk z (rd_I_Sym s (n : Int)) (rd_Ls_i64 T (n : Int)) = true
    · rw [if_pos e] at h
      by_cases e2 : m = n
      · subst e2; exact e
      · exact ih (n + 1) h m (by omega) (by omega)
    · rw [if_neg e] at h
      cases h
/-- what is known of a world that is right, function by function -/
structure Row (s : List I_Sym) (z : Int) (T : List (List Int)) (f : Int) : Prop where
  lt : f < (T.length : Int)
  ar : 0 ≤ (rd_I_Sym s f).f1 ∧ (rd_I_Sym s f).f1 ≤ 3
  ac : (rd_I_Sym s f).f2 = true → (rd_I_Sym s f).f1 = 2
  len : ((rd_Ls_i64 T f).length : Int) = pw z (rd_I_Sym s f).f1
  val : ∀ i : Int, 0 ≤ i → i < ((rd_Ls_i64 T f).length : Int) → 0 ≤ rd (rd_Ls_i64 T f) i ∧ rd (rd_Ls_i64 T f) i < z
theorem world_row {s : List I_Sym} {z : Int} {T : List (List Int)} (h : worldOk s z T = true) : (z = 1 ∨ z = 2 ∨ z = 3 ∨ z = 4) ∧ ∀ f : Int, 0 ≤ f → f < (s.length : Int) → Row s z T f := by
  unfold worldOk at h
  simp only [Bool.and_eq_true, decide_eq_true_eq] at h
  obtain ⟨h1, h2, h3, h4⟩ := h
  simp [inR] at h2
  refine ⟨by omega, fun f f0 f1 => ?_⟩
  obtain ⟨n, rfl⟩ : ∃ n : Nat, f = n := ⟨f.toNat, by omega⟩
  have g := wo_all s.length 0 h4 n (by omega) (by omega)
  have sg := sig_at h1 (n := n) (by omega)
  unfold rowOk at g
  simp only [Bool.and_eq_true, decide_eq_true_eq] at g
  obtain ⟨y, rfl⟩ : ∃ y : Nat, z = y := ⟨z.toNat, by omega⟩
  rw [Int.toNat_natCast] at g
  have w : wrap64 ((y : Int) - 1) = (y : Int) - 1 := wrap_id (by omega) (by omega)
  refine ⟨by omega, sg.1, sg.2, g.1, fun i i0 i1 => ?_⟩
  obtain ⟨m, rfl⟩ : ∃ m : Nat, i = m := ⟨i.toNat, by omega⟩
  have := bd_all _ _ _ 0 g.2.1 m (by omega) (by omega)
  rw [w] at this
  omega
/-! #### places of tables: which arguments they tell -/
def dg (n : Int) : Nat → Int → List Int
  | 0, _ => []
  | d + 1, k => Int.tmod k n :: dg n d (wrap64 (Int.tdiv k n))
/-- the place in a table of a world of z things that a place of one of n things tells -/
def sAt (z n : Int) : Nat → Int → Int → Int → Int
  | 0, a, _, _ => a
  | d + 1, a, l, s => sAt z n d (wrap64 (a + (wrap64 (s * (Int.tmod l n))))) (wrap64 (Int.tdiv l n)) (wrap64 (s * z))
def digB (n a k : Nat) : Bool := !(decide (1 ≤ n) && decide (k < n ^ a)) || decide (impl_digitsOf.f 8 (k : Int) (n : Int) (a : Int) = some (dg n a k))
def sAtB (z n a k : Nat) : Bool := !(decide (1 ≤ n) && (decide (n ≤ z) && decide (k < n ^ a))) || (decide (impl_placeOf.f 8 (dg (n : Int) a (k : Int)) (z : Int) = some (sAt z n a 0 k 1)) && (decide (0 ≤ sAt z n a 0 k 1) && decide (sAt z n a 0 k 1 < pw z (a : Int))))
theorem digB_all : ((List.range 5).all fun n => (List.range 4).all fun a => (List.range 65).all fun k => digB n a k) = true := by decide +kernel
theorem sAtB_all : ((List.range 5).all fun z => (List.range 5).all fun n => (List.range 4).all fun a => (List.range 65).all fun k => sAtB z n a k) = true := by decide +kernel
theorem digits_fin (n : Nat) (hn : n < 5) (a : Nat) (ha : a < 4) (k : Nat) (hk : k < 65) (h1 : 1 ≤ n) (h2 : k < n ^ a) : impl_digitsOf.f 8 (k : Int) (n : Int) (a : Int) = some (dg n a k) := by
  have h := List.all_eq_true.1 (List.all_eq_true.1 (List.all_eq_true.1 digB_all n (List.mem_range.2 hn)) a (List.mem_range.2 ha)) k (List.mem_range.2 hk)
  unfold digB at h
  rw [decide_eq_true h1, decide_eq_true h2] at h
  simpa using h
theorem sAt_fin (z : Nat) (hz : z < 5) (n : Nat) (hn : n < 5) (a : Nat) (ha : a < 4) (k : Nat) (hk : k < 65) (h1 : 1 ≤ n) (h2 : n ≤ z) (h3 : k < n ^ a) : impl_placeOf.f 8 (dg (n : Int) a (k : Int)) (z : Int) = some (sAt z n a 0 k 1) ∧ (0 ≤ sAt z n a 0 k 1 ∧ sAt z n a 0 k 1 < pw z (a : Int)) := by
  have h := List.all_eq_true.1 (List.all_eq_true.1 (List.all_eq_true.1 (List.all_eq_true.1 sAtB_all z (List.mem_range.2 hz)) n (List.mem_range.2 hn)) a (List.mem_range.2 ha)) k (List.mem_range.2 hk)
  unfold sAtB at h
  rw [decide_eq_true h1, decide_eq_true h2, decide_eq_true h3] at h
  simpa using h
theorem pow_le {n a : Nat} (h : n ≤ 4) (ha : a ≤ 3) : n ^ a ≤ 64 := by
  have h1 : n = 0 ∨ n = 1 ∨ n = 2 ∨ n = 3 ∨ n = 4 := by omega
  have h2 : a = 0 ∨ a = 1 ∨ a = 2 ∨ a = 3 := by omega
  rcases h1 with rfl | rfl | rfl | rfl | rfl <;> rcases h2 with rfl | rfl | rfl | rfl <;> decide
theorem pw_nat {n a : Nat} (ha : a ≤ 3) : pw (n : Nat) (a : Nat) = ((n ^ a : Nat) : Int) := by
  have h2 : a = 0 ∨ a = 1 ∨ a = 2 ∨ a = 3 := by omega
  rcases h2 with rfl | rfl | rfl | rfl <;> simp [pw, Nat.pow_succ]
theorem digits_ev {n a k : Nat} (n1 : 1 ≤ n) (n4 : n ≤ 4) (ha : a ≤ 3) (hk : k < n ^ a) : Ev (fun r => impl_digitsOf.f r (k : Int) (n : Int) (a : Int)) (dg n a k) := Ev.of (fun r => impl_digitsOf.mono (k : Int) (n : Int) (a : Int) r) (k := 8) (digits_fin n (by omega) a (by omega) k (by have := pow_le n4 ha; omega) n1 hk)
theorem dg_len (n : Int) : ∀ (d : Nat) (k : Int), (dg n d k).length = d := by
  intro d
  induction d with
  | zero => intro k; rfl
  | succ d ih => intro k; rw [dg, List.length_cons, ih]
/-! #### worlds with other names: what a list of new names does to places -/
def ix (l : List Int) (x : Int) : Nat → Nat → Int
  | 0, _ => -1
  | d + 1, i => if x = rd l (i : Int) then (i : Int) else ix l x d (i + 1)
def ixs (by_ l : List Int) : List Int := l.map fun x => ix by_ x by_.length 0
def rAt (by_ : List Int) (z : Int) : Nat → Int → Int → Int → Int
  | 0, p, _, _ => p
  | d + 1, p, l, st => rAt by_ z d (wrap64 (p + (wrap64 (st * (rd by_ (Int.tmod l z)))))) (wrap64 (Int.tdiv l z)) (wrap64 (st * z))
def tau (by_ : List Int) (z : Int) (a : Nat) (k : Int) : Int := (impl_placeOf.f 8 (ixs by_ (dg z a k)) z).getD (-1)
def permB (by_ : List Int) (z : Nat) : Bool := decide (by_.length = z) && (List.range z).all fun i => decide (0 ≤ ix by_ (i : Int) by_.length 0)
def once (by_ : List Int) (z : Int) : Nat → Nat → List Bool → Bool
  | 0, _, _ => decide ((by_.length : Int) = z)
  | d + 1, i, seen => if inR (rd by_ (i : Int)) 0 (wrap64 (z - 1)) = true then (if rdOf false seen (rd by_ (i : Int)) = true then false else once by_ z d (i + 1) (seen.set (rd by_ (i : Int)).toNat true)) else false
def lists (z : Nat) : Nat → List (List Int)
  | 0 => [[]]
  | d + 1 => (lists z d).flatMap fun l => (List.range z).map fun (x : Nat) => (x : Int) :: l
theorem mem_lists (z : Nat) : ∀ (l : List Int), (∀ x ∈ l, 0 ≤ x ∧ x < (z : Int)) → l ∈ lists z l.length := by
  intro l
  induction l with
  | nil => intro _; exact List.mem_singleton.2 rfl
  | cons x r ih =>
    intro h
    have hx := h x (List.mem_cons_self ..)
    refine List.mem_flatMap.2 ⟨r, ih (fun y hy => h y (List.mem_cons_of_mem _ hy)), List.mem_map.2 ⟨x.toNat, List.mem_range.2 (by omega), ?_⟩⟩
    rw [Int.toNat_of_nonneg hx.1]
def chk (by_ : List Int) (z a k : Nat) : Bool := decide (impl_placeOf.f 8 (ixs by_ (dg (z : Int) a (k : Int))) (z : Int) = some (tau by_ z a k)) && (decide (0 ≤ tau by_ z a k) && (decide (tau by_ z a k < ((z ^ a : Nat) : Int)) && (decide (0 ≤ rAt by_ z a 0 k 1) && (decide (rAt by_ z a 0 k 1 < ((z ^ a : Nat) : Int)) && (decide (rAt by_ z a 0 (tau by_ z a k) 1 = (k : Int)) && decide (tau by_ z a (rAt by_ z a 0 k 1) = (k : Int)))))))
theorem chk_all : ((List.range 5).all fun z => (lists z z).all fun l => !(permB l z) || ((List.range 4).all fun a => (List.range (z ^ a)).all fun k => chk l z a k)) = true := by decide +kernel
theorem once_all : ((List.range 5).all fun z => (lists z z).all fun l => decide (once l z l.length 0 (List.replicate z false) = permB l z)) = true := by decide +kernel
theorem ix_some (l : List Int) (x : Int) : ∀ d i : Nat, 0 ≤ ix l x d i → ∃ j : Nat, i ≤ j ∧ j < i + d ∧ rd l (j : Int) = x := by
  intro d
  induction d with
  | zero => intro i h; rw [ix] at h; omega
  | succ d ih =>
    intro i h
    rw [ix] at h
    by_cases e : x = rd l (i : Int)
    · exact ⟨i, by omega, by omega, e.symm⟩
    · rw [if_neg e] at h
      obtain ⟨j, h1, h2, h3⟩ := ih (i + 1) h
      exact ⟨j, by omega, by omega, h3⟩
theorem perm_len {by_ : List Int} {z : Nat} (h : permB by_ z = true) : by_.length = z := by
  unfold permB at h
  rw [Bool.and_eq_true, decide_eq_true_eq] at h
  exact h.1
theorem perm_has {by_ : List Int} {z : Nat} (h : permB by_ z = true) : ∀ i : Nat, i < z → ∃ j : Nat, j < z ∧ rd by_ (j : Int) = (i : Int) := by
  intro i hi
  have hl := perm_len h
  unfold permB at h
  rw [Bool.and_eq_true] at h
  have := of_decide_eq_true (List.all_eq_true.1 h.2 i (List.mem_range.2 hi))
  obtain ⟨j, _, h2, h3⟩ := ix_some _ _ _ _ this
  exact ⟨j, by omega, h3⟩
theorem perm_rng {by_ : List Int} {z : Nat} (z4 : z ≤ 4) (h : permB by_ z = true) : ∀ x ∈ by_, 0 ≤ x ∧ x < (z : Int) := by
  have hl := perm_len h
  have hh := perm_has h
  have c1 : ∀ i : Nat, i < z → (0 < z ∧ rd by_ 0 = (i : Int)) ∨ (1 < z ∧ rd by_ 1 = (i : Int)) ∨ (2 < z ∧ rd by_ 2 = (i : Int)) ∨ (3 < z ∧ rd by_ 3 = (i : Int)) := by
    intro i hi
    obtain ⟨j, h1, h2⟩ := hh i hi
    have hj : j = 0 ∨ j = 1 ∨ j = 2 ∨ j = 3 := by omega
    rcases hj with rfl | rfl | rfl | rfl
    · exact Or.inl ⟨h1, h2⟩
    · exact Or.inr (Or.inl ⟨h1, h2⟩)
    · exact Or.inr (Or.inr (Or.inl ⟨h1, h2⟩))
    · exact Or.inr (Or.inr (Or.inr ⟨h1, h2⟩))
  intro x hx
  obtain ⟨j, hj, rfl⟩ := List.mem_iff_getElem.1 hx
  have e : by_[j] = rd by_ (j : Int) := by
    show _ = by_.getD (Int.toNat (j : Int)) 0
    rw [Int.toNat_natCast, List.getD_eq_getElem?_getD, List.getElem?_eq_getElem hj]
    rfl
  rw [e]
  obtain ⟨x0, e0⟩ : ∃ x0, rd by_ 0 = x0 := ⟨_, rfl⟩
  obtain ⟨x1, e1⟩ : ∃ x1, rd by_ 1 = x1 := ⟨_, rfl⟩
  obtain ⟨x2, e2⟩ : ∃ x2, rd by_ 2 = x2 := ⟨_, rfl⟩
  obtain ⟨x3, e3⟩ : ∃ x3, rd by_ 3 = x3 := ⟨_, rfl⟩
  rw [e0, e1, e2, e3] at c1
  have hjj : (j = 0 ∧ rd by_ (j : Int) = x0) ∨ (j = 1 ∧ rd by_ (j : Int) = x1) ∨ (j = 2 ∧ rd by_ (j : Int) = x2) ∨ (j = 3 ∧ rd by_ (j : Int) = x3) := by
    have hj4 : j = 0 ∨ j = 1 ∨ j = 2 ∨ j = 3 := by omega
    rcases hj4 with rfl | rfl | rfl | rfl
    · exact Or.inl ⟨rfl, e0⟩
    · exact Or.inr (Or.inl ⟨rfl, e1⟩)
    · exact Or.inr (Or.inr (Or.inl ⟨rfl, e2⟩))
    · exact Or.inr (Or.inr (Or.inr ⟨rfl, e3⟩))
  generalize rd by_ (j : Int) = y at hjj
  clear hh h e e0 e1 e2 e3
  have hz : z = 0 ∨ z = 1 ∨ z = 2 ∨ z = 3 ∨ z = 4 := by omega
  rcases hz with rfl | rfl | rfl | rfl | rfl
  · omega
  · have d0 := c1 0 (by omega)
    omega
  · have d0 := c1 0 (by omega)
    have d1 := c1 1 (by omega)
    omega
  · have d0 := c1 0 (by omega)
    have d1 := c1 1 (by omega)
    have d2 := c1 2 (by omega)
    clear c1
    rcases hjj with ⟨_, rfl⟩ | ⟨_, rfl⟩ | ⟨_, rfl⟩ | ⟨_, rfl⟩ <;> omega
  · have d0 := c1 0 (by omega)
    have d1 := c1 1 (by omega)
    have d2 := c1 2 (by omega)
    have d3 := c1 3 (by omega)
    clear c1
    have f0 : x0 = 0 ∨ x1 = 0 ∨ x2 = 0 ∨ x3 = 0 := by omega
    have f1 : x0 = 1 ∨ x1 = 1 ∨ x2 = 1 ∨ x3 = 1 := by omega
    have f2 : x0 = 2 ∨ x1 = 2 ∨ x2 = 2 ∨ x3 = 2 := by omega
    have f3 : x0 = 3 ∨ x1 = 3 ∨ x2 = 3 ∨ x3 = 3 := by omega
    clear d0 d1 d2 d3
    rcases hjj with ⟨_, rfl⟩ | ⟨_, rfl⟩ | ⟨_, rfl⟩ | ⟨_, rfl⟩ <;> rcases f0 with f0 | f0 | f0 | f0 <;> rcases f1 with f1 | f1 | f1 | f1 <;> omega
theorem once_len {by_ : List Int} {z : Int} : ∀ (d i : Nat) (seen : List Bool), once by_ z d i seen = true → (by_.length : Int) = z := by
  intro d
  induction d with
  | zero => intro i seen h; rw [once] at h; exact of_decide_eq_true h
  | succ d ih =>
    intro i seen h
    rw [once] at h
    by_cases h1 : inR (rd by_ (i : Int)) 0 (wrap64 (z - 1)) = true
    · rw [if_pos h1] at h
      by_cases h2 : rdOf false seen (rd by_ (i : Int)) = true
      · rw [if_pos h2] at h; cases h
      · rw [if_neg h2] at h; exact ih _ _ h
    · rw [if_neg h1] at h; cases h
theorem once_rng {by_ : List Int} {z : Int} : ∀ (d i : Nat) (seen : List Bool), once by_ z d i seen = true → ∀ j : Nat, i ≤ j → j < i + d → 0 ≤ rd by_ (j : Int) ∧ rd by_ (j : Int) ≤ wrap64 (z - 1) := by
  intro d
  induction d with
  | zero => intro i seen h j a b; omega
  | succ d ih =>
    intro i seen h j a b
    rw [once] at h
    by_cases h1 : inR (rd by_ (i : Int)) 0 (wrap64 (z - 1)) = true
    · rw [if_pos h1] at h
      by_cases h2 : rdOf false seen (rd by_ (i : Int)) = true
      · rw [if_pos h2] at h; cases h
      · rw [if_neg h2] at h
        by_cases e : j = i
        · subst e; simpa [inR] using h1
        · exact ih _ _ h j (by omega) (by omega)
    · rw [if_neg h1] at h; cases h
theorem once_perm (by_ : List Int) {z : Nat} (z4 : z ≤ 4) : once by_ z by_.length 0 (List.replicate z false) = permB by_ z := by
  have key : by_.length = z → (∀ x ∈ by_, 0 ≤ x ∧ x < (z : Int)) → once by_ z by_.length 0 (List.replicate z false) = permB by_ z := by
    intro hl hx
    have hm := mem_lists z by_ hx
    rw [hl] at hm
    exact of_decide_eq_true (List.all_eq_true.1 (List.all_eq_true.1 once_all z (List.mem_range.2 (by omega))) by_ hm)
  by_cases h : permB by_ z = true
  · exact key (perm_len h) (perm_rng z4 h)
  · by_cases h2 : once by_ z by_.length 0 (List.replicate z false) = true
    · have hl : by_.length = z := by have := once_len _ _ _ h2; omega
      refine key hl fun x hx => ?_
      obtain ⟨j, hj, rfl⟩ := List.mem_iff_getElem.1 hx
      have e : by_[j] = rd by_ (j : Int) := by
        show _ = by_.getD (Int.toNat (j : Int)) 0
        rw [Int.toNat_natCast, List.getD_eq_getElem?_getD, List.getElem?_eq_getElem hj]
        rfl
      rw [e]
      have := once_rng _ _ _ h2 j (by omega) (by omega)
      rw [wrap_id (by omega) (by omega)] at this
      omega
    · rw [Bool.not_eq_true] at h h2
      rw [h, h2]
theorem chk_fin {by_ : List Int} {z a k : Nat} (z4 : z ≤ 4) (h : permB by_ z = true) (ha : a ≤ 3) (hk : k < z ^ a) : impl_placeOf.f 8 (ixs by_ (dg (z : Int) a (k : Int))) (z : Int) = some (tau by_ z a k) ∧ 0 ≤ tau by_ z a k ∧ tau by_ z a k < ((z ^ a : Nat) : Int) ∧ 0 ≤ rAt by_ z a 0 k 1 ∧ rAt by_ z a 0 k 1 < ((z ^ a : Nat) : Int) ∧ rAt by_ z a 0 (tau by_ z a k) 1 = (k : Int) ∧ tau by_ z a (rAt by_ z a 0 k 1) = (k : Int) := by
  have hm := mem_lists z by_ (perm_rng z4 h)
  rw [perm_len h] at hm
  have c := List.all_eq_true.1 (List.all_eq_true.1 chk_all z (List.mem_range.2 (by omega))) by_ hm
  rw [h, Bool.not_true, Bool.false_or] at c
  have c := List.all_eq_true.1 (List.all_eq_true.1 c a (List.mem_range.2 (by omega))) k (List.mem_range.2 hk)
  unfold chk at c
  simpa only [Bool.and_eq_true, decide_eq_true_eq] using c
/-! #### the two searches: each name once -/
theorem index_ev (l : List Int) (hl : l.length ≤ maxLen) (x : Int) : Ev (fun q => slices_Index_int_int.f q l x) (ix l x l.length 0) := by
  have hm : maxLen = 9223372036854775807 := rfl
  have key : ∀ d i : Nat, i + d = l.length → Ev (fun q => slices_Index_int_int.l0 q l x (l.length : Int) (i : Int)) (ix l x d i) := by
    intro d
    induction d with
    | zero => intro i hi; exact Ev.step (fun q => by simp only [slices_Index_int_int.l0]; rfl) (Ev.ite_neg (by omega) Ev.some)
    | succ d ih =>
      intro i hi
      refine Ev.step (fun q => by simp only [slices_Index_int_int.l0]; rfl) (Ev.ite_pos (by omega) (Ev.ite_pos (by omega) (Ev.ite_pos (by omega) ?_)))
      rw [ix]
      by_cases e : x = rd l (i : Int)
      · rw [if_pos e]
        exact Ev.ite_pos e Ev.some
      · rw [if_neg e, wrap_nat (by omega)]
        exact Ev.ite_neg e (ih (i + 1) (by omega))
  exact key l.length 0 (by omega)
theorem each1R_ev (l : List Int) (hl : l.length ≤ 100) (by_ : List Int) (hb : by_.length ≤ maxLen) : Ev (fun q => impl_each1_with_impl_Renamed_1_1.f q l by_) (ixs by_ l) := by
  have hm : maxLen = 9223372036854775807 := rfl
  have key : ∀ d i : Nat, i + d = l.length → ∀ acc : List Int, acc.length = i → Ev (fun q => impl_each1_with_impl_Renamed_1_1.l0 q acc l (l.length : Int) (i : Int) by_) (acc ++ ixs by_ (l.drop i)) := by
    intro d
    induction d with
    | zero =>
      intro i hi acc hac
      refine Ev.step (fun q => by simp only [impl_each1_with_impl_Renamed_1_1.l0]; rfl) (Ev.ite_neg (by omega) (Ev.val Ev.some ?_))
      rw [List.drop_of_length_le (by omega)]
      simp [ixs]
    | succ d ih =>
      intro i hi acc hac
      have hx : Ev (fun q => impl_Renamed_1_1.f q (rd l (i : Int)) by_) (ix by_ (rd l (i : Int)) by_.length 0) := by
        unfold impl_Renamed_1_1.f
        exact Ev.bind (index_ev by_ hb _) Ev.some
      refine Ev.step (fun q => by simp only [impl_each1_with_impl_Renamed_1_1.l0]; rfl) (Ev.ite_pos (by omega) (Ev.ite_pos (by omega) (Ev.ite_pos (by omega) (Ev.bind hx ?_))))
      refine Ev.ite_pos (by omega) ?_
      rw [wrap_nat (by omega)]
      refine Ev.val (ih (i + 1) (by omega) _ (by rw [List.length_append, List.length_singleton]; omega)) ?_
      rw [List.append_assoc, List.singleton_append, getD_drop l 0 i (by omega)]
      rfl
  exact key l.length 0 (by omega) [] rfl
theorem specOnce_ev (by_ : List Int) (hb : by_.length ≤ maxLen) {z : Nat} (z1 : 1 ≤ z) (z4 : z ≤ 4) : Ev (fun q => spec_l25Once.f q by_ (z : Int)) (permB by_ z) := by
  have hm : maxLen = 9223372036854775807 := rfl
  have key : ∀ d i : Nat, i + d = by_.length → ∀ seen : List Bool, seen.length = z → Ev (fun q => spec_l25Once.l0 q by_ (z : Int) seen (i : Int)) (once by_ z d i seen) := by
    intro d
    induction d with
    | zero =>
      intro i hi seen hs
      refine Ev.step (fun q => by simp only [spec_l25Once.l0]; rfl) (Ev.ite_neg (by omega) (Ev.val Ev.some ?_))
      rw [once]
      rfl
    | succ d ih =>
      intro i hi seen hs
      refine Ev.step (fun q => by simp only [spec_l25Once.l0]; rfl) (Ev.ite_pos (by omega) (Ev.ite_pos (by omega) (Ev.bind (Ev.cst (specInR _ _ _)) ?_)))
      rw [once]
      by_cases h1 : inR (rd by_ (i : Int)) 0 (wrap64 ((z : Int) - 1)) = true
      · rw [if_pos h1]
        have h1' := h1
        rw [wrap_id (by omega) (by omega)] at h1'
        have h1' : 0 ≤ rd by_ (i : Int) ∧ rd by_ (i : Int) ≤ (z : Int) - 1 := by simpa [inR] using h1'
        refine Ev.ite_pos h1 (Ev.ite_pos h1'.1 (Ev.ite_pos (by omega) ?_))
        by_cases h2 : rdOf false seen (rd by_ (i : Int)) = true
        · rw [if_pos h2]
          exact Ev.ite_pos h2 Ev.some
        · rw [if_neg h2, wrap_nat (by omega)]
          exact Ev.ite_neg h2 (ih (i + 1) (by omega) _ (by rw [List.length_set]; exact hs))
      · rw [if_neg h1]
        exact Ev.ite_neg h1 Ev.some
  unfold spec_l25Once.f
  refine Ev.ite_pos (by omega) (Ev.ite_pos (by omega) ?_)
  rw [Int.toNat_natCast, ← once_perm by_ z4]
  exact key by_.length 0 (by omega) _ (List.length_replicate)
def rnR (by_ : List Int) (z : Nat) (t : List Int) (a : Nat) : Nat → Nat → List Int
  | 0, _ => []
  | d + 1, k => rd by_ (rd t (tau by_ z a k)) :: rnR by_ z t a d (k + 1)
theorem rnR_len (by_ : List Int) (z : Nat) (t : List Int) (a : Nat) : ∀ d k : Nat, (rnR by_ z t a d k).length = d := by
  intro d
  induction d with
  | zero => intro k; rfl
  | succ d ih => intro k; rw [rnR, List.length_cons, ih]
theorem rnR_rd (by_ : List Int) (z : Nat) (t : List Int) (a : Nat) : ∀ d k i : Nat, i < d → rd (rnR by_ z t a d k) (i : Int) = rd by_ (rd t (tau by_ z a ((k + i : Nat) : Int))) := by
  intro d
  induction d with
  | zero => intro k i h; omega
  | succ d ih =>
    intro k i h
    cases i with
    | zero => rfl
    | succ i =>
      have e : rd (rnR by_ z t a (d + 1) k) ((i + 1 : Nat) : Int) = rd (rnR by_ z t a d (k + 1)) (i : Int) := rfl
      rw [e, ih (k + 1) i (by omega)]
      have : k + 1 + i = k + (i + 1) := by omega
      rw [this]
def rnT (s : List I_Sym) (by_ : List Int) (z : Nat) (T : List (List Int)) : Nat → Nat → List (List Int)
  | 0, _ => []
  | d + 1, f => rnR by_ z (rd_Ls_i64 T (f : Int)) (rd_I_Sym s (f : Int)).f1.toNat (z ^ (rd_I_Sym s (f : Int)).f1.toNat) 0 :: rnT s by_ z T d (f + 1)
theorem rnT_rows (s : List I_Sym) (by_ : List Int) (z : Nat) (T : List (List Int)) (z4 : z ≤ 4) (hs : ∀ f : Nat, f < s.length → (rd_I_Sym s (f : Int)).f1 ≤ 3) : ∀ d f : Nat, f + d ≤ s.length → (rnT s by_ z T d f).length = d ∧ ∀ x ∈ rnT s by_ z T d f, x.length ≤ 64 := by
  intro d
  induction d with
  | zero => intro f h; exact ⟨rfl, fun x hx => by simp [rnT] at hx⟩
  | succ d ih =>
    intro f h
    have i := ih (f + 1) (by omega)
    rw [rnT]
    refine ⟨by rw [List.length_cons, i.1], fun x hx => ?_⟩
    rcases List.mem_cons.1 hx with rfl | hx
    · rw [rnR_len]
      have := hs f (by omega)
      exact pow_le z4 (by omega)
    · exact i.2 x hx
theorem implRn_1 {s : List I_Sym} {z a k : Nat} {by_ : List Int} (hp : permB by_ z = true) (z1 : 1 ≤ z) (z4 : z ≤ 4) {T : List (List Int)} {f : Nat} (hR : Row s z T f) (ha : (rd_I_Sym s (f : Int)).f1 = a) (hk : k < z ^ a) : Ev (fun q => impl_Renamed_1.f q (f : Int) (dg (z : Int) a k) by_ z T) (rd by_ (rd (rd_Ls_i64 T (f : Int)) (tau by_ z a k))) := by
  have hm : maxLen = 9223372036854775807 := rfl
  have hA : a ≤ 3 := by have := hR.ar; omega
  have c := chk_fin z4 hp hA hk
  have hlen := hR.len
  rw [ha, pw_nat hA] at hlen
  have hl := perm_len hp
  have e1 : Ev (fun q => impl_placeOf.f q (ixs by_ (dg (z : Int) a (k : Int))) (z : Int)) (tau by_ z a k) := Ev.of (fun q => impl_placeOf.mono (ixs by_ (dg (z : Int) a (k : Int))) (z : Int) q) (k := 8) c.1
  have hv := hR.val (tau by_ z a k) c.2.1 (by omega)
  unfold impl_Renamed_1.f
  exact Ev.bind (each1R_ev _ (by rw [dg_len]; omega) by_ (by omega)) (Ev.ite_pos (by omega) (Ev.ite_pos hR.lt (Ev.bind e1 (Ev.ite_pos c.2.1 (Ev.ite_pos (by omega) (Ev.ite_pos hv.1 (Ev.ite_pos (by omega) Ev.some)))))))
theorem implRn1 (s : List I_Sym) (hs : s.length ≤ 1048577) {z : Nat} {by_ : List Int} (hp : permB by_ z = true) (z1 : 1 ≤ z) (z4 : z ≤ 4) {T : List (List Int)} (f : Nat) (hf : f < s.length) (hR : Row s z T f) (R : List (List Int)) (hRl : R.length ≤ 1048577) (a : Nat) (ha : (rd_I_Sym s (f : Int)).f1 = a) (b0 : ByteArray) (b2 : Bool) (r : Int × List (List Int)) (row : List Int) (hr : Ev (fun q => impl_tabled_with_impl_Renamed_1.l0 q z s (s.length : Int) ((f + 1 : Nat) : Int) by_ z T z (R ++ [row])) r) : ∀ d k : Nat, k + d = z ^ a → ∀ acc : List Int, acc.length = k → acc ++ rnR by_ z (rd_Ls_i64 T f) a d k = row → Ev (fun q => impl_tabled_with_impl_Renamed_1.l1 q z f acc s (s.length : Int) f ((z ^ a : Nat) : Int) (k : Int) by_ z T z R b0 (a : Int) b2) r := by
  have hm : maxLen = 9223372036854775807 := rfl
  have hA : a ≤ 3 := by have := hR.ar; omega
  have hpw := pow_le (n := z) (by omega) hA
  intro d
  induction d with
  | zero =>
    intro k hk acc hl hrow
    refine Ev.step (fun q => by simp only [impl_tabled_with_impl_Renamed_1.l1]; rfl) (Ev.ite_neg (by omega) (Ev.ite_pos (by omega) ?_))
    rw [rnR, List.append_nil] at hrow
    rw [wrap_nat (by omega), hrow]
    exact hr
  | succ d ih =>
    intro k hk acc hl hrow
    refine Ev.step (fun q => by simp only [impl_tabled_with_impl_Renamed_1.l1]; rfl) (Ev.ite_pos (by omega) (Ev.bind (digits_ev (n := z) (a := a) (k := k) z1 z4 hA (by omega)) (Ev.bind (implRn_1 (k := k) hp z1 z4 hR ha (by omega)) ?_)))
    refine Ev.ite_pos (by omega) ?_
    rw [wrap_nat (by omega)]
    exact ih (k + 1) (by omega) _ (by rw [List.length_append, List.length_singleton]; omega) (by rw [List.append_assoc, List.singleton_append]; rw [rnR] at hrow; exact hrow)
theorem implRn0 (s : List I_Sym) (hs : s.length ≤ 1048577) {z : Nat} {by_ : List Int} (hp : permB by_ z = true) (z1 : 1 ≤ z) (z4 : z ≤ 4) {T : List (List Int)} (hR : ∀ f : Nat, f < s.length → Row s z T f) : ∀ d f : Nat, f + d = s.length → ∀ R : List (List Int), R.length = f → Ev (fun q => impl_tabled_with_impl_Renamed_1.l0 q z s (s.length : Int) (f : Int) by_ z T z R) ((z : Int), R ++ rnT s by_ z T d f) := by
  intro d
  induction d with
  | zero =>
    intro f hf R hl
    refine Ev.step (fun q => by simp only [impl_tabled_with_impl_Renamed_1.l0]; rfl) (Ev.ite_neg (by omega) (Ev.val Ev.some ?_))
    rw [rnT, List.append_nil]
  | succ d ih =>
    intro f hf R hl
    have hr := hR f (by omega)
    obtain ⟨a, ha⟩ : ∃ a : Nat, (rd_I_Sym s (f : Int)).f1 = a := ⟨(rd_I_Sym s (f : Int)).f1.toNat, by have := hr.ar; omega⟩
    refine Ev.step (fun q => by simp only [impl_tabled_with_impl_Renamed_1.l0]; rfl) (Ev.ite_pos (by omega) (Ev.ite_pos (by omega) (Ev.ite_pos (by omega) (Ev.bind (places_ev z1 z4 _ hr.ar.1 hr.ar.2) ?_))))
    rw [rnT, ha, Int.toNat_natCast, pw_nat (by have := hr.ar; omega)]
    have h := implRn1 s hs hp z1 z4 f (by omega) hr R (by omega) a ha (rd_I_Sym s (f : Int)).f0 (rd_I_Sym s (f : Int)).f2 _ (rnR by_ z (rd_Ls_i64 T f) a (z ^ a) 0) (ih (f + 1) (by omega) (R ++ [rnR by_ z (rd_Ls_i64 T f) a (z ^ a) 0]) (by rw [List.length_append, List.length_singleton]; omega)) (z ^ a) 0 (by omega) [] rfl rfl
    refine Ev.val h ?_
    rw [List.append_assoc, List.singleton_append]
/-- the reference's row: each entry is put where it belongs -/
theorem specRn2 (s : List I_Sym) {z : Nat} (z1 : 1 ≤ z) (by_ : List Int) (hb : by_.length = z) (T : List (List Int)) (f : Nat) (hf : f < s.length) (acc : List Int) (k : Int) (R : List (List Int)) (r : Int × List (List Int) × Bool) (a : Nat) (ha : (rd_I_Sym s (f : Int)).f1 = a) (hA : a ≤ 3) : ∀ d i : Nat, i + d = a → ∀ p l st : Int, 0 ≤ l → l ≤ 64 → Ev (fun q => if (f : Int) < (T.length : Int) then (if 0 ≤ k then (if k < ((rd_Ls_i64 T (f : Int)).length : Int) then (if 0 ≤ rd (rd_Ls_i64 T (f : Int)) k then (if rd (rd_Ls_i64 T (f : Int)) k < (by_.length : Int) then (if 0 ≤ rAt by_ z d p l st then (if rAt by_ z d p l st < (acc.length : Int) then (spec_Renamed.l1 q s by_ f (acc.set (rAt by_ z d p l st).toNat (rd by_ (rd (rd_Ls_i64 T (f : Int)) k))) (wrap64 (k + 1)) z T z R) else (none)) else (none)) else (none)) else (none)) else (none)) else (none)) else (none)) r → Ev (fun q => spec_Renamed.l2 q s by_ f acc k p l st (i : Int) z T z R) r := by
  have hm : maxLen = 9223372036854775807 := rfl
  intro d
  induction d with
  | zero =>
    intro i hi p l st h0 h1 h
    exact Ev.step (fun q => by simp only [spec_Renamed.l2]; rfl) (Ev.ite_pos (by omega) (Ev.ite_pos (by omega) (Ev.ite_neg (by omega) h)))
  | succ d ih =>
    intro i hi p l st h0 h1 h
    have m0 : 0 ≤ Int.tmod l z := Int.tmod_nonneg _ h0
    have m1 : Int.tmod l z < z := Int.tmod_lt_of_pos _ (by omega)
    have d0 : 0 ≤ Int.tdiv l z := Int.tdiv_nonneg h0 (by omega)
    have d1 : Int.tdiv l z ≤ l := Int.tdiv_le_self _ h0
    refine Ev.step (fun q => by simp only [spec_Renamed.l2]; rfl) (Ev.ite_pos (by omega) (Ev.ite_pos (by omega) (Ev.ite_pos (by omega) (Ev.ite_neg (by omega) (Ev.ite_pos m0 (Ev.ite_pos (by omega) ?_))))))
    rw [wrap_nat (by omega)]
    refine ih (i + 1) (by omega) _ _ _ ?_ ?_ h
    · rw [wrap_id (by omega) (by omega)]; exact d0
    · rw [wrap_id (by omega) (by omega)]; omega
theorem rd_set (l : List Int) (i j : Nat) (v : Int) (hi : i < l.length) : rd (l.set i v) (j : Int) = if i = j then v else rd l (j : Int) := by
  show (l.set i v).getD (Int.toNat (j : Int)) 0 = if i = j then v else l.getD (Int.toNat (j : Int)) 0
  rw [Int.toNat_natCast, List.getD_eq_getElem?_getD, List.getD_eq_getElem?_getD, List.getElem?_set]
  by_cases h : i = j
  · subst h
    rw [if_pos rfl, if_pos rfl, if_pos hi]
    rfl
  · rw [if_neg h, if_neg h]
theorem rd_ext (a b : List Int) (hl : a.length = b.length) (h : ∀ j : Nat, j < a.length → rd a (j : Int) = rd b (j : Int)) : a = b := by
  refine List.ext_getElem hl fun j h1 h2 => ?_
  have := h j h1
  have e : ∀ (l : List Int) (hj : j < l.length), rd l (j : Int) = l[j] := by
    intro l hj
    show l.getD (Int.toNat (j : Int)) 0 = _
    rw [Int.toNat_natCast, List.getD_eq_getElem?_getD, List.getElem?_eq_getElem hj]
    rfl
  rw [e a h1, e b h2] at this
  exact this
theorem specRn1 (s : List I_Sym) (hs : s.length ≤ 1048577) {z : Nat} {by_ : List Int} (hp : permB by_ z = true) (z1 : 1 ≤ z) (z4 : z ≤ 4) {T : List (List Int)} (f : Nat) (hf : f < s.length) (hR : Row s z T f) (R : List (List Int)) (hRl : R.length ≤ 1048577) (a : Nat) (ha : (rd_I_Sym s (f : Int)).f1 = a) (r : Int × List (List Int) × Bool) (hr : Ev (fun q => spec_Renamed.l0 q s by_ ((f + 1 : Nat) : Int) z T z (R ++ [rnR by_ z (rd_Ls_i64 T f) a (z ^ a) 0])) r) : ∀ d k : Nat, k + d = z ^ a → ∀ acc : List Int, acc.length = z ^ a → (∀ q : Nat, q < k → rd acc (rAt by_ z a 0 q 1) = rd by_ (rd (rd_Ls_i64 T (f : Int)) (q : Int))) → Ev (fun q => spec_Renamed.l1 q s by_ f acc (k : Int) z T z R) r := by
  have hm : maxLen = 9223372036854775807 := rfl
  have hA : a ≤ 3 := by have := hR.ar; omega
  have hpw := pow_le (n := z) (by omega) hA
  have hlen := hR.len
  rw [ha, pw_nat hA] at hlen
  have hb := perm_len hp
  intro d
  induction d with
  | zero =>
    intro k hk acc hl hinv
    refine Ev.step (fun q => by simp only [spec_Renamed.l1]; rfl) (Ev.ite_neg (by omega) (Ev.ite_pos (by omega) ?_))
    have e : acc = rnR by_ z (rd_Ls_i64 T f) a (z ^ a) 0 := by
      refine rd_ext _ _ (by rw [rnR_len]; exact hl) fun j hj => ?_
      have c := chk_fin (k := j) z4 hp hA (by omega)
      obtain ⟨q, hq⟩ : ∃ q : Nat, tau by_ z a j = q := ⟨(tau by_ z a j).toNat, by omega⟩
      have i := hinv q (by omega)
      rw [hq] at c
      rw [c.2.2.2.2.2.1] at i
      rw [i, rnR_rd _ _ _ _ _ _ _ (by omega), Nat.zero_add, hq]
    rw [wrap_nat (by omega), e]
    exact hr
  | succ d ih =>
    intro k hk acc hl hinv
    have c := chk_fin (k := k) z4 hp hA (by omega)
    have hv := hR.val (k : Int) (by omega) (by omega)
    refine Ev.step (fun q => by simp only [spec_Renamed.l1]; rfl) (Ev.ite_pos (by omega) ?_)
    refine specRn2 s z1 by_ hb T f hf acc k R _ a ha hA a 0 (by omega) 0 k 1 (by omega) (by omega) ?_
    refine Ev.ite_pos hR.lt (Ev.ite_pos (by omega) (Ev.ite_pos (by omega) (Ev.ite_pos hv.1 (Ev.ite_pos (by omega) (Ev.ite_pos c.2.2.2.1 (Ev.ite_pos (by omega) ?_))))))
    rw [wrap_nat (by omega)]
    refine ih (k + 1) (by omega) _ (by rw [List.length_set]; exact hl) fun q hq => ?_
    have cq := chk_fin (k := q) z4 hp hA (by omega)
    obtain ⟨u, hu⟩ : ∃ u : Nat, rAt by_ z a 0 k 1 = u := ⟨(rAt by_ z a 0 k 1).toNat, by omega⟩
    obtain ⟨w, hw⟩ : ∃ w : Nat, rAt by_ z a 0 q 1 = w := ⟨(rAt by_ z a 0 q 1).toNat, by omega⟩
    rw [hu, hw, Int.toNat_natCast, rd_set _ _ _ _ (by omega)]
    by_cases e : q = k
    · subst e
      rw [if_pos (by omega)]
    · rw [if_neg (fun h => e ?_)]
      · have := hinv q (by omega)
        rw [hw] at this
        exact this
      · subst h
        have h1 := c.2.2.2.2.2.2
        have h2 := cq.2.2.2.2.2.2
        rw [hu] at h1
        rw [hw] at h2
        omega
theorem specRn0 (s : List I_Sym) (hs : s.length ≤ 1048577) {z : Nat} {by_ : List Int} (hp : permB by_ z = true) (z1 : 1 ≤ z) (z4 : z ≤ 4) {T : List (List Int)} (hR : ∀ f : Nat, f < s.length → Row s z T f) : ∀ d f : Nat, f + d = s.length → ∀ R : List (List Int), R.length = f → Ev (fun q => spec_Renamed.l0 q s by_ (f : Int) z T z R) ((z : Int), R ++ rnT s by_ z T d f, true) := by
  intro d
  induction d with
  | zero =>
    intro f hf R hl
    refine Ev.step (fun q => by simp only [spec_Renamed.l0]; rfl) (Ev.ite_neg (by omega) (Ev.val Ev.some ?_))
    rw [rnT, List.append_nil]
  | succ d ih =>
    intro f hf R hl
    have hr := hR f (by omega)
    obtain ⟨a, ha⟩ : ∃ a : Nat, (rd_I_Sym s (f : Int)).f1 = a := ⟨(rd_I_Sym s (f : Int)).f1.toNat, by have := hr.ar; omega⟩
    have hA : a ≤ 3 := by have := hr.ar; omega
    have hpw := pow_le (n := z) (by omega) hA
    have hlen := hr.len
    rw [ha, pw_nat hA] at hlen
    have hlt := hr.lt
    refine Ev.step (fun q => by simp only [spec_Renamed.l0]; rfl) (Ev.ite_pos (by omega) (Ev.ite_pos (by omega) (Ev.ite_pos hlt (Ev.ite_pos (by omega) (Ev.ite_pos (by omega) ?_)))))
    have hlen' : (rd_Ls_i64 T (f : Int)).length = z ^ a := by omega
    rw [rnT, ha]
    simp only [Int.toNat_natCast, hlen']
    have h := specRn1 s hs hp z1 z4 f (by omega) hr R (by omega) a ha _ (ih (f + 1) (by omega) (R ++ [rnR by_ z (rd_Ls_i64 T f) a (z ^ a) 0]) (by rw [List.length_append, List.length_singleton]; omega)) (z ^ a) 0 (by omega) (List.replicate (z ^ a) 0) (List.length_replicate) (fun q hq => by omega)
    refine Ev.val h ?_
    rw [List.append_assoc, List.singleton_append]
def rnV (s : List I_Sym) (z : Int) (T : List (List Int)) (by_ : List Int) : Int × List (List Int) × Bool := if worldOk s z T = true ∧ permB by_ z.toNat = true then (z, rnT s by_ z.toNat T s.length 0, true) else (0, [], false)
theorem specRenamed_ev (s : List I_Sym) (z : Int) (T : List (List Int)) (by_ : List Int) (hl : s.length ≤ 1048577) (hn : ∀ x ∈ s, x.f0.size ≤ maxLen) (ht : ∀ x ∈ T, x.length ≤ maxLen) (hb : by_.length ≤ maxLen) : Ev (fun k => spec_Renamed.f k s z T by_) (rnV s z T by_) := by
  have hm : maxLen = 9223372036854775807 := rfl
  have hf : Ev (fun k => spec_Renamed.j0 k s by_ true z T) (0, [], false) := Ev.step (fun k => by simp only [spec_Renamed.j0]; rfl) (Ev.ite_pos (show true = true from rfl) Ev.some)
  unfold spec_Renamed.f rnV
  refine Ev.bind (specWorldOk_ev s z T (by omega) hn ht) ?_
  by_cases h1 : worldOk s z T = true
  · obtain ⟨hz, hR⟩ := world_row h1
    obtain ⟨y, rfl⟩ : ∃ y : Nat, z = y := ⟨z.toNat, by omega⟩
    refine Ev.ite_pos h1 (Ev.bind (specOnce_ev by_ hb (by omega) (by omega)) ?_)
    rw [Int.toNat_natCast]
    by_cases h2 : permB by_ y = true
    · rw [h2]
      refine Ev.step (fun k => by simp only [spec_Renamed.j0]; rfl) (Ev.ite_neg (by simp) ?_)
      refine Ev.val (specRn0 s hl h2 (by omega) (by omega) (fun f hf => hR f (by omega) (by omega)) s.length 0 (by omega) [] rfl) ?_
      rw [if_pos ⟨h1, rfl⟩, List.nil_append]
    · rw [Bool.not_eq_true] at h2
      rw [h2]
      exact Ev.val hf (by simp)
  · exact Ev.ite_neg h1 (Ev.val hf (by rw [if_neg (fun h => h1 h.1)]))
theorem implRenamed_ev (s : List I_Sym) (z : Int) (T : List (List Int)) (by_ : List Int) (hl : s.length ≤ 1048577) (hn : ∀ x ∈ s, x.f0.size ≤ maxLen) (ht : ∀ x ∈ T, x.length ≤ maxLen) (hb : by_.length ≤ maxLen) : Ev (fun k => impl_Renamed.f k s z T by_) (rnV s z T by_) := by
  have hm : maxLen = 9223372036854775807 := rfl
  have hf : Ev (fun k => impl_Renamed.j0 k s true z T by_) (0, [], false) := Ev.step (fun k => by simp only [impl_Renamed.j0]; rfl) (Ev.ite_pos (show true = true from rfl) Ev.some)
  unfold impl_Renamed.f rnV
  refine Ev.bind (implWorldOk_ev s z T (by omega) hn ht) ?_
  by_cases h1 : worldOk s z T = true
  · obtain ⟨hz, hR⟩ := world_row h1
    obtain ⟨y, rfl⟩ : ∃ y : Nat, z = y := ⟨z.toNat, by omega⟩
    refine Ev.ite_pos h1 ?_
    rw [Int.toNat_natCast]
    by_cases h2 : by_.length = y
    · have hne : ((by_.length : Int) != (y : Int)) = false := by simp [h2]
      rw [hne]
      refine Ev.step (fun k => by simp only [impl_Renamed.j0]; rfl) (Ev.ite_neg (by simp) ?_)
      have key : ∀ d i : Nat, i + d = y → ((List.range y).all (fun i => decide (0 ≤ ix by_ (i : Int) by_.length 0)) = true ↔ ∀ j : Nat, i ≤ j → j < y → 0 ≤ ix by_ (j : Int) by_.length 0) → Ev (fun k => impl_Renamed.l0 k s (y : Int) (i : Int) y T by_) (if permB by_ y = true then ((y : Int), rnT s by_ y T s.length 0, true) else (0, [], false)) := by
        intro d
        induction d with
        | zero =>
          intro i hi hq
          have hp : permB by_ y = true := by
            unfold permB
            rw [decide_eq_true h2, Bool.true_and]
            exact hq.2 (fun j a b => by omega)
          refine Ev.step (fun k => by simp only [impl_Renamed.l0]; rfl) (Ev.ite_neg (by omega) ?_)
          refine Ev.bind (implRn0 s hl hp (by omega) (by omega) (fun f hf => hR f (by omega) (by omega)) s.length 0 (by omega) [] rfl) (Ev.val Ev.some ?_)
          rw [if_pos hp, List.nil_append]
        | succ d ih =>
          intro i hi hq
          have hc : Ev (fun k => slices_Contains_int_int.f k by_ (i : Int)) (decide (ix by_ (i : Int) by_.length 0 ≥ 0)) := by
            unfold slices_Contains_int_int.f
            exact Ev.bind (index_ev by_ hb _) Ev.some
          refine Ev.step (fun k => by simp only [impl_Renamed.l0]; rfl) (Ev.ite_pos (by omega) (Ev.bind hc ?_))
          by_cases h3 : 0 ≤ ix by_ (i : Int) by_.length 0
          · refine Ev.ite_pos (decide_eq_true h3) ?_
            rw [wrap_nat (by omega)]
            refine ih (i + 1) (by omega) (hq.trans ⟨fun h j a b => h j (by omega) b, fun h j a b => ?_⟩)
            by_cases e : j = i
            · subst e; exact h3
            · exact h j (by omega) b
          · refine Ev.ite_neg (by rw [decide_eq_false h3]; decide) (Ev.val Ev.some ?_)
            have hp : ¬ permB by_ y = true := by
              intro hp
              unfold permB at hp
              rw [Bool.and_eq_true] at hp
              exact h3 (hq.1 hp.2 i (Nat.le_refl _) (by omega))
            rw [if_neg hp]
      refine Ev.val (key y 0 (by omega) ?_) ?_
      · rw [List.all_eq_true]
        exact ⟨fun h j a b => of_decide_eq_true (h j (List.mem_range.2 b)), fun h j hj => decide_eq_true (h j (Nat.zero_le _) (List.mem_range.1 hj))⟩
      · simp only [h1, true_and]
    · have hne : ((by_.length : Int) != (y : Int)) = true := by simp; omega
      rw [hne]
      refine Ev.val hf ?_
      rw [if_neg (fun h => h2 (perm_len h.2))]
  · exact Ev.ite_neg h1 (Ev.val hf (by rw [if_neg (fun h => h1 h.1)]))
theorem rnV_rows (s : List I_Sym) (z : Int) (T : List (List Int)) (by_ : List Int) : (rnV s z T by_).2.1.length ≤ s.length ∧ ∀ x ∈ (rnV s z T by_).2.1, x.length ≤ 64 := by
  unfold rnV
  split
  · rename_i h
    obtain ⟨h1, h2⟩ := h
    obtain ⟨hz, hR⟩ := world_row h1
    have h := rnT_rows s by_ z.toNat T (by omega) (fun f hf => (hR f (by omega) (by omega)).ar.2) s.length 0 (by omega)
    exact ⟨Nat.le_of_eq h.1, h.2⟩
  · exact ⟨Nat.zero_le _, fun x hx => by simp at hx⟩
/-! #### marks on rows of rows, and on symbols -/
def oneI (v : Int) : Int := v
def totI : List (List Int) → Nat
  | [] => 0
  | t :: r => t.length + totI r
def mkSS : Int → List (List Int) → List (List Int)
  | _, [] => []
  | v, t :: r => mkL oneI 1 v t.length :: mkSS (v + (t.length : Nat)) r
theorem mkSS_length : ∀ (T : List (List Int)) (v : Int), (mkSS v T).length = T.length := by
  intro T
  induction T with
  | nil => intro v; rfl
  | cons t r ih => intro v; rw [mkSS, List.length_cons, ih, List.length_cons]
theorem markIntS_ev (l : List Int) (v : Int) (hl : l.length ≤ maxLen) (h0 : 0 ≤ v) (hv : v + (l.length : Nat) ≤ 4611686018427387904) : Ev (fun k => laws_markIntS.f k l v) (v + (l.length : Nat), mkL oneI 1 v l.length) := by
  have hm : maxLen = 9223372036854775807 := rfl
  have h := mark_loop oneI 1 (fun k acc v i => laws_markIntS.l0 k acc v i) (fun k acc v n hn hl h0 hv => by
    simp only [laws_markIntS.l0]
    rw [if_pos (by omega), if_pos (by omega), Int.toNat_natCast, wrap_nat (by omega), wrap_id (by omega) (by omega)]
    rfl) (fun k acc v => by
    simp only [laws_markIntS.l0]
    rw [if_neg (by omega)]) l hl v h0 (by omega)
  rw [Nat.one_mul] at h
  exact h
theorem heldIntS_ev (m : Nat) (v : Int) (hl : m ≤ maxLen) (h0 : 0 ≤ v) (hv : v + (m : Nat) ≤ 4611686018427387904) : Ev (fun k => laws_heldIntS.f k (mkL oneI 1 v m) v) (v + (m : Nat)) := by
  have hm : maxLen = 9223372036854775807 := rfl
  have h := held_loop oneI 1 0 (fun k acc v i => laws_heldIntS.l0 k acc v i) (fun k acc v n hn hl h0 hv e => by
    simp only [laws_heldIntS.l0]
    have e' : rd acc (n : Int) = v := e
    rw [if_pos (by omega), if_pos (by omega), if_pos e', wrap_nat (by omega), wrap_id (by omega) (by omega)]
    rfl) (fun k acc v => by
    simp only [laws_heldIntS.l0]
    rw [if_neg (by omega)]) m hl v h0 (by omega)
  rw [Nat.one_mul] at h
  exact h
theorem rdSS_mid (a : List (List Int)) (t : List Int) (r : List (List Int)) : rd_Ls_i64 (a ++ t :: r) ((a.length : Nat) : Int) = t := by
  show (a ++ t :: r).getD (Int.toNat (a.length : Int)) [] = t
  rw [Int.toNat_natCast, List.getD_eq_getElem?_getD, List.getElem?_append_right (Nat.le_refl _), Nat.sub_self]
  rfl
theorem markIntSS_l : ∀ (r a : List (List Int)) (v : Int), (a ++ r).length ≤ 1048577 → (∀ t ∈ r, t.length ≤ maxLen) → 0 ≤ v → v + (totI r : Nat) ≤ 4611686018427387904 → Ev (fun k => laws_markIntSS.l0 k (a ++ r) v ((a.length : Nat) : Int)) (v + (totI r : Nat), a ++ mkSS v r) := by
  have hm : maxLen = 9223372036854775807 := rfl
  intro r
  induction r with
  | nil =>
    intro a v hl ht h0 hv
    refine Ev.step (fun k => by simp only [laws_markIntSS.l0]; rfl) (Ev.ite_neg (by rw [List.append_nil]; omega) ?_)
    exact Ev.val Ev.some (by simp [totI, mkSS])
  | cons t r ih =>
    intro a v hl ht h0 hv
    have hlen : (a ++ t :: r).length = a.length + (r.length + 1) := by rw [List.length_append, List.length_cons]
    rw [totI] at hv
    refine Ev.step (fun k => by simp only [laws_markIntSS.l0]; rfl) (Ev.ite_pos (by omega) (Ev.ite_pos (by omega) ?_))
    rw [rdSS_mid]
    refine Ev.bind (markIntS_ev t v (ht t (List.mem_cons_self ..)) h0 (by omega)) ?_
    rw [Int.toNat_natCast, wrap_nat (by omega), List.set_append_right _ _ (Nat.le_refl _), Nat.sub_self, List.set_cons_zero]
    have h := ih (a ++ [mkL oneI 1 v t.length]) (v + (t.length : Nat)) (by rw [List.length_append, List.length_append, List.length_cons, List.length_nil]; omega) (fun x hx => ht x (List.mem_cons_of_mem _ hx)) (by omega) (by omega)
    rw [List.length_append, List.length_cons, List.length_nil, List.append_assoc, List.singleton_append, List.append_assoc, List.singleton_append] at h
    refine Ev.val h ?_
    rw [totI, mkSS]
    congr 1
    omega
theorem markIntSS_ev (T : List (List Int)) (v : Int) (hl : T.length ≤ 1048577) (ht : ∀ t ∈ T, t.length ≤ maxLen) (h0 : 0 ≤ v) (hv : v + (totI T : Nat) ≤ 4611686018427387904) : Ev (fun k => laws_markIntSS.f k T v) (v + (totI T : Nat), mkSS v T) := markIntSS_l T [] v hl ht h0 hv
theorem heldIntSS_l : ∀ (r a : List (List Int)) (v : Int), a.length + r.length ≤ 1048577 → (∀ t ∈ r, t.length ≤ maxLen) → 0 ≤ v → v + (totI r : Nat) ≤ 4611686018427387904 → Ev (fun k => laws_heldIntSS.l0 k (a ++ mkSS v r) v ((a.length : Nat) : Int)) (v + (totI r : Nat)) := by
  have hm : maxLen = 9223372036854775807 := rfl
  intro r
  induction r with
  | nil =>
    intro a v hl ht h0 hv
    refine Ev.step (fun k => by simp only [laws_heldIntSS.l0]; rfl) (Ev.ite_neg (by simp [mkSS]) ?_)
    exact Ev.val Ev.some (by simp [totI])
  | cons t r ih =>
    intro a v hl ht h0 hv
    rw [List.length_cons] at hl
    rw [totI] at hv
    rw [mkSS]
    have hlen : (a ++ mkL oneI 1 v t.length :: mkSS (v + (t.length : Nat)) r).length = a.length + (r.length + 1) := by rw [List.length_append, List.length_cons, mkSS_length]
    refine Ev.step (fun k => by simp only [laws_heldIntSS.l0]; rfl) (Ev.ite_pos (by omega) (Ev.ite_pos (by omega) ?_))
    rw [rdSS_mid]
    refine Ev.bind (heldIntS_ev t.length v (ht t (List.mem_cons_self ..)) h0 (by omega)) (Ev.ite_neg (by omega) ?_)
    rw [wrap_nat (by omega)]
    have h := ih (a ++ [mkL oneI 1 v t.length]) (v + (t.length : Nat)) (by rw [List.length_append, List.length_cons, List.length_nil]; omega) (fun x hx => ht x (List.mem_cons_of_mem _ hx)) (by omega) (by omega)
    rw [List.length_append, List.length_cons, List.length_nil, List.append_assoc, List.singleton_append] at h
    refine Ev.val h ?_
    rw [totI]
    omega
theorem heldIntSS_ev (T : List (List Int)) (v : Int) (hl : T.length ≤ 1048577) (ht : ∀ t ∈ T, t.length ≤ maxLen) (h0 : 0 ≤ v) (hv : v + (totI T : Nat) ≤ 4611686018427387904) : Ev (fun k => laws_heldIntSS.f k (mkSS v T) v) (v + (totI T : Nat)) := heldIntSS_l T [] v (by simpa using hl) ht h0 hv
theorem markWorld_ev (z : Int) (T : List (List Int)) (v : Int) (hl : T.length ≤ 1048577) (ht : ∀ t ∈ T, t.length ≤ maxLen) (h0 : 0 ≤ v) (hv : v + (totI T : Nat) ≤ 4611686018427387904) : Ev (fun k => laws_markWorld.f k z T v) (v + (totI T : Nat), mkSS v T) := markIntSS_ev T v hl ht h0 hv
theorem heldWorld_ev (z : Int) (T : List (List Int)) (v : Int) (hl : T.length ≤ 1048577) (ht : ∀ t ∈ T, t.length ≤ maxLen) (h0 : 0 ≤ v) (hv : v + (totI T : Nat) ≤ 4611686018427387904) : Ev (fun k => laws_heldWorld.f k z (mkSS v T) v) (v + (totI T : Nat)) := by
  unfold laws_heldWorld.f
  exact Ev.bind (heldIntSS_ev T v hl ht h0 hv) (Ev.ite_neg (by omega) Ev.some)
theorem totI_le : ∀ T : List (List Int), T.length + totI T ≤ el_IntSS T := by
  intro T
  unfold el_IntSS
  induction T with
  | nil => simp [totI]
  | cons t r ih =>
    rw [totI, List.map_cons, List.sum_cons, List.length_cons]
    have : t.length ≤ el_IntS t := by unfold el_IntS; omega
    omega
theorem el_rows (m : Nat) : ∀ T : List (List Int), (∀ t ∈ T, t.length ≤ m) → el_IntSS T ≤ (m + 1) * T.length := by
  intro T h
  unfold el_IntSS
  induction T with
  | nil => simp
  | cons t r ih =>
    have h1 := ih (fun x hx => h x (List.mem_cons_of_mem _ hx))
    have h2 := h t (List.mem_cons_self ..)
    have h3 : el_IntS t = t.length := by unfold el_IntS; rw [sum_zero _ _ (fun _ => rfl)]; rfl
    rw [List.map_cons, List.sum_cons, List.length_cons, h3, Nat.mul_succ]
    omega
/-! #### marks on symbols: how far they count -/
theorem markText_l : ∀ (d : Nat) (x : Int) (b : ByteArray), x < 10 ^ d → b.size + d ≤ 1000 → ∃ c, Ev (fun k => laws_markText.l0 k x b) c := by
  intro d
  induction d with
  | zero =>
    intro x b hx hb
    exact ⟨_, Ev.step (fun k => by simp only [laws_markText.l0]; rfl) (Ev.ite_neg (by simp at hx; omega) (Ev.ite_pos (by omega) Ev.some))⟩
  | succ d ih =>
    intro x b hx hb
    by_cases h : x > 0
    · have hd : Int.tdiv x 10 = x / 10 := Int.tdiv_eq_ediv_of_nonneg (by omega)
      have h10 : (10 : Int) ^ (d + 1) = 10 ^ d * 10 := Int.pow_succ ..
      by_cases hw : x ≤ 9223372036854775807
      · obtain ⟨c, hc⟩ := ih (x / 10) (strOfNums [wrap64 (48 + Int.tmod x 10) % 256] ++ b) (by omega) (by rw [ByteArray.size_append, strOfNums_size, List.length_singleton]; omega)
        refine ⟨c, Ev.step (fun k => by simp only [laws_markText.l0]; rfl) (Ev.ite_pos h (Ev.bind Ev.some (Ev.ite_pos (by rw [strOfNums_size, List.length_singleton]; omega) ?_)))⟩
        rw [hd, wrap_id (x := x / 10) (by omega) (by omega)]
        exact hc
      · obtain ⟨c, hc⟩ := ih (wrap64 (Int.tdiv x 10)) (strOfNums [wrap64 (48 + Int.tmod x 10) % 256] ++ b) (by rw [hd]; unfold wrap64; omega) (by rw [ByteArray.size_append, strOfNums_size, List.length_singleton]; omega)
        exact ⟨c, Ev.step (fun k => by simp only [laws_markText.l0]; rfl) (Ev.ite_pos h (Ev.bind Ev.some (Ev.ite_pos (by rw [strOfNums_size, List.length_singleton]; omega) hc)))⟩
    · exact ⟨_, Ev.step (fun k => by simp only [laws_markText.l0]; rfl) (Ev.ite_neg h (Ev.ite_pos (by omega) Ev.some))⟩
theorem markText_ev (x : Int) (hx : x ≤ 4611686018427387904) : ∃ c, Ev (fun k => laws_markText.f k x) c := by
  unfold laws_markText.f
  by_cases h : x ≤ 0
  · exact ⟨_, Ev.ite_pos h Ev.some⟩
  · obtain ⟨c, hc⟩ := markText_l 20 x ⟨#[]⟩ (by omega) (by decide)
    exact ⟨c, Ev.ite_neg h hc⟩
def symSet (acc : List I_Sym) (n : Nat) (c : ByteArray) (v : Int) : List I_Sym :=
  ((acc.set (n : Int).toNat (⟨c, (rd_I_Sym acc n).f1, (rd_I_Sym acc n).f2⟩ : I_Sym)).set (n : Int).toNat (⟨(rd_I_Sym (acc.set (n : Int).toNat (⟨c, (rd_I_Sym acc n).f1, (rd_I_Sym acc n).f2⟩ : I_Sym)) n).f0, v + 1, (rd_I_Sym (acc.set (n : Int).toNat (⟨c, (rd_I_Sym acc n).f1, (rd_I_Sym acc n).f2⟩ : I_Sym)) n).f2⟩ : I_Sym)).set (n : Int).toNat (⟨(rd_I_Sym ((acc.set (n : Int).toNat (⟨c, (rd_I_Sym acc n).f1, (rd_I_Sym acc n).f2⟩ : I_Sym)).set (n : Int).toNat (⟨(rd_I_Sym (acc.set (n : Int).toNat (⟨c, (rd_I_Sym acc n).f1, (rd_I_Sym acc n).f2⟩ : I_Sym)) n).f0, v + 1, (rd_I_Sym (acc.set (n : Int).toNat (⟨c, (rd_I_Sym acc n).f1, (rd_I_Sym acc n).f2⟩ : I_Sym)) n).f2⟩ : I_Sym)) n).f0, (rd_I_Sym ((acc.set (n : Int).toNat (⟨c, (rd_I_Sym acc n).f1, (rd_I_Sym acc n).f2⟩ : I_Sym)).set (n : Int).toNat (⟨(rd_I_Sym (acc.set (n : Int).toNat (⟨c, (rd_I_Sym acc n).f1, (rd_I_Sym acc n).f2⟩ : I_Sym)) n).f0, v + 1, (rd_I_Sym (acc.set (n : Int).toNat (⟨c, (rd_I_Sym acc n).f1, (rd_I_Sym acc n).f2⟩ : I_Sym)) n).f2⟩ : I_Sym)) n).f1, ((Int.tmod (v + 1 + 1) 3) == 0)⟩ : I_Sym)
theorem markSymS_l (l : List I_Sym) (hl : l.length ≤ 1048577) : ∀ d n : Nat, n + d = l.length → ∀ (acc : List I_Sym) (v : Int), acc.length = l.length → 0 ≤ v → v + (3 * d : Nat) ≤ 4611686018427387904 → ∃ r, Ev (fun k => laws_markSymS.l0 k acc v (n : Int)) (v + (3 * d : Nat), r) := by
  have hm : maxLen = 9223372036854775807 := rfl
  intro d
  induction d with
  | zero =>
    intro n hn acc v ha h0 hv
    exact ⟨acc, Ev.step (fun k => by simp only [laws_markSymS.l0]; rfl) (Ev.ite_neg (by omega) (Ev.val (r := (v, acc)) Ev.some (by simp)))⟩
  | succ d ih =>
    intro n hn acc v ha h0 hv
    obtain ⟨c, hc⟩ := markText_ev v (by omega)
    have w1 : wrap64 (v + 1) = v + 1 := wrap_id (by omega) (by omega)
    have w2 : wrap64 (v + 1 + 1) = v + 1 + 1 := wrap_id (by omega) (by omega)
    have w3 : wrap64 (v + 1 + 1 + 1) = v + 1 + 1 + 1 := wrap_id (by omega) (by omega)
    obtain ⟨r, hr⟩ := ih (n + 1) (by omega) (symSet acc n c v) (v + 1 + 1 + 1) (by unfold symSet; simp only [List.length_set]; exact ha) (by omega) (by omega)
    refine ⟨r, Ev.step (fun k => by simp only [laws_markSymS.l0]; rfl) (Ev.ite_pos (by omega) (Ev.bind hc ?_))⟩
    refine Ev.ite_pos (by omega) ?_
    refine Ev.bind Ev.some ?_
    refine Ev.bind Ev.some ?_
    rw [wrap_nat (by omega), w1, w2, w3]
    refine Ev.val hr ?_
    have e : v + 1 + 1 + 1 + ((3 * d : Nat) : Int) = v + ((3 * (d + 1) : Nat) : Int) := by omega
    rw [e]
theorem markSymS_ev (l : List I_Sym) (v : Int) (hl : l.length ≤ 1048577) (h0 : 0 ≤ v) (hv : v ≤ 1048577) : ∃ r, Ev (fun k => laws_markSymS.f k l v) (v + (3 * l.length : Nat), r) := markSymS_l l hl l.length 0 (by omega) l v rfl h0 (by omega)
theorem FnExactRenamed : laws_FnExactRenamed.Pure := by
  intro s w_0 w_1 by_ hs hw_0 hw_1 hby
  refine Ev.rounds (g := fun k => laws_FnExactRenamed.f k s w_0 w_1 by_) ?_
  unfold laws_FnExactRenamed.f
  have hm : maxLen = 9223372036854775807 := rfl
  have W2 : Wf_L_World (⟨w_0, w_1⟩ : L_World) := ⟨hw_0, hw_1⟩
  by_cases hB : (by_.length : Int) > 1048576
  · exact Ev.ite_pos hB Ev.some
  refine Ev.ite_neg hB ?_
  refine Ev.nxt ?_
  simp only [laws_FnExactRenamed.j0]
  refine law_sz (by omega) (by omega) (szSymS_ev s hs 1048576 (by omega) (by omega)) fun q1 a1 b1 S1 => ?_
  refine Ev.nxt ?_
  simp only [laws_FnExactRenamed.j1]
  refine law_sz a1 b1 (szWorld_ev (⟨w_0, w_1⟩ : L_World) W2 q1 a1 b1) fun q2 a2 b2 S2 => ?_
  have K1 : el_SymS (cv_SymS s) ≤ 1048576 := by have := el_cv_SymS s; omega
  have K2 : el_World (cv_World (⟨w_0, w_1⟩ : L_World)) ≤ 1048576 := by have := el_cv_World (⟨w_0, w_1⟩ : L_World); omega
  obtain ⟨S, hS⟩ : ∃ S, cv_SymS s = S := ⟨_, rfl⟩
  obtain ⟨V, hV⟩ : ∃ V, cv_World (⟨w_0, w_1⟩ : L_World) = V := ⟨_, rfl⟩
  have tS := toSymS_ev s S1
  have tV := toWorld_ev (⟨w_0, w_1⟩ : L_World) S2
  have hbe : by_.length ≤ 1048576 := by omega
  have hsz : sz_IntS by_ ≤ 1048576 := by unfold sz_IntS; first | omega | (rw [sum_zero _ _ (fun _ => rfl)]; omega)
  have tB := toIntS_ev by_ hsz
  have nS := names_cv S1
  rw [hS] at tS nS K1
  rw [hV] at tV K2
  have hl : S.length ≤ 1048576 := by unfold el_SymS at K1; omega
  have hT : el_IntSS V.f1 ≤ 1048576 := by unfold el_World at K2; omega
  have hTl := totI_le V.f1
  have hTs := tabs_len (T := V.f1) (by omega)
  have hr := rnV_rows S V.f0 V.f1 by_
  obtain ⟨G, hG⟩ : ∃ G, rnV S V.f0 V.f1 by_ = G := ⟨_, rfl⟩
  have sp := specRenamed_ev S V.f0 V.f1 by_ (by omega) nS hTs (by omega)
  have im := implRenamed_ev S V.f0 V.f1 by_ (by omega) nS hTs (by omega)
  rw [hG] at hr sp im
  have hGe := el_rows 64 G.2.1 hr.2
  have hGt := totI_le G.2.1
  have hGx : ∀ x ∈ G.2.1, x.length ≤ maxLen := fun x hx => by have := hr.2 x hx; omega
  have eG := eqWorld_ev (⟨G.1, G.2.1⟩ : I_World) (by unfold el_World; dsimp only; omega)
  refine Ev.nxt ?_
  simp only [laws_FnExactRenamed.j2]
  refine Ev.bind tS (Ev.bind tV (Ev.bind tB (Ev.bind sp (Ev.bind tS (Ev.bind tV (Ev.bind tB (Ev.bind im (Ev.bind eG (Ev.ite_pos rfl ?_)))))))))
  refine Ev.nxt ?_
  simp only [laws_FnExactRenamed.j3]
  refine Ev.ite_neg (by simp) ?_
  refine Ev.nxt ?_
  simp only [laws_FnExactRenamed.j4]
  refine Ev.bind tS (Ev.bind (eqSymS_ev S (by omega)) (Ev.ite_pos rfl ?_))
  refine Ev.nxt ?_
  simp only [laws_FnExactRenamed.j5]
  refine Ev.bind tV (Ev.bind (eqWorld_ev V (by omega)) (Ev.ite_pos rfl ?_))
  refine Ev.nxt ?_
  simp only [laws_FnExactRenamed.j6]
  have hbel : el_IntS by_ ≤ maxLen := by unfold el_IntS; first | omega | (rw [sum_zero _ _ (fun _ => rfl)]; omega)
  refine Ev.bind tB (Ev.bind (eqIntS_ev by_ hbel) (Ev.ite_pos rfl ?_))
  refine Ev.nxt ?_
  simp only [laws_FnExactRenamed.j7]
  obtain ⟨m1, M1⟩ := markSymS_ev S 1 (by omega) (by omega) (by omega)
  refine Ev.bind M1 (Ev.bind (markWorld_ev _ V.f1 _ (by omega) hTs (by omega) (by omega)) (Ev.bind (markIntS_ev by_ _ (by omega) (by dsimp only; omega) (by dsimp only; omega)) ?_))
  refine Ev.ite_neg (by dsimp only; omega) (Ev.bind eG (Ev.ite_pos rfl ?_))
  refine Ev.nxt ?_
  simp only [laws_FnExactRenamed.j8]
  refine Ev.ite_neg (by simp) ?_
  refine Ev.nxt ?_
  simp only [laws_FnExactRenamed.j9]
  refine Ev.bind (markWorld_ev _ G.2.1 1 (by omega) hGx (by omega) (by omega)) (Ev.bind (heldWorld_ev _ G.2.1 1 (by omega) hGx (by omega) (by omega)) ?_)
  refine Ev.ite_neg (by omega) ?_
  refine Ev.nxt ?_
  simp only [laws_FnExactRenamed.j10]
  refine Ev.ite_pos (by first | rfl | trivial) ?_
  refine Ev.nxt ?_
  simp only [laws_FnExactRenamed.j11]
  refine Ev.bind tS (Ev.bind tV (Ev.bind tB (Ev.bind im (Ev.bind eG (Ev.ite_pos rfl ?_)))))
  refine Ev.nxt ?_
  simp only [laws_FnExactRenamed.j12]
  refine Ev.ite_neg (by simp) ?_
  refine Ev.nxt ?_
  simp only [laws_FnExactRenamed.j13]
  refine Ev.bind (heldWorld_ev _ G.2.1 1 (by omega) hGx (by omega) (by omega)) (Ev.ite_neg (by omega) (Ev.ite_pos rfl Ev.some))
end Go.Proofs.Ytcboagkbcoihjaa.Pure
