/- The program's WorldOk returns what the reference's returns, for all arguments. -/
import Derived.Test.YtcboagkbcoihjaaXWorldOkh
namespace Go.Proofs.Ytcboagkbcoihjaa.Pure
open Go.RowKit Go.Proofs.Ytcboagkbcoihjaa.XWorldOk Go.Proofs.Ytcboagkbcoihjaa.XPure Go.Proofs.YtcboagkbcoihjaaW.PrintWords Go.Proofs.YtcboagkbcoihjaaW.PrintLast Go.Proofs.YtcboagkbcoihjaaW.PrintMore
set_option linter.unusedVariables false
set_option linter.unusedSimpArgs false
/-! #### signatures: names, which function has a name, what is right (under way: not built yet) -/
def small (c : Int) : Bool := decide (97 ≤ c) && decide (c ≤ 122)
def digit (c : Int) : Bool := decide (48 ≤ c) && decide (c ≤ 57)
def inR (a b c : Int) : Bool := decide (b ≤ a) && decide (a ≤ c)
theorem specInR (a b c : Int) : spec_l1In.f a b c = some (inR a b c) := by
  unfold spec_l1In.f inR
  by_cases h : a ≥ b
  · rw [if_pos h]; simp [show b ≤ a from h]
  · rw [if_neg h]; simp [show ¬ b ≤ a from h]
theorem implInR (a b c : Int) : impl_from.f a b c = some (inR a b c) := by
  unfold impl_from.f inR
  by_cases h : a ≥ b
  · rw [if_pos h]; simp [show b ≤ a from h]
  · rw [if_neg h]; simp [show ¬ b ≤ a from h]
theorem implSmall (a : Int) : impl_isSmall.f a = some (small a) := by
  unfold impl_isSmall.f small
  by_cases h : a ≥ 97
  · rw [if_pos h]; simp [show 97 ≤ a from h]
  · rw [if_neg h]; simp [show ¬ 97 ≤ a from h]
theorem implDigit (a : Int) : impl_isDigit.f a = some (digit a) := by
  unfold impl_isDigit.f digit
  by_cases h : a ≥ 48
  · rw [if_pos h]; simp [show 48 ≤ a from h]
  · rw [if_neg h]; simp [show ¬ 48 ≤ a from h]
/-- from place n on (d places): each a small letter, or a digit that is not the first -/
def nmS (s : ByteArray) : Nat → Nat → Bool
  | 0, _ => inR (s.size : Int) 1 8
  | d + 1, n => if small (bt s (n : Int)) = true ∨ (0 < n ∧ digit (bt s (n : Int)) = true) then nmS s d (n + 1) else false
theorem specName_l (s : ByteArray) (hs : s.size ≤ maxLen) : ∀ d n : Nat, n + d = s.size → Ev (fun k => spec_NameOk.l0 k s (n : Int)) (nmS s d n) := by
  intro d
  induction d with
  | zero =>
    intro n hn
    exact Ev.step (fun k => by simp only [spec_NameOk.l0]; rfl) (Ev.ite_neg (by omega) (Ev.bind (Ev.cst (specInR _ _ _)) Ev.some))
  | succ d ih =>
    intro n hn
    refine Ev.step (fun k => by simp only [spec_NameOk.l0]; rfl) (Ev.ite_pos (by omega) (Ev.ite_pos (by omega) ?_))
    rw [wrap_nat (by omega), nmS]
    have ih := ih (n + 1) (by omega)
    have e : (small (bt s (n : Int)) = true) ↔ (bt s (n : Int) ≥ 97 ∧ bt s (n : Int) ≤ 122) := by simp [small]
    have e2 : (digit (bt s (n : Int)) = true) ↔ (bt s (n : Int) ≥ 48 ∧ bt s (n : Int) ≤ 57) := by simp [digit]
    simp only [e, e2]
    by_cases h1 : bt s (n : Int) ≥ 97
    · refine Ev.ite_pos h1 ?_
      by_cases h2 : bt s (n : Int) ≤ 122
      · rw [if_pos (Or.inl ⟨h1, h2⟩)]
        exact Ev.ite_pos h2 ih
      · refine Ev.ite_neg h2 ?_
        rw [if_neg (by omega)]
        by_cases h3 : (n : Int) > 0
        · exact Ev.ite_pos h3 (Ev.ite_pos (by omega) (Ev.ite_neg (by omega) Ev.some))
        · exact Ev.ite_neg h3 Ev.some
    · refine Ev.ite_neg h1 ?_
      by_cases h3 : (n : Int) > 0
      · refine Ev.ite_pos h3 ?_
        by_cases h4 : bt s (n : Int) ≥ 48
        · refine Ev.ite_pos h4 ?_
          by_cases h5 : bt s (n : Int) ≤ 57
          · rw [if_pos (Or.inr ⟨by omega, h4, h5⟩)]
            exact Ev.ite_pos h5 ih
          · rw [if_neg (by omega)]
            exact Ev.ite_neg h5 Ev.some
        · rw [if_neg (by omega)]
          exact Ev.ite_neg h4 Ev.some
      · rw [if_neg (by omega)]
        exact Ev.ite_neg h3 Ev.some
def al (s : ByteArray) : Nat → Nat → Bool
  | 0, _ => true
  | d + 1, n => if small (bt s (n : Int)) = true ∨ digit (bt s (n : Int)) = true then al s d (n + 1) else false
theorem implName_l (s : ByteArray) (hs : s.size ≤ maxLen) : ∀ d n : Nat, n + d = s.size → Ev (fun k => impl_NameOk.l0 k s (s.size : Int) (n : Int)) (al s d n && (inR (s.size : Int) 1 8 && small (bt s 0))) := by
  intro d
  induction d with
  | zero =>
    intro n hn
    refine Ev.step (fun k => by simp only [impl_NameOk.l0]; rfl) (Ev.ite_neg (by omega) (Ev.bind (Ev.cst (implInR _ _ _)) ?_))
    by_cases h : inR (s.size : Int) 1 8 = true
    · refine Ev.ite_pos h ?_
      have h' := h
      simp [inR] at h'
      refine Ev.ite_pos (by omega) (Ev.bind (Ev.cst (implSmall _)) (Ev.val Ev.some ?_))
      simp [al, h]
    · exact Ev.ite_neg h (Ev.val Ev.some (by simp [Bool.eq_false_iff.2 h]))
  | succ d ih =>
    intro n hn
    refine Ev.step (fun k => by simp only [impl_NameOk.l0]; rfl) (Ev.ite_pos (by omega) (Ev.ite_pos (by omega) (Ev.ite_pos (by omega) (Ev.bind (Ev.cst (implSmall _)) ?_))))
    rw [wrap_nat (by omega), al]
    have ih := ih (n + 1) (by omega)
    by_cases h1 : small (bt s (n : Int)) = true
    · rw [if_pos (Or.inl h1)]
      exact Ev.ite_pos h1 ih
    · refine Ev.ite_neg h1 (Ev.bind (Ev.cst (implDigit _)) ?_)
      by_cases h2 : digit (bt s (n : Int)) = true
      · rw [if_pos (Or.inr h2)]
        exact Ev.ite_pos h2 ih
      · rw [if_neg (fun e => e.elim h1 h2)]
        exact Ev.ite_neg h2 (Ev.val Ev.some (by simp))
theorem nmS_al (s : ByteArray) : ∀ d n : Nat, 0 < n → nmS s d n = (al s d n && inR (s.size : Int) 1 8) := by
  intro d
  induction d with
  | zero => intro n h; simp [nmS, al]
  | succ d ih =>
    intro n h
    rw [nmS, al, ih (n + 1) (by omega)]
    by_cases h1 : small (bt s (n : Int)) = true <;> by_cases h2 : digit (bt s (n : Int)) = true <;> simp [h, h1, h2]
def nameOk (s : ByteArray) : Bool := nmS s s.size 0
theorem nameOk_al (s : ByteArray) : nameOk s = (al s s.size 0 && (inR (s.size : Int) 1 8 && small (bt s 0))) := by
  unfold nameOk
  generalize hd : s.size = d
  cases d with
  | zero => simp [nmS, hd, inR]
  | succ d =>
    rw [nmS, al, nmS_al s d (0 + 1) (by omega), hd]
    have e : bt s ((0 : Nat) : Int) = bt s 0 := rfl
    rw [e]
    by_cases h1 : small (bt s 0) = true <;> by_cases h2 : digit (bt s 0) = true <;> simp [h1, h2]
theorem specName_ev (s : ByteArray) (hs : s.size ≤ maxLen) : Ev (fun k => spec_NameOk.f k s) (nameOk s) := by
  unfold spec_NameOk.f
  exact specName_l s hs s.size 0 (by omega)
theorem implName_ev (s : ByteArray) (hs : s.size ≤ maxLen) : Ev (fun k => impl_NameOk.f k s) (nameOk s) := by
  unfold impl_NameOk.f
  rw [nameOk_al]
  exact implName_l s hs s.size 0 (by omega)
def symL (l : List I_Sym) (m : ByteArray) : Nat → Nat → Int
  | 0, _ => -1
  | d + 1, n => if (rd_I_Sym l (n : Int)).f0.toList = m.toList then (n : Int) else symL l m d (n + 1)
def symOf (l : List I_Sym) (m : ByteArray) : Int := symL l m l.length 0
theorem specSymOf_l (l : List I_Sym) (m : ByteArray) (hl : l.length ≤ maxLen) : ∀ d n : Nat, n + d = l.length → Ev (fun k => spec_SymOf.l0 k l m (n : Int)) (symL l m d n) := by
  intro d
  induction d with
  | zero =>
    intro n hn
    exact Ev.step (fun k => by simp only [spec_SymOf.l0]; rfl) (Ev.ite_neg (by omega) Ev.some)
  | succ d ih =>
    intro n hn
    refine Ev.step (fun k => by simp only [spec_SymOf.l0]; rfl) (Ev.ite_pos (by omega) (Ev.ite_pos (by omega) ?_))
    rw [wrap_nat (by omega), symL]
    by_cases h : (rd_I_Sym l (n : Int)).f0.toList = m.toList
    · rw [if_pos h]; exact Ev.ite_pos h Ev.some
    · rw [if_neg h]; exact Ev.ite_neg h (ih _ (by omega))
theorem implSymOf_l (l : List I_Sym) (m : ByteArray) (hl : l.length ≤ maxLen) : ∀ d n : Nat, n + d = l.length → Ev (fun k => impl_Sym__with_impl_SymOf_1.l0 k l (l.length : Int) (n : Int) m) (symL l m d n) := by
  intro d
  induction d with
  | zero =>
    intro n hn
    exact Ev.step (fun k => by simp only [impl_Sym__with_impl_SymOf_1.l0]; rfl) (Ev.ite_neg (by omega) Ev.some)
  | succ d ih =>
    intro n hn
    refine Ev.step (fun k => by simp only [impl_Sym__with_impl_SymOf_1.l0]; rfl) (Ev.ite_pos (by omega) (Ev.ite_pos (by omega) (Ev.ite_pos (by omega) (Ev.bind Ev.some ?_))))
    rw [wrap_nat (by omega), symL]
    by_cases h : (rd_I_Sym l (n : Int)).f0.toList = m.toList
    · rw [if_pos h]; exact Ev.ite_pos (by simp [h]) Ev.some
    · rw [if_neg h]; exact Ev.ite_neg (by simp [h]) (ih _ (by omega))
theorem specSymOf_ev (l : List I_Sym) (m : ByteArray) (hl : l.length ≤ maxLen) : Ev (fun k => spec_SymOf.f k l m) (symOf l m) := by
  unfold spec_SymOf.f
  exact specSymOf_l l m hl l.length 0 (by omega)
theorem implSymOf_ev (l : List I_Sym) (m : ByteArray) (hl : l.length ≤ maxLen) : Ev (fun k => impl_SymOf.f k l m) (symOf l m) := by
  unfold impl_SymOf.f impl_Sym__with_impl_SymOf_1.f
  exact Ev.bind (implSymOf_l l m hl l.length 0 (by omega)) Ev.some
def okAt (l : List I_Sym) (n : Nat) : Bool := nameOk (rd_I_Sym l (n : Int)).f0 && (decide (symOf l (rd_I_Sym l (n : Int)).f0 = (n : Int)) && (inR (rd_I_Sym l (n : Int)).f1 0 3 && (!(rd_I_Sym l (n : Int)).f2 || decide ((rd_I_Sym l (n : Int)).f1 = 2))))
def sgEnd (l : List I_Sym) : Bool := inR (l.length : Int) 1 8 && ((rd_I_Sym l 0).f0.toList == ([116, 116] : List UInt8) && ((rd_I_Sym l 0).f1 == 0 && !(rd_I_Sym l 0).f2))
def sgL (l : List I_Sym) : Nat → Nat → Bool
  | 0, _ => sgEnd l
  | d + 1, n => if okAt l n = true then sgL l d (n + 1) else false
def sigOk (l : List I_Sym) : Bool := sgL l l.length 0
theorem specSig_l (l : List I_Sym) (hl : l.length ≤ maxLen) (hn : ∀ x ∈ l, x.f0.size ≤ maxLen) : ∀ d n : Nat, n + d = l.length → Ev (fun k => spec_SigOk.l0 k l (n : Int)) (sgL l d n) := by
  intro d
  induction d with
  | zero =>
    intro n hn
    refine Ev.step (fun k => by simp only [spec_SigOk.l0]; rfl) (Ev.ite_neg (by omega) (Ev.bind (Ev.cst (specInR _ _ _)) ?_))
    rw [sgL, sgEnd]
    by_cases h : inR (l.length : Int) 1 8 = true
    · have h' := h
      simp [inR] at h'
      rw [h, Bool.true_and]
      exact Ev.ite_pos rfl (Ev.ite_pos (by omega) Ev.some)
    · exact Ev.ite_neg h (Ev.val Ev.some (by simp [Bool.eq_false_iff.2 h]))
  | succ d ih =>
    intro n hd
    have hx := hn _ (getD_mem l zI_Sym n (by omega))
    refine Ev.step (fun k => by simp only [spec_SigOk.l0]; rfl) (Ev.ite_pos (by omega) (Ev.ite_pos (by omega) (Ev.bind (specName_ev _ hx) ?_)))
    rw [wrap_nat (by omega), sgL, okAt]
    have ih := ih (n + 1) (by omega)
    by_cases h1 : nameOk (rd_I_Sym l (n : Int)).f0 = true
    · refine Ev.ite_pos h1 (Ev.bind (specSymOf_ev _ _ hl) ?_)
      by_cases h2 : symOf l (rd_I_Sym l (n : Int)).f0 = (n : Int)
      · refine Ev.ite_pos h2 (Ev.bind (Ev.cst (specInR _ _ _)) ?_)
        by_cases h3 : inR (rd_I_Sym l (n : Int)).f1 0 3 = true
        · refine Ev.ite_pos h3 ?_
          by_cases h4 : (rd_I_Sym l (n : Int)).f2 = true
          · refine Ev.ite_pos h4 ?_
            by_cases h5 : (rd_I_Sym l (n : Int)).f1 = 2
            · exact Ev.ite_pos h5 (Ev.val ih (by rw [h5] at h3; simp [h1, h2, h3, h4, h5]))
            · exact Ev.ite_neg h5 (Ev.val Ev.some (by simp [h1, h2, h3, h4, h5]))
          · exact Ev.ite_neg h4 (Ev.val ih (by simp [h1, h2, h3, h4]))
        · exact Ev.ite_neg h3 (Ev.val Ev.some (by simp [h3]))
      · exact Ev.ite_neg h2 (Ev.val Ev.some (by simp [h2]))
    · exact Ev.ite_neg h1 (Ev.val Ev.some (by simp [h1]))
theorem specSigOk_ev (l : List I_Sym) (hl : l.length ≤ maxLen) (hn : ∀ x ∈ l, x.f0.size ≤ maxLen) : Ev (fun k => spec_SigOk.f k l) (sigOk l) := by
  unfold spec_SigOk.f
  exact specSig_l l hl hn l.length 0 (by omega)
theorem okAt_end {l : List I_Sym} (h : okAt l 0 = true) : ((rd_I_Sym l 0).f1 == 0) = ((rd_I_Sym l 0).f1 == 0 && !(rd_I_Sym l 0).f2) := by
  have e : rd_I_Sym l ((0 : Nat) : Int) = rd_I_Sym l 0 := rfl
  unfold okAt at h
  rw [e] at h
  simp only [Bool.and_eq_true, Bool.or_eq_true, Bool.not_eq_true', decide_eq_true_eq] at h
  rcases h.2.2.2 with h2 | h2
  · rw [h2]; simp
  · rw [h2]; rfl
theorem implSig_l (l : List I_Sym) (hl : l.length ≤ maxLen) (hn : ∀ x ∈ l, x.f0.size ≤ maxLen) : ∀ d n : Nat, n + d = l.length → (0 < n → okAt l 0 = true) → Ev (fun k => impl_SigOk.l0 k l l (l.length : Int) (n : Int)) (sgL l d n) := by
  intro d
  induction d with
  | zero =>
    intro n hn h0
    refine Ev.step (fun k => by simp only [impl_SigOk.l0]; rfl) (Ev.ite_neg (by omega) (Ev.bind (Ev.cst (implInR _ _ _)) ?_))
    rw [sgL, sgEnd]
    by_cases h : inR (l.length : Int) 1 8 = true
    · have h' := h
      simp [inR] at h'
      rw [h, Bool.true_and, ← okAt_end (h0 (by omega))]
      refine Ev.ite_pos rfl (Ev.ite_pos (by omega) ?_)
      by_cases ht : (rd_I_Sym l 0).f0.toList = ([116, 116] : List UInt8)
      · exact Ev.ite_pos ht (Ev.val Ev.some (by simp [ht]))
      · exact Ev.ite_neg ht (Ev.val Ev.some (by simp [ht]))
    · exact Ev.ite_neg h (Ev.val Ev.some (by simp [Bool.eq_false_iff.2 h]))
  | succ d ih =>
    intro n hd h0
    have hx := hn _ (getD_mem l zI_Sym n (by omega))
    refine Ev.step (fun k => by simp only [impl_SigOk.l0]; rfl) (Ev.ite_pos (by omega) (Ev.ite_pos (by omega) (Ev.ite_pos (by omega) (Ev.bind (implName_ev _ hx) ?_))))
    rw [wrap_nat (by omega), sgL]
    have ih : okAt l n = true → Ev (fun k => impl_SigOk.l0 k l l (l.length : Int) ((n + 1 : Nat) : Int)) (sgL l d (n + 1)) := fun h => ih (n + 1) (by omega) (fun _ => by
      by_cases e : n = 0
      · subst e; exact h
      · exact h0 (by omega))
    by_cases h1 : nameOk (rd_I_Sym l (n : Int)).f0 = true
    · refine Ev.ite_pos h1 (Ev.bind (implSymOf_ev _ _ hl) ?_)
      by_cases h2 : symOf l (rd_I_Sym l (n : Int)).f0 = (n : Int)
      · refine Ev.ite_pos h2 (Ev.bind (Ev.cst (implInR _ _ _)) ?_)
        by_cases h3 : inR (rd_I_Sym l (n : Int)).f1 0 3 = true
        · refine Ev.ite_pos h3 ?_
          by_cases h4 : (rd_I_Sym l (n : Int)).f2 = true
          · refine Ev.ite_pos h4 ?_
            by_cases h5 : (rd_I_Sym l (n : Int)).f1 = 2
            · have ok : okAt l n = true := by unfold okAt; rw [h5] at h3; simp [h1, h2, h3, h4, h5]
              exact Ev.ite_pos h5 (Ev.val (ih ok) (by rw [if_pos ok]))
            · exact Ev.ite_neg h5 (Ev.val Ev.some (by simp [okAt, h1, h2, h3, h4, h5]))
          · have ok : okAt l n = true := by unfold okAt; simp [h1, h2, h3, h4]
            exact Ev.ite_neg h4 (Ev.val (ih ok) (by rw [if_pos ok]))
        · exact Ev.ite_neg h3 (Ev.val Ev.some (by simp [okAt, h3]))
      · exact Ev.ite_neg h2 (Ev.val Ev.some (by simp [okAt, h2]))
    · exact Ev.ite_neg h1 (Ev.val Ev.some (by simp [okAt, h1]))
theorem implSigOk_ev (l : List I_Sym) (hl : l.length ≤ maxLen) (hn : ∀ x ∈ l, x.f0.size ≤ maxLen) : Ev (fun k => impl_SigOk.f k l) (sigOk l) := by
  unfold impl_SigOk.f
  exact implSig_l l hl hn l.length 0 (by omega) (fun h => absurd h (by omega))
/-! #### worlds that are right: what the program's WorldOk comes to -/
theorem sgL_all (l : List I_Sym) : ∀ d n : Nat, sgL l d n = true → ∀ m, n ≤ m → m < n + d → okAt l m = true := by
  intro d
  induction d with
  | zero => intro n h m a b; omega
  | succ d ih =>
    intro n h m a b
    rw [sgL] at h
    by_cases e : okAt l n = true
    · rw [if_pos e] at h
      by_cases e2 : m = n
      · subst e2; exact e
      · exact ih (n + 1) h m (by omega) (by omega)
    · rw [if_neg e] at h
      cases h
theorem sig_at {l : List I_Sym} (h : sigOk l = true) {n : Nat} (hn : n < l.length) : (0 ≤ (rd_I_Sym l (n : Int)).f1 ∧ (rd_I_Sym l (n : Int)).f1 ≤ 3) ∧ ((rd_I_Sym l (n : Int)).f2 = true → (rd_I_Sym l (n : Int)).f1 = 2) := by
  have h := sgL_all l l.length 0 h n (by omega) (by omega)
  unfold okAt at h
  simp only [Bool.and_eq_true, Bool.or_eq_true, Bool.not_eq_true', decide_eq_true_eq, inR] at h
  refine ⟨h.2.2.1, fun e => ?_⟩
  rcases h.2.2.2 with h2 | h2
  · rw [h2] at e; cases e
  · exact h2
def allF (P : Nat → Bool) : Nat → Nat → Bool
  | 0, _ => true
  | d + 1, n => P n && allF P d (n + 1)
theorem allF_and (c : Bool) (P : Nat → Bool) : ∀ d n : Nat, allF (fun i => c && P i) (d + 1) n = (c && allF P (d + 1) n) := by
  intro d
  induction d with
  | zero => intro n; simp [allF]
  | succ d ih =>
    intro n
    rw [allF, ih]
    simp only [allF]
    cases c <;> simp
theorem allF_congr {P Q : Nat → Bool} : ∀ d n : Nat, (∀ i, n ≤ i → i < n + d → P i = Q i) → allF P d n = allF Q d n := by
  intro d
  induction d with
  | zero => intro n h; rfl
  | succ d ih =>
    intro n h
    rw [allF, allF, h n (by omega) (by omega), ih (n + 1) (fun i a b => h i (by omega) (by omega))]
def pw (z a : Int) : Int := if a = 0 then 1 else if a = 1 then z else if a = 2 then z * z else z * z * z
theorem places_ev {z : Nat} (z1 : 1 ≤ z) (z4 : z ≤ 4) (a : Int) (h0 : 0 ≤ a) (h1 : a ≤ 3) : Ev (fun k => impl_placesOf.f k z a) (pw z a) := by
  have hz : z = 1 ∨ z = 2 ∨ z = 3 ∨ z = 4 := by omega
  have ha : a = 0 ∨ a = 1 ∨ a = 2 ∨ a = 3 := by omega
  refine Ev.of (fun k => impl_placesOf.mono z a k) (k := 8) ?_
  rcases hz with rfl | rfl | rfl | rfl <;> rcases ha with rfl | rfl | rfl | rfl <;> decide +kernel
def bd (hi : Int) (t : List Int) : Nat → Nat → Bool
  | 0, _ => true
  | d + 1, n => if inR (rd t (n : Int)) 0 hi = true then bd hi t d (n + 1) else false
theorem contains_l (z : Int) (t : List Int) (T : List (List Int)) (hl : t.length ≤ maxLen) : ∀ d n : Nat, n + d = t.length → ∃ i : Int, decide (i ≥ 0) = !bd (wrap64 (z - 1)) t d n ∧ Ev (fun k => slices_IndexFunc_int_int__with_impl_WorldOk_1.l0 k t (t.length : Int) (n : Int) z T) i := by
  intro d
  induction d with
  | zero =>
    intro n hn
    exact ⟨-1, by simp [bd], Ev.step (fun k => by simp only [slices_IndexFunc_int_int__with_impl_WorldOk_1.l0]; rfl) (Ev.ite_neg (by omega) Ev.some)⟩
  | succ d ih =>
    intro n hn
    obtain ⟨i, h1, h2⟩ := ih (n + 1) (by omega)
    have hw : impl_WorldOk_1.f (rd t (n : Int)) z T = some (!inR (rd t (n : Int)) 0 (wrap64 (z - 1))) := by
      unfold impl_WorldOk_1.f
      rw [implInR]
      rfl
    by_cases h : inR (rd t (n : Int)) 0 (wrap64 (z - 1)) = true
    · refine ⟨i, by rw [bd, if_pos h]; exact h1, ?_⟩
      refine Ev.step (fun k => by simp only [slices_IndexFunc_int_int__with_impl_WorldOk_1.l0]; rfl) (Ev.ite_pos (by omega) (Ev.ite_pos (by omega) (Ev.ite_pos (by omega) (Ev.bind (Ev.cst hw) ?_))))
      rw [wrap_nat (by omega), h]
      exact Ev.ite_neg (by decide) h2
    · refine ⟨(n : Int), by rw [bd, if_neg h]; simp, ?_⟩
      refine Ev.step (fun k => by simp only [slices_IndexFunc_int_int__with_impl_WorldOk_1.l0]; rfl) (Ev.ite_pos (by omega) (Ev.ite_pos (by omega) (Ev.ite_pos (by omega) (Ev.bind (Ev.cst hw) ?_))))
      rw [Bool.not_eq_true] at h
      rw [h]
      exact Ev.ite_pos (by decide) Ev.some
theorem contains_ev (z : Int) (t : List Int) (T : List (List Int)) (hl : t.length ≤ maxLen) : Ev (fun k => slices_ContainsFunc_int_int__with_impl_WorldOk_1.f k t z T) (!bd (wrap64 (z - 1)) t t.length 0) := by
  obtain ⟨i, h1, h2⟩ := contains_l z t T hl t.length 0 (by omega)
  unfold slices_ContainsFunc_int_int__with_impl_WorldOk_1.f slices_IndexFunc_int_int__with_impl_WorldOk_1.f
  exact Ev.bind h2 (Ev.val Ev.some h1)
theorem bd_all (hi : Int) (t : List Int) : ∀ d n : Nat, bd hi t d n = true → ∀ m, n ≤ m → m < n + d → 0 ≤ rd t (m : Int) ∧ rd t (m : Int) ≤ hi := by
  intro d
  induction d with
  | zero => intro n h m a b; omega
  | succ d ih =>
    intro n h m a b
    rw [bd] at h
    by_cases e : inR (rd t (n : Int)) 0 hi = true
    · rw [if_pos e] at h
      by_cases e2 : m = n
      · subst e2
        simpa [inR] using e
      · exact ih (n + 1) h m (by omega) (by omega)
    · rw [if_neg e] at h
      cases h
def op (z : Int) (t : List Int) (a b : Int) : Int := rd t (wrap64 (a + (wrap64 (z * b))))
theorem opR' {z : Int} (hz : z = 1 ∨ z = 2 ∨ z = 3 ∨ z = 4) {n : Int} (hl : n = z * z) {a b : Int} (a0 : 0 ≤ a) (a1 : a < z) (b0 : 0 ≤ b) (b1 : b < z) : 0 ≤ wrap64 (a + (wrap64 (z * b))) ∧ wrap64 (a + (wrap64 (z * b))) < n := by
  rcases hz with rfl | rfl | rfl | rfl <;> rw [wrap_id (x := _ * b) (by omega) (by omega), wrap_id (by omega) (by omega)] <;> omega
theorem opR {z : Nat} (z1 : 1 ≤ z) (z4 : z ≤ 4) {t : List Int} (hl : (t.length : Int) = z * z) {a b : Int} (a0 : 0 ≤ a) (a1 : a < z) (b0 : 0 ≤ b) (b1 : b < z) : 0 ≤ wrap64 (a + (wrap64 ((z : Int) * b))) ∧ wrap64 (a + (wrap64 ((z : Int) * b))) < (t.length : Int) := by
  exact opR' (by omega) hl a0 a1 b0 b1
theorem opV {z : Nat} (z1 : 1 ≤ z) (z4 : z ≤ 4) {t : List Int} (hl : (t.length : Int) = z * z) (hb : bd (wrap64 ((z : Int) - 1)) t t.length 0 = true) {a b : Int} (a0 : 0 ≤ a) (a1 : a < z) (b0 : 0 ≤ b) (b1 : b < z) : 0 ≤ op z t a b ∧ op z t a b < z := by
  have h := opR z1 z4 hl a0 a1 b0 b1
  obtain ⟨n, hn⟩ : ∃ n : Nat, wrap64 (a + (wrap64 ((z : Int) * b))) = n := ⟨_, (Int.toNat_of_nonneg h.1).symm⟩
  have g := bd_all _ t t.length 0 hb n (by omega) (by omega)
  have w : wrap64 ((z : Int) - 1) = (z : Int) - 1 := wrap_id (by omega) (by omega)
  unfold op
  rw [hn]
  omega
theorem implOp {z : Nat} (z1 : 1 ≤ z) (z4 : z ≤ 4) {t : List Int} (hl : (t.length : Int) = z * z) {a b : Int} (a0 : 0 ≤ a) (a1 : a < z) (b0 : 0 ≤ b) (b1 : b < z) : impl_indifferent_1.f a b t z = some (op z t a b) := by
  have h := opR z1 z4 hl a0 a1 b0 b1
  unfold impl_indifferent_1.f
  rw [if_pos h.1, if_pos h.2]
  rfl
def comm (z : Int) (t : List Int) (a b : Int) : Bool := decide (op z t a b = op z t b a)
def assoc (z : Int) (t : List Int) (a b c : Int) : Bool := decide (op z t (op z t a b) c = op z t a (op z t b c))
def indB (z : Nat) (t : List Int) : Bool := allF (fun a => allF (fun b => comm z t a b && allF (fun c => assoc z t a b c) z 0) z 0) z 0
theorem implInd2 {z : Nat} (z1 : 1 ≤ z) (z4 : z ≤ 4) {t : List Int} (hl : (t.length : Int) = z * z) (hb : bd (wrap64 ((z : Int) - 1)) t t.length 0 = true) (a b : Nat) (ha : a < z) (hB : b < z) (R : Bool) (hR : Ev (fun k => impl_indifferent.l1 k a z a z ((b + 1 : Nat) : Int) z t) R) : ∀ d c : Nat, c + d = z → Ev (fun k => impl_indifferent.l2 k a b z a z b z c z t) (allF (fun c => comm z t a b && assoc z t a b c) d c && R) := by
  have hm : maxLen = 9223372036854775807 := rfl
  intro d
  induction d with
  | zero =>
    intro c hc
    refine Ev.step (fun k => by simp only [impl_indifferent.l2]; rfl) (Ev.ite_neg (by omega) ?_)
    rw [wrap_nat (by omega), allF, Bool.true_and]
    exact hR
  | succ d ih =>
    intro c hc
    have v1 := opV z1 z4 hl hb (a := (a : Int)) (b := (b : Int)) (by omega) (by omega) (by omega) (by omega)
    have v2 := opV z1 z4 hl hb (a := (b : Int)) (b := (c : Int)) (by omega) (by omega) (by omega) (by omega)
    have o1 := implOp z1 z4 hl (a := (a : Int)) (b := (b : Int)) (by omega) (by omega) (by omega) (by omega)
    have o2 := implOp z1 z4 hl (a := (b : Int)) (b := (a : Int)) (by omega) (by omega) (by omega) (by omega)
    have o3 := implOp z1 z4 hl (a := op z t a b) (b := (c : Int)) v1.1 v1.2 (by omega) (by omega)
    have o4 := implOp z1 z4 hl (a := (b : Int)) (b := (c : Int)) (by omega) (by omega) (by omega) (by omega)
    have o5 := implOp z1 z4 hl (a := (a : Int)) (b := op z t b c) (by omega) (by omega) v2.1 v2.2
    refine Ev.step (fun k => by simp only [impl_indifferent.l2]; rfl) (Ev.ite_pos (by omega) (Ev.bind (Ev.cst o1) (Ev.bind (Ev.cst o2) ?_)))
    rw [allF]
    by_cases e : op z t a b = op z t b a
    · refine Ev.ite_pos e (Ev.bind (Ev.cst o1) (Ev.bind (Ev.cst o3) (Ev.bind (Ev.cst o4) (Ev.bind (Ev.cst o5) ?_))))
      by_cases e2 : op z t (op z t a b) c = op z t a (op z t b c)
      · refine Ev.ite_pos e2 ?_
        rw [wrap_nat (by omega)]
        refine Ev.val (ih (c + 1) (by omega)) ?_
        have c1 : comm z t a b = true := decide_eq_true e
        have c2 : assoc z t a b c = true := decide_eq_true e2
        rw [c1, c2]
        rfl
      · have c2 : assoc z t a b c = false := decide_eq_false e2
        exact Ev.ite_neg e2 (Ev.val Ev.some (by rw [c2]; simp))
    · have c1 : comm z t a b = false := decide_eq_false e
      exact Ev.ite_neg e (Ev.val Ev.some (by rw [c1]; simp))
theorem implInd1 {z : Nat} (z1 : 1 ≤ z) (z4 : z ≤ 4) {t : List Int} (hl : (t.length : Int) = z * z) (hb : bd (wrap64 ((z : Int) - 1)) t t.length 0 = true) (a : Nat) (ha : a < z) (R : Bool) (hR : Ev (fun k => impl_indifferent.l0 k z ((a + 1 : Nat) : Int) z t) R) : ∀ d b : Nat, b + d = z → Ev (fun k => impl_indifferent.l1 k a z a z b z t) (allF (fun b => comm z t a b && allF (fun c => assoc z t a b c) z 0) d b && R) := by
  have hm : maxLen = 9223372036854775807 := rfl
  intro d
  induction d with
  | zero =>
    intro b hd
    refine Ev.step (fun k => by simp only [impl_indifferent.l1]; rfl) (Ev.ite_neg (by omega) ?_)
    rw [wrap_nat (by omega), allF, Bool.true_and]
    exact hR
  | succ d ih =>
    intro b hd
    refine Ev.step (fun k => by simp only [impl_indifferent.l1]; rfl) (Ev.ite_pos (by omega) ?_)
    refine Ev.val (implInd2 z1 z4 hl hb a b ha (by omega) _ (ih (b + 1) (by omega)) z 0 (by omega)) ?_
    obtain ⟨y, rfl⟩ : ∃ y, z = y + 1 := ⟨z - 1, by omega⟩
    rw [allF_and]
    show _ = (((comm ((y + 1 : Nat) : Int) t a b && allF (fun c => assoc ((y + 1 : Nat) : Int) t a b c) (y + 1) 0) && _) && R)
    rw [Bool.and_assoc, Bool.and_assoc, Bool.and_assoc]
theorem implInd0 {z : Nat} (z1 : 1 ≤ z) (z4 : z ≤ 4) {t : List Int} (hl : (t.length : Int) = z * z) (hb : bd (wrap64 ((z : Int) - 1)) t t.length 0 = true) : ∀ d a : Nat, a + d = z → Ev (fun k => impl_indifferent.l0 k z a z t) (allF (fun a => allF (fun b => comm z t a b && allF (fun c => assoc z t a b c) z 0) z 0) d a) := by
  intro d
  induction d with
  | zero =>
    intro a hd
    exact Ev.step (fun k => by simp only [impl_indifferent.l0]; rfl) (Ev.ite_neg (by omega) Ev.some)
  | succ d ih =>
    intro a hd
    refine Ev.step (fun k => by simp only [impl_indifferent.l0]; rfl) (Ev.ite_pos (by omega) ?_)
    exact implInd1 z1 z4 hl hb a (by omega) _ (ih (a + 1) (by omega)) z 0 (by omega)
theorem implInd_ev {z : Nat} (z1 : 1 ≤ z) (z4 : z ≤ 4) {t : List Int} (hl : (t.length : Int) = z * z) (hb : bd (wrap64 ((z : Int) - 1)) t t.length 0 = true) : Ev (fun k => impl_indifferent.f k z t) (indB z t) := by
  unfold impl_indifferent.f
  exact implInd0 z1 z4 hl hb z 0 (by omega)
def rowOk (z : Nat) (x : I_Sym) (t : List Int) : Bool := decide ((t.length : Int) = pw z x.f1) && (bd (wrap64 ((z : Int) - 1)) t t.length 0 && (!x.f2 || indB z t))
def wo (z : Nat) (s : List I_Sym) (T : List (List Int)) : Nat → Nat → Bool
  | 0, _ => true
  | d + 1, n => if rowOk z (rd_I_Sym s (n : Int)) (rd_Ls_i64 T (n : Int)) = true then wo z s T d (n + 1) else false
def worldOk (s : List I_Sym) (z : Int) (T : List (List Int)) : Bool := sigOk s && (inR z 1 4 && (decide (T.length = s.length) && wo z.toNat s T s.length 0))
theorem pw2 {z : Nat} {x : Int} (h : x = 2) : pw z x = z * z := by subst h; rfl
theorem implWorld_l {z : Nat} (z1 : 1 ≤ z) (z4 : z ≤ 4) (s : List I_Sym) (T : List (List Int)) (hs : sigOk s = true) (hl : s.length ≤ maxLen) (hT : T.length = s.length) (hn : ∀ x ∈ T, x.length ≤ maxLen) : ∀ d n : Nat, n + d = s.length → Ev (fun k => impl_WorldOk.l0 k s (s.length : Int) (n : Int) z T) (wo z s T d n) := by
  intro d
  induction d with
  | zero =>
    intro n hd
    exact Ev.step (fun k => by simp only [impl_WorldOk.l0]; rfl) (Ev.ite_neg (by omega) Ev.some)
  | succ d ih =>
    intro n hd
    have hx := sig_at hs (n := n) (by omega)
    have ht : (rd_Ls_i64 T (n : Int)).length ≤ maxLen := hn _ (getD_mem T [] n (by omega))
    refine Ev.step (fun k => by simp only [impl_WorldOk.l0]; rfl) (Ev.ite_pos (by omega) (Ev.ite_pos (by omega) (Ev.ite_pos (by omega) (Ev.ite_pos (by omega) (Ev.bind (places_ev z1 z4 _ hx.1.1 hx.1.2) ?_)))))
    rw [wrap_nat (by omega), wo, rowOk]
    have ih := ih (n + 1) (by omega)
    by_cases h1 : ((rd_Ls_i64 T (n : Int)).length : Int) = pw z (rd_I_Sym s (n : Int)).f1
    · refine Ev.ite_pos h1 (Ev.bind (contains_ev _ _ _ ht) ?_)
      by_cases h2 : bd (wrap64 ((z : Int) - 1)) (rd_Ls_i64 T (n : Int)) (rd_Ls_i64 T (n : Int)).length 0 = true
      · refine Ev.ite_neg (by rw [h2]; decide) ?_
        by_cases h3 : (rd_I_Sym s (n : Int)).f2 = true
        · have hl2 := h1
          rw [pw2 (hx.2 h3)] at hl2
          refine Ev.ite_pos h3 (Ev.bind (implInd_ev z1 z4 hl2 h2) ?_)
          by_cases h4 : indB z (rd_Ls_i64 T (n : Int)) = true
          · exact Ev.ite_pos h4 (Ev.val ih (by simp [h1, h2, h3, h4]))
          · exact Ev.ite_neg h4 (Ev.val Ev.some (by simp [h1, h2, h3, h4]))
        · exact Ev.ite_neg h3 (Ev.val ih (by simp [h1, h2, h3]))
      · rw [Bool.not_eq_true] at h2
        exact Ev.ite_pos (by rw [h2]; decide) (Ev.val Ev.some (by simp [h2]))
    · exact Ev.ite_neg h1 (Ev.val Ev.some (by rw [decide_eq_false h1]; rfl))
theorem implWorldOk_ev (s : List I_Sym) (z : Int) (T : List (List Int)) (hl : s.length ≤ maxLen) (hn : ∀ x ∈ s, x.f0.size ≤ maxLen) (ht : ∀ x ∈ T, x.length ≤ maxLen) : Ev (fun k => impl_WorldOk.f k s z T) (worldOk s z T) := by
  unfold impl_WorldOk.f worldOk
  refine Ev.bind (implSigOk_ev s hl hn) ?_
  have hf : Ev (fun k => impl_WorldOk.j0 k s true z T) false := by
    refine Ev.step (fun k => by simp only [impl_WorldOk.j0]; rfl) ?_
    exact Ev.some
  by_cases h1 : sigOk s = true
  · refine Ev.ite_pos h1 (Ev.bind (Ev.cst (implInR _ _ _)) ?_)
    by_cases h2 : inR z 1 4 = true
    · refine Ev.ite_pos h2 (Ev.step (fun k => by simp only [impl_WorldOk.j0]; rfl) ?_)
      by_cases h3 : T.length = s.length
      · have h2' := h2
        simp [inR] at h2'
        obtain ⟨y, hy⟩ : ∃ y : Nat, z = (y : Int) := ⟨z.toNat, by omega⟩
        subst hy
        exact Ev.ite_neg (by simp [h3]) (Ev.val (implWorld_l (by omega) (by omega) s T h1 hl h3 ht s.length 0 (by omega)) (by simp [h1, h2, h3]))
      · exact Ev.ite_pos (by simp; omega) (Ev.val Ev.some (by simp [h3]))
    · exact Ev.ite_neg h2 (Ev.val hf (by simp [h2]))
  · exact Ev.ite_neg h1 (Ev.val hf (by simp [h1]))
theorem symS_len {l : List I_Sym} (h : el_SymS l ≤ maxLen) : l.length ≤ maxLen := by unfold el_SymS at h; omega
theorem names_cv {l : List L_Sym} (h : sz_SymS l ≤ 1048576) : ∀ x ∈ cv_SymS l, x.f0.size ≤ maxLen := by
  intro x hx
  have hm : maxLen = 9223372036854775807 := rfl
  obtain ⟨y, hy, rfl⟩ := List.mem_map.1 hx
  have := mem_sz_SymS hy
  simp only [sz_Sym] at this
  show y.f0.size ≤ _
  omega
theorem tabs_len {T : List (List Int)} (h : el_IntSS T ≤ maxLen) : ∀ x ∈ T, x.length ≤ maxLen := by
  intro x hx
  have := mem_size el_IntS hx
  have e : x.length ≤ el_IntS x := by unfold el_IntS; omega
  unfold el_IntSS at h
  omega
/-! #### the reference's WorldOk -/
theorem power_ev {z : Nat} (z1 : 1 ≤ z) (z4 : z ≤ 4) (a : Int) (h0 : 0 ≤ a) (h1 : a ≤ 3) : Ev (fun k => spec_l24Power.f k z a) (pw z a) := by
  have hz : z = 1 ∨ z = 2 ∨ z = 3 ∨ z = 4 := by omega
  have ha : a = 0 ∨ a = 1 ∨ a = 2 ∨ a = 3 := by omega
  refine Ev.of (fun k => spec_l24Power.mono z a k) (k := 8) ?_
  rcases hz with rfl | rfl | rfl | rfl <;> rcases ha with rfl | rfl | rfl | rfl <;> decide +kernel
theorem specOp {z : Nat} (z1 : 1 ≤ z) (z4 : z ≤ 4) {T : List (List Int)} {i : Nat} (hi : i < T.length) (hl : ((rd_Ls_i64 T (i : Int)).length : Int) = z * z) {a b : Int} (a0 : 0 ≤ a) (a1 : a < z) (b0 : 0 ≤ b) (b1 : b < z) : spec_l24Two.f z T (i : Int) a b = some (op z (rd_Ls_i64 T (i : Int)) a b) := by
  have h := opR z1 z4 hl a0 a1 b0 b1
  unfold spec_l24Two.f
  rw [if_pos (by omega), if_pos (by omega), if_pos h.1, if_pos h.2]
  rfl
theorem specInd2 {z : Nat} (z1 : 1 ≤ z) (z4 : z ≤ 4) {T : List (List Int)} {i : Nat} (hi : i < T.length) (hl : ((rd_Ls_i64 T (i : Int)).length : Int) = z * z) (hb : bd (wrap64 ((z : Int) - 1)) (rd_Ls_i64 T (i : Int)) (rd_Ls_i64 T (i : Int)).length 0 = true) (a b : Nat) (ha : a < z) (hB : b < z) (R : Bool) (hR : Ev (fun k => spec_l24Blind.l1 k (i : Int) a ((b + 1 : Nat) : Int) z T) R) : ∀ d c : Nat, c + d = z → Ev (fun k => spec_l24Blind.l2 k (i : Int) a b c z T) (allF (fun c => assoc z (rd_Ls_i64 T (i : Int)) a b c) d c && R) := by
  have hm : maxLen = 9223372036854775807 := rfl
  intro d
  induction d with
  | zero =>
    intro c hc
    refine Ev.step (fun k => by simp only [spec_l24Blind.l2]; rfl) (Ev.ite_neg (by omega) ?_)
    rw [wrap_nat (by omega), allF, Bool.true_and]
    exact hR
  | succ d ih =>
    intro c hc
    have v1 := opV z1 z4 hl hb (a := (a : Int)) (b := (b : Int)) (by omega) (by omega) (by omega) (by omega)
    have v2 := opV z1 z4 hl hb (a := (b : Int)) (b := (c : Int)) (by omega) (by omega) (by omega) (by omega)
    have o1 := specOp z1 z4 hi hl (a := (a : Int)) (b := (b : Int)) (by omega) (by omega) (by omega) (by omega)
    have o2 := specOp z1 z4 hi hl (a := (b : Int)) (b := (a : Int)) (by omega) (by omega) (by omega) (by omega)
    have o3 := specOp z1 z4 hi hl (a := op z (rd_Ls_i64 T (i : Int)) a b) (b := (c : Int)) v1.1 v1.2 (by omega) (by omega)
    have o4 := specOp z1 z4 hi hl (a := (b : Int)) (b := (c : Int)) (by omega) (by omega) (by omega) (by omega)
    have o5 := specOp z1 z4 hi hl (a := (a : Int)) (b := op z (rd_Ls_i64 T (i : Int)) b c) (by omega) (by omega) v2.1 v2.2
    refine Ev.step (fun k => by simp only [spec_l24Blind.l2]; rfl) (Ev.ite_pos (by omega) ?_)
    rw [allF]
    refine Ev.bind (Ev.cst o1) (Ev.bind (Ev.cst o3) (Ev.bind (Ev.cst o4) (Ev.bind (Ev.cst o5) ?_)))
    by_cases e2 : op z (rd_Ls_i64 T (i : Int)) (op z (rd_Ls_i64 T (i : Int)) a b) c = op z (rd_Ls_i64 T (i : Int)) a (op z (rd_Ls_i64 T (i : Int)) b c)
    · refine Ev.ite_pos e2 ?_
      rw [wrap_nat (by omega)]
      refine Ev.val (ih (c + 1) (by omega)) ?_
      have c2 : assoc z (rd_Ls_i64 T (i : Int)) a b c = true := decide_eq_true e2
      rw [c2]
      rfl
    · have c2 : assoc z (rd_Ls_i64 T (i : Int)) a b c = false := decide_eq_false e2
      exact Ev.ite_neg e2 (Ev.val Ev.some (by rw [c2]; simp))
theorem specInd1 {z : Nat} (z1 : 1 ≤ z) (z4 : z ≤ 4) {T : List (List Int)} {i : Nat} (hi : i < T.length) (hl : ((rd_Ls_i64 T (i : Int)).length : Int) = z * z) (hb : bd (wrap64 ((z : Int) - 1)) (rd_Ls_i64 T (i : Int)) (rd_Ls_i64 T (i : Int)).length 0 = true) (a : Nat) (ha : a < z) (R : Bool) (hR : Ev (fun k => spec_l24Blind.l0 k (i : Int) ((a + 1 : Nat) : Int) z T) R) : ∀ d b : Nat, b + d = z → Ev (fun k => spec_l24Blind.l1 k (i : Int) a b z T) (allF (fun b => comm z (rd_Ls_i64 T (i : Int)) a b && allF (fun c => assoc z (rd_Ls_i64 T (i : Int)) a b c) z 0) d b && R) := by
  have hm : maxLen = 9223372036854775807 := rfl
  intro d
  induction d with
  | zero =>
    intro b hd
    refine Ev.step (fun k => by simp only [spec_l24Blind.l1]; rfl) (Ev.ite_neg (by omega) ?_)
    rw [wrap_nat (by omega), allF, Bool.true_and]
    exact hR
  | succ d ih =>
    intro b hd
    refine Ev.step (fun k => by simp only [spec_l24Blind.l1]; rfl) (Ev.ite_pos (by omega) ?_)
    have o1 := specOp z1 z4 hi hl (a := (a : Int)) (b := (b : Int)) (by omega) (by omega) (by omega) (by omega)
    have o2 := specOp z1 z4 hi hl (a := (b : Int)) (b := (a : Int)) (by omega) (by omega) (by omega) (by omega)
    refine Ev.bind (Ev.cst o1) (Ev.bind (Ev.cst o2) ?_)
    rw [allF]
    by_cases e : op z (rd_Ls_i64 T (i : Int)) a b = op z (rd_Ls_i64 T (i : Int)) b a
    · refine Ev.ite_pos e (Ev.val (specInd2 z1 z4 hi hl hb a b ha (by omega) _ (ih (b + 1) (by omega)) z 0 (by omega)) ?_)
      have c1 : comm z (rd_Ls_i64 T (i : Int)) a b = true := decide_eq_true e
      rw [c1]
      simp [Bool.and_assoc]
    · have c1 : comm z (rd_Ls_i64 T (i : Int)) a b = false := decide_eq_false e
      exact Ev.ite_neg e (Ev.val Ev.some (by rw [c1]; simp))
theorem specInd0 {z : Nat} (z1 : 1 ≤ z) (z4 : z ≤ 4) {T : List (List Int)} {i : Nat} (hi : i < T.length) (hl : ((rd_Ls_i64 T (i : Int)).length : Int) = z * z) (hb : bd (wrap64 ((z : Int) - 1)) (rd_Ls_i64 T (i : Int)) (rd_Ls_i64 T (i : Int)).length 0 = true) : ∀ d a : Nat, a + d = z → Ev (fun k => spec_l24Blind.l0 k (i : Int) a z T) (allF (fun a => allF (fun b => comm z (rd_Ls_i64 T (i : Int)) a b && allF (fun c => assoc z (rd_Ls_i64 T (i : Int)) a b c) z 0) z 0) d a) := by
  intro d
  induction d with
  | zero =>
    intro a hd
    exact Ev.step (fun k => by simp only [spec_l24Blind.l0]; rfl) (Ev.ite_neg (by omega) Ev.some)
  | succ d ih =>
    intro a hd
    refine Ev.step (fun k => by simp only [spec_l24Blind.l0]; rfl) (Ev.ite_pos (by omega) ?_)
    have hm : maxLen = 9223372036854775807 := rfl
    have ih := ih (a + 1) (by omega)
    exact specInd1 z1 z4 hi hl hb a (by omega) _ ih z 0 (by omega)
theorem specInd_ev {z : Nat} (z1 : 1 ≤ z) (z4 : z ≤ 4) {T : List (List Int)} {i : Nat} (hi : i < T.length) (hl : ((rd_Ls_i64 T (i : Int)).length : Int) = z * z) (hb : bd (wrap64 ((z : Int) - 1)) (rd_Ls_i64 T (i : Int)) (rd_Ls_i64 T (i : Int)).length 0 = true) : Ev (fun k => spec_l24Blind.f k z T (i : Int)) (indB z (rd_Ls_i64 T (i : Int))) := by
  unfold spec_l24Blind.f
  exact specInd0 z1 z4 hi hl hb z 0 (by omega)
theorem specWorld_r {z : Nat} (s : List I_Sym) (T : List (List Int)) (hT : T.length = s.length) (n : Nat) (hn : n < s.length) (ht : (rd_Ls_i64 T (n : Int)).length ≤ maxLen) (R : Bool) (hR : bd (wrap64 ((z : Int) - 1)) (rd_Ls_i64 T (n : Int)) (rd_Ls_i64 T (n : Int)).length 0 = true → Ev (fun k => if (rd_I_Sym s (n : Int)).f2 = true then ((spec_l24Blind.f k z T (n : Int)).bind fun t157 => (if t157 = true then (spec_WorldOk.l0 k s (wrap64 ((n : Int) + 1)) z T) else (some false))) else (spec_WorldOk.l0 k s (wrap64 ((n : Int) + 1)) z T)) R) : ∀ d m : Nat, m + d = (rd_Ls_i64 T (n : Int)).length → (bd (wrap64 ((z : Int) - 1)) (rd_Ls_i64 T (n : Int)) (rd_Ls_i64 T (n : Int)).length 0 = bd (wrap64 ((z : Int) - 1)) (rd_Ls_i64 T (n : Int)) d m) → Ev (fun k => spec_WorldOk.l1 k s (n : Int) (m : Int) z T) (bd (wrap64 ((z : Int) - 1)) (rd_Ls_i64 T (n : Int)) d m && R) := by
  intro d
  induction d with
  | zero =>
    intro m hd hb
    refine Ev.step (fun k => by simp only [spec_WorldOk.l1]; rfl) (Ev.ite_pos (by omega) (Ev.ite_pos (by omega) (Ev.ite_neg (by omega) (Ev.ite_pos (by omega) (Ev.val (hR (by rw [hb]; rfl)) (by simp [bd]))))))
  | succ d ih =>
    intro m hd hb
    refine Ev.step (fun k => by simp only [spec_WorldOk.l1]; rfl) (Ev.ite_pos (by omega) (Ev.ite_pos (by omega) (Ev.ite_pos (by omega) (Ev.ite_pos (by omega) (Ev.bind (Ev.cst (specInR _ _ _)) ?_)))))
    rw [wrap_nat (by omega), bd]
    rw [bd] at hb
    by_cases e : inR (rd (rd_Ls_i64 T (n : Int)) (m : Int)) 0 (wrap64 ((z : Int) - 1)) = true
    · rw [if_pos e] at hb
      rw [if_pos e]
      exact Ev.ite_pos e (ih (m + 1) (by omega) hb)
    · rw [if_neg e]
      exact Ev.ite_neg e Ev.some
theorem specWorld_l {z : Nat} (z1 : 1 ≤ z) (z4 : z ≤ 4) (s : List I_Sym) (T : List (List Int)) (hs : sigOk s = true) (hl : s.length ≤ maxLen) (hT : T.length = s.length) (hn : ∀ x ∈ T, x.length ≤ maxLen) : ∀ d n : Nat, n + d = s.length → Ev (fun k => spec_WorldOk.l0 k s (n : Int) z T) (wo z s T d n) := by
  intro d
  induction d with
  | zero =>
    intro n hd
    exact Ev.step (fun k => by simp only [spec_WorldOk.l0]; rfl) (Ev.ite_neg (by omega) Ev.some)
  | succ d ih =>
    intro n hd
    have hx := sig_at hs (n := n) (by omega)
    have ht : (rd_Ls_i64 T (n : Int)).length ≤ maxLen := hn _ (getD_mem T [] n (by omega))
    refine Ev.step (fun k => by simp only [spec_WorldOk.l0]; rfl) (Ev.ite_pos (by omega) (Ev.ite_pos (by omega) (Ev.ite_pos (by omega) (Ev.bind (power_ev z1 z4 _ hx.1.1 hx.1.2) ?_))))
    rw [wo, rowOk]
    have ih := ih (n + 1) (by omega)
    rw [← wrap_nat (by omega)] at ih
    by_cases h1 : ((rd_Ls_i64 T (n : Int)).length : Int) = pw z (rd_I_Sym s (n : Int)).f1
    · refine Ev.ite_pos h1 ?_
      refine Ev.val (specWorld_r s T hT n (by omega) ht (if (rd_I_Sym s (n : Int)).f2 = true then (if indB z (rd_Ls_i64 T (n : Int)) = true then wo z s T d (n + 1) else false) else wo z s T d (n + 1)) (fun h2 => ?_) (rd_Ls_i64 T (n : Int)).length 0 (by omega) rfl) ?_
      · by_cases h3 : (rd_I_Sym s (n : Int)).f2 = true
        · have hl2 := h1
          rw [pw2 (hx.2 h3)] at hl2
          rw [if_pos h3]
          refine Ev.ite_pos h3 (Ev.bind (specInd_ev z1 z4 (by omega) hl2 h2) ?_)
          by_cases h4 : indB z (rd_Ls_i64 T (n : Int)) = true
          · rw [if_pos h4]; exact Ev.ite_pos h4 ih
          · rw [if_neg h4]; exact Ev.ite_neg h4 Ev.some
        · rw [if_neg h3]; exact Ev.ite_neg h3 ih
      · by_cases h2 : bd (wrap64 ((z : Int) - 1)) (rd_Ls_i64 T (n : Int)) (rd_Ls_i64 T (n : Int)).length 0 = true
        · by_cases h3 : (rd_I_Sym s (n : Int)).f2 = true
          · by_cases h4 : indB z (rd_Ls_i64 T (n : Int)) = true
            · simp [h1, h2, h3, h4]
            · simp [h1, h2, h3, h4]
          · simp [h1, h2, h3]
        · simp [h2]
    · exact Ev.ite_neg h1 (Ev.val Ev.some (by rw [decide_eq_false h1]; rfl))
theorem specWorldOk_ev (s : List I_Sym) (z : Int) (T : List (List Int)) (hl : s.length ≤ maxLen) (hn : ∀ x ∈ s, x.f0.size ≤ maxLen) (ht : ∀ x ∈ T, x.length ≤ maxLen) : Ev (fun k => spec_WorldOk.f k s z T) (worldOk s z T) := by
  unfold spec_WorldOk.f worldOk
  refine Ev.bind (specSigOk_ev s hl hn) ?_
  have hf : Ev (fun k => spec_WorldOk.j0 k s true z T) false := by
    refine Ev.step (fun k => by simp only [spec_WorldOk.j0]; rfl) ?_
    exact Ev.some
  by_cases h1 : sigOk s = true
  · refine Ev.ite_pos h1 (Ev.bind (Ev.cst (specInR _ _ _)) ?_)
    by_cases h2 : inR z 1 4 = true
    · refine Ev.ite_pos h2 (Ev.step (fun k => by simp only [spec_WorldOk.j0]; rfl) ?_)
      by_cases h3 : T.length = s.length
      · have h2' := h2
        simp [inR] at h2'
        obtain ⟨y, hy⟩ : ∃ y : Nat, z = (y : Int) := ⟨z.toNat, by omega⟩
        subst hy
        exact Ev.ite_neg (by simp [h3]) (Ev.val (specWorld_l (by omega) (by omega) s T h1 hl h3 ht s.length 0 (by omega)) (by simp [h1, h2, h3]))
      · exact Ev.ite_pos (by simp; omega) (Ev.val Ev.some (by simp [h3]))
    · exact Ev.ite_neg h2 (Ev.val hf (by simp [h2]))
  · exact Ev.ite_neg h1 (Ev.val hf (by simp [h1]))
theorem FnExactWorldOk : laws_FnExactWorldOk.Pure := by
  intro s w_0 w_1 hs hw_0 hw_1
  refine Ev.rounds (g := fun k => laws_FnExactWorldOk.f k s w_0 w_1) ?_
  unfold laws_FnExactWorldOk.f
  have hm : maxLen = 9223372036854775807 := rfl
  have W2 : Wf_L_World (⟨w_0, w_1⟩ : L_World) := ⟨hw_0, hw_1⟩
  refine law_sz (by omega) (by omega) (szSymS_ev s hs 1048576 (by omega) (by omega)) fun q1 a1 b1 S1 => ?_
  refine Ev.nxt ?_
  simp only [laws_FnExactWorldOk.j0]
  refine law_sz a1 b1 (szWorld_ev (⟨w_0, w_1⟩ : L_World) W2 q1 a1 b1) fun q2 a2 b2 S2 => ?_
  have E1 : el_SymS (cv_SymS s) ≤ maxLen := by have := el_cv_SymS s; omega
  have E2 : el_World (cv_World (⟨w_0, w_1⟩ : L_World)) ≤ maxLen := by have := el_cv_World (⟨w_0, w_1⟩ : L_World); omega
  refine Ev.nxt ?_
  simp only [laws_FnExactWorldOk.j1]
  refine Ev.bind (toSymS_ev s S1) ?_
  refine Ev.bind (toWorld_ev (⟨w_0, w_1⟩ : L_World) S2) ?_
  refine Ev.bind (specWorldOk_ev (cv_SymS s) (cv_World (⟨w_0, w_1⟩ : L_World)).f0 (cv_World (⟨w_0, w_1⟩ : L_World)).f1 (symS_len E1) (names_cv S1) (tabs_len E2)) ?_
  refine Ev.bind (toSymS_ev s S1) ?_
  refine Ev.bind (toWorld_ev (⟨w_0, w_1⟩ : L_World) S2) ?_
  refine Ev.bind (implWorldOk_ev (cv_SymS s) (cv_World (⟨w_0, w_1⟩ : L_World)).f0 (cv_World (⟨w_0, w_1⟩ : L_World)).f1 (symS_len E1) (names_cv S1) (tabs_len E2)) ?_
  refine Ev.ite_neg (by simp) ?_
  refine Ev.nxt ?_
  simp only [laws_FnExactWorldOk.j2]
  refine Ev.bind (toSymS_ev s S1) ?_
  refine Ev.bind (eqSymS_ev (cv_SymS s) E1) (Ev.ite_pos rfl ?_)
  refine Ev.nxt ?_
  simp only [laws_FnExactWorldOk.j3]
  refine Ev.bind (toWorld_ev (⟨w_0, w_1⟩ : L_World) S2) ?_
  refine Ev.bind (eqWorld_ev (cv_World (⟨w_0, w_1⟩ : L_World)) E2) (Ev.ite_pos rfl ?_)
  exact Ev.some
end Go.Proofs.Ytcboagkbcoihjaa.Pure
