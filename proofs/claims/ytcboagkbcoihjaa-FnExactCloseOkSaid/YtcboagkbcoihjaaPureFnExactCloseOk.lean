/- The program's CloseOk returns what the reference's returns, for all arguments. -/
import Derived.Test.YtcboagkbcoihjaaXCloseOkh
namespace Go.Proofs.Ytcboagkbcoihjaa.Pure
open Go.RowKit Go.Proofs.Ytcboagkbcoihjaa.XCloseOk Go.Proofs.Ytcboagkbcoihjaa.XPure Go.Proofs.YtcboagkbcoihjaaW.PrintWords Go.Proofs.YtcboagkbcoihjaaW.PrintLast Go.Proofs.YtcboagkbcoihjaaW.PrintMore
set_option linter.unusedVariables false
set_option linter.unusedSimpArgs false
/-! #### signatures: names, which function has a name, what is right (under way: not built yet) -/
def small (c : Int) : Bool := decide (97 ≤ c) && decide (c ≤ 122)
def digit (c : Int) : Bool := decide (48 ≤ c) && decide (c ≤ 57)
def inR (a b c : Int) : Bool := decide (b ≤ a) && decide (a ≤ c)
theorem specInR (a b c : Int) : spec_l1In.f a b c = some (inR a b c) := by
  unfold spec_l1In.f inR
  by_cases h : a ≥ b
  · rw [if_pos h]; simp [show b ≤ a from h]
  · rw [if_neg h]; simp [show ¬ b ≤ a from h]
theorem implInR (a b c : Int) : impl_from.f a b c = some (inR a b c) := by
  unfold impl_from.f inR
  by_cases h : a ≥ b
  · rw [if_pos h]; simp [show b ≤ a from h]
  · rw [if_neg h]; simp [show ¬ b ≤ a from h]
theorem implSmall (a : Int) : impl_isSmall.f a = some (small a) := by
  unfold impl_isSmall.f small
  by_cases h : a ≥ 97
  · rw [if_pos h]; simp [show 97 ≤ a from h]
  · rw [if_neg h]; simp [show ¬ 97 ≤ a from h]
theorem implDigit (a : Int) : impl_isDigit.f a = some (digit a) := by
  unfold impl_isDigit.f digit
  by_cases h : a ≥ 48
  · rw [if_pos h]; simp [show 48 ≤ a from h]
  · rw [if_neg h]; simp [show ¬ 48 ≤ a from h]
/-- from place n on (d places): each a small letter, or a digit that is not the first -/
def nmS (s : ByteArray) : Nat → Nat → Bool
  | 0, _ => inR (s.size : Int) 1 8
  | d + 1, n => if small (bt s (n : Int)) = true ∨ (0 < n ∧ digit (bt s (n : Int)) = true) then nmS s d (n + 1) else false
theorem specName_l (s : ByteArray) (hs : s.size ≤ maxLen) : ∀ d n : Nat, n + d = s.size → Ev (fun k => spec_NameOk.l0 k s (n : Int)) (nmS s d n) := by
  intro d
  induction d with
  | zero =>
    intro n hn
    exact Ev.step (fun k => by simp only [spec_NameOk.l0]; rfl) (Ev.ite_neg (by omega) (Ev.bind (Ev.cst (specInR _ _ _)) Ev.some))
  | succ d ih =>
    intro n hn
    refine Ev.step (fun k => by simp only [spec_NameOk.l0]; rfl) (Ev.ite_pos (by omega) (Ev.ite_pos (by omega) ?_))
    rw [wrap_nat (by omega), nmS]
    have ih := ih (n + 1) (by omega)
    have e : (small (bt s (n : Int)) = true) ↔ (bt s (n : Int) ≥ 97 ∧ bt s (n : Int) ≤ 122) := by simp [small]
    have e2 : (digit (bt s (n : Int)) = true) ↔ (bt s (n : Int) ≥ 48 ∧ bt s (n : Int) ≤ 57) := by simp [digit]
    simp only [e, e2]
    by_cases h1 : bt s (n : Int) ≥ 97
    · refine Ev.ite_pos h1 ?_
      by_cases h2 : bt s (n : Int) ≤ 122
      · rw [if_pos (Or.inl ⟨h1, h2⟩)]
        exact Ev.ite_pos h2 ih
      · refine Ev.ite_neg h2 ?_
        rw [if_neg (by omega)]
        by_cases h3 : (n : Int) > 0
        · exact Ev.ite_pos h3 (Ev.ite_pos (by omega) (Ev.ite_neg (by omega) Ev.some))
        · exact Ev.ite_neg h3 Ev.some
    · refine Ev.ite_neg h1 ?_
      by_cases h3 : (n : Int) > 0
      · refine Ev.ite_pos h3 ?_
        by_cases h4 : bt s (n : Int) ≥ 48
        · refine Ev.ite_pos h4 ?_
          by_cases h5 : bt s (n : Int) ≤ 57
          · rw [if_pos (Or.inr ⟨by omega, h4, h5⟩)]
            exact Ev.ite_pos h5 ih
          · rw [if_neg (by omega)]
            exact Ev.ite_neg h5 Ev.some
        · rw [if_neg (by omega)]
          exact Ev.ite_neg h4 Ev.some
      · rw [if_neg (by omega)]
        exact Ev.ite_neg h3 Ev.some
def al (s : ByteArray) : Nat → Nat → Bool
  | 0, _ => true
  | d + 1, n => if small (bt s (n : Int)) = true ∨ digit (bt s (n : Int)) = true then al s d (n + 1) else false
theorem implName_l (s : ByteArray) (hs : s.size ≤ maxLen) : ∀ d n : Nat, n + d = s.size → Ev (fun k => impl_NameOk.l0 k s (s.size : Int) (n : Int)) (al s d n && (inR (s.size : Int) 1 8 && small (bt s 0))) := by
  intro d
  induction d with
  | zero =>
    intro n hn
    refine Ev.step (fun k => by simp only [impl_NameOk.l0]; rfl) (Ev.ite_neg (by omega) (Ev.bind (Ev.cst (implInR _ _ _)) ?_))
    by_cases h : inR (s.size : Int) 1 8 = true
    · refine Ev.ite_pos h ?_
      have h' := h
      simp [inR] at h'
      refine Ev.ite_pos (by omega) (Ev.bind (Ev.cst (implSmall _)) (Ev.val Ev.some ?_))
      simp [al, h]
    · exact Ev.ite_neg h (Ev.val Ev.some (by simp [Bool.eq_false_iff.2 h]))
  | succ d ih =>
    intro n hn
    refine Ev.step (fun k => by simp only [impl_NameOk.l0]; rfl) (Ev.ite_pos (by omega) (Ev.ite_pos (by omega) (Ev.ite_pos (by omega) (Ev.bind (Ev.cst (implSmall _)) ?_))))
    rw [wrap_nat (by omega), al]
    have ih := ih (n + 1) (by omega)
    by_cases h1 : small (bt s (n : Int)) = true
    · rw [if_pos (Or.inl h1)]
      exact Ev.ite_pos h1 ih
    · refine Ev.ite_neg h1 (Ev.bind (Ev.cst (implDigit _)) ?_)
      by_cases h2 : digit (bt s (n : Int)) = true
      · rw [if_pos (Or.inr h2)]
        exact Ev.ite_pos h2 ih
      · rw [if_neg (fun e => e.elim h1 h2)]
        exact Ev.ite_neg h2 (Ev.val Ev.some (by simp))
theorem nmS_al (s : ByteArray) : ∀ d n : Nat, 0 < n → nmS s d n = (al s d n && inR (s.size : Int) 1 8) := by
  intro d
  induction d with
  | zero => intro n h; simp [nmS, al]
  | succ d ih =>
    intro n h
    rw [nmS, al, ih (n + 1) (by omega)]
    by_cases h1 : small (bt s (n : Int)) = true <;> by_cases h2 : digit (bt s (n : Int)) = true <;> simp [h, h1, h2]
def nameOk (s : ByteArray) : Bool := nmS s s.size 0
theorem nameOk_al (s : ByteArray) : nameOk s = (al s s.size 0 && (inR (s.size : Int) 1 8 && small (bt s 0))) := by
  unfold nameOk
  generalize hd : s.size = d
  cases d with
  | zero => simp [nmS, hd, inR]
  | succ d =>
    rw [nmS, al, nmS_al s d (0 + 1) (by omega), hd]
    have e : bt s ((0 : Nat) : Int) = bt s 0 := rfl
    rw [e]
    by_cases h1 : small (bt s 0) = true <;> by_cases h2 : digit (bt s 0) = true <;> simp [h1, h2]
theorem specName_ev (s : ByteArray) (hs : s.size ≤ maxLen) : Ev (fun k => spec_NameOk.f k s) (nameOk s) := by
  unfold spec_NameOk.f
  exact specName_l s hs s.size 0 (by omega)
theorem implName_ev (s : ByteArray) (hs : s.size ≤ maxLen) : Ev (fun k => impl_NameOk.f k s) (nameOk s) := by
  unfold impl_NameOk.f
  rw [nameOk_al]
  exact implName_l s hs s.size 0 (by omega)
def symL (l : List I_Sym) (m : ByteArray) : Nat → Nat → Int
  | 0, _ => -1
  | d + 1, n => if (rd_I_Sym l (n : Int)).f0.toList = m.toList then (n : Int) else symL l m d (n + 1)
def symOf (l : List I_Sym) (m : ByteArray) : Int := symL l m l.length 0
theorem specSymOf_l (l : List I_Sym) (m : ByteArray) (hl : l.length ≤ maxLen) : ∀ d n : Nat, n + d = l.length → Ev (fun k => spec_SymOf.l0 k l m (n : Int)) (symL l m d n) := by
  intro d
  induction d with
  | zero =>
    intro n hn
    exact Ev.step (fun k => by simp only [spec_SymOf.l0]; rfl) (Ev.ite_neg (by omega) Ev.some)
  | succ d ih =>
    intro n hn
    refine Ev.step (fun k => by simp only [spec_SymOf.l0]; rfl) (Ev.ite_pos (by omega) (Ev.ite_pos (by omega) ?_))
    rw [wrap_nat (by omega), symL]
    by_cases h : (rd_I_Sym l (n : Int)).f0.toList = m.toList
    · rw [if_pos h]; exact Ev.ite_pos h Ev.some
    · rw [if_neg h]; exact Ev.ite_neg h (ih _ (by omega))
theorem implSymOf_l (l : List I_Sym) (m : ByteArray) (hl : l.length ≤ maxLen) : ∀ d n : Nat, n + d = l.length → Ev (fun k => impl_Sym__with_impl_SymOf_1.l0 k l (l.length : Int) (n : Int) m) (symL l m d n) := by
  intro d
  induction d with
  | zero =>
    intro n hn
    exact Ev.step (fun k => by simp only [impl_Sym__with_impl_SymOf_1.l0]; rfl) (Ev.ite_neg (by omega) Ev.some)
  | succ d ih =>
    intro n hn
    refine Ev.step (fun k => by simp only [impl_Sym__with_impl_SymOf_1.l0]; rfl) (Ev.ite_pos (by omega) (Ev.ite_pos (by omega) (Ev.ite_pos (by omega) (Ev.bind Ev.some ?_))))
    rw [wrap_nat (by omega), symL]
    by_cases h : (rd_I_Sym l (n : Int)).f0.toList = m.toList
    · rw [if_pos h]; exact Ev.ite_pos (by simp [h]) Ev.some
    · rw [if_neg h]; exact Ev.ite_neg (by simp [h]) (ih _ (by omega))
theorem specSymOf_ev (l : List I_Sym) (m : ByteArray) (hl : l.length ≤ maxLen) : Ev (fun k => spec_SymOf.f k l m) (symOf l m) := by
  unfold spec_SymOf.f
  exact specSymOf_l l m hl l.length 0 (by omega)
theorem implSymOf_ev (l : List I_Sym) (m : ByteArray) (hl : l.length ≤ maxLen) : Ev (fun k => impl_SymOf.f k l m) (symOf l m) := by
  unfold impl_SymOf.f impl_Sym__with_impl_SymOf_1.f
  exact Ev.bind (implSymOf_l l m hl l.length 0 (by omega)) Ev.some
def okAt (l : List I_Sym) (n : Nat) : Bool := nameOk (rd_I_Sym l (n : Int)).f0 && (decide (symOf l (rd_I_Sym l (n : Int)).f0 = (n : Int)) && (inR (rd_I_Sym l (n : Int)).f1 0 3 && (!(rd_I_Sym l (n : Int)).f2 || decide ((rd_I_Sym l (n : Int)).f1 = 2))))
def sgEnd (l : List I_Sym) : Bool := inR (l.length : Int) 1 8 && ((rd_I_Sym l 0).f0.toList == ([116, 116] : List UInt8) && ((rd_I_Sym l 0).f1 == 0 && !(rd_I_Sym l 0).f2))
def sgL (l : List I_Sym) : Nat → Nat → Bool
  | 0, _ => sgEnd l
  | d + 1, n => if okAt l n = true then sgL l d (n + 1) else false
def sigOk (l : List I_Sym) : Bool := sgL l l.length 0
theorem specSig_l (l : List I_Sym) (hl : l.length ≤ maxLen) (hn : ∀ x ∈ l, x.f0.size ≤ maxLen) : ∀ d n : Nat, n + d = l.length → Ev (fun k => spec_SigOk.l0 k l (n : Int)) (sgL l d n) := by
  intro d
  induction d with
  | zero =>
    intro n hn
    refine Ev.step (fun k => by simp only [spec_SigOk.l0]; rfl) (Ev.ite_neg (by omega) (Ev.bind (Ev.cst (specInR _ _ _)) ?_))
    rw [sgL, sgEnd]
    by_cases h : inR (l.length : Int) 1 8 = true
    · have h' := h
      simp [inR] at h'
      rw [h, Bool.true_and]
      exact Ev.ite_pos rfl (Ev.ite_pos (by omega) Ev.some)
    · exact Ev.ite_neg h (Ev.val Ev.some (by simp [Bool.eq_false_iff.2 h]))
  | succ d ih =>
    intro n hd
    have hx := hn _ (getD_mem l zI_Sym n (by omega))
    refine Ev.step (fun k => by simp only [spec_SigOk.l0]; rfl) (Ev.ite_pos (by omega) (Ev.ite_pos (by omega) (Ev.bind (specName_ev _ hx) ?_)))
    rw [wrap_nat (by omega), sgL, okAt]
    have ih := ih (n + 1) (by omega)
    by_cases h1 : nameOk (rd_I_Sym l (n : Int)).f0 = true
    · refine Ev.ite_pos h1 (Ev.bind (specSymOf_ev _ _ hl) ?_)
      by_cases h2 : symOf l (rd_I_Sym l (n : Int)).f0 = (n : Int)
      · refine Ev.ite_pos h2 (Ev.bind (Ev.cst (specInR _ _ _)) ?_)
        by_cases h3 : inR (rd_I_Sym l (n : Int)).f1 0 3 = true
        · refine Ev.ite_pos h3 ?_
          by_cases h4 : (rd_I_Sym l (n : Int)).f2 = true
          · refine Ev.ite_pos h4 ?_
            by_cases h5 : (rd_I_Sym l (n : Int)).f1 = 2
            · exact Ev.ite_pos h5 (Ev.val ih (by rw [h5] at h3; simp [h1, h2, h3, h4, h5]))
            · exact Ev.ite_neg h5 (Ev.val Ev.some (by simp [h1, h2, h3, h4, h5]))
          · exact Ev.ite_neg h4 (Ev.val ih (by simp [h1, h2, h3, h4]))
        · exact Ev.ite_neg h3 (Ev.val Ev.some (by simp [h3]))
      · exact Ev.ite_neg h2 (Ev.val Ev.some (by simp [h2]))
    · exact Ev.ite_neg h1 (Ev.val Ev.some (by simp [h1]))
theorem specSigOk_ev (l : List I_Sym) (hl : l.length ≤ maxLen) (hn : ∀ x ∈ l, x.f0.size ≤ maxLen) : Ev (fun k => spec_SigOk.f k l) (sigOk l) := by
  unfold spec_SigOk.f
  exact specSig_l l hl hn l.length 0 (by omega)
theorem okAt_end {l : List I_Sym} (h : okAt l 0 = true) : ((rd_I_Sym l 0).f1 == 0) = ((rd_I_Sym l 0).f1 == 0 && !(rd_I_Sym l 0).f2) := by
  have e : rd_I_Sym l ((0 : Nat) : Int) = rd_I_Sym l 0 := rfl
  unfold okAt at h
  rw [e] at h
  simp only [Bool.and_eq_true, Bool.or_eq_true, Bool.not_eq_true', decide_eq_true_eq] at h
  rcases h.2.2.2 with h2 | h2
  · rw [h2]; simp
  · rw [h2]; rfl
theorem implSig_l (l : List I_Sym) (hl : l.length ≤ maxLen) (hn : ∀ x ∈ l, x.f0.size ≤ maxLen) : ∀ d n : Nat, n + d = l.length → (0 < n → okAt l 0 = true) → Ev (fun k => impl_SigOk.l0 k l l (l.length : Int) (n : Int)) (sgL l d n) := by
  intro d
  induction d with
  | zero =>
    intro n hn h0
    refine Ev.step (fun k => by simp only [impl_SigOk.l0]; rfl) (Ev.ite_neg (by omega) (Ev.bind (Ev.cst (implInR _ _ _)) ?_))
    rw [sgL, sgEnd]
    by_cases h : inR (l.length : Int) 1 8 = true
    · have h' := h
      simp [inR] at h'
      rw [h, Bool.true_and, ← okAt_end (h0 (by omega))]
      refine Ev.ite_pos rfl (Ev.ite_pos (by omega) ?_)
      by_cases ht : (rd_I_Sym l 0).f0.toList = ([116, 116] : List UInt8)
      · exact Ev.ite_pos ht (Ev.val Ev.some (by simp [ht]))
      · exact Ev.ite_neg ht (Ev.val Ev.some (by simp [ht]))
    · exact Ev.ite_neg h (Ev.val Ev.some (by simp [Bool.eq_false_iff.2 h]))
  | succ d ih =>
    intro n hd h0
    have hx := hn _ (getD_mem l zI_Sym n (by omega))
    refine Ev.step (fun k => by simp only [impl_SigOk.l0]; rfl) (Ev.ite_pos (by omega) (Ev.ite_pos (by omega) (Ev.ite_pos (by omega) (Ev.bind (implName_ev _ hx) ?_))))
    rw [wrap_nat (by omega), sgL]
    have ih : okAt l n = true → Ev (fun k => impl_SigOk.l0 k l l (l.length : Int) ((n + 1 : Nat) : Int)) (sgL l d (n + 1)) := fun h => ih (n + 1) (by omega) (fun _ => by
      by_cases e : n = 0
      · subst e; exact h
      · exact h0 (by omega))
    by_cases h1 : nameOk (rd_I_Sym l (n : Int)).f0 = true
    · refine Ev.ite_pos h1 (Ev.bind (implSymOf_ev _ _ hl) ?_)
      by_cases h2 : symOf l (rd_I_Sym l (n : Int)).f0 = (n : Int)
      · refine Ev.ite_pos h2 (Ev.bind (Ev.cst (implInR _ _ _)) ?_)
        by_cases h3 : inR (rd_I_Sym l (n : Int)).f1 0 3 = true
        · refine Ev.ite_pos h3 ?_
          by_cases h4 : (rd_I_Sym l (n : Int)).f2 = true
          · refine Ev.ite_pos h4 ?_
            by_cases h5 : (rd_I_Sym l (n : Int)).f1 = 2
            · have ok : okAt l n = true := by unfold okAt; rw [h5] at h3; simp [h1, h2, h3, h4, h5]
              exact Ev.ite_pos h5 (Ev.val (ih ok) (by rw [if_pos ok]))
            · exact Ev.ite_neg h5 (Ev.val Ev.some (by simp [okAt, h1, h2, h3, h4, h5]))
          · have ok : okAt l n = true := by unfold okAt; simp [h1, h2, h3, h4]
            exact Ev.ite_neg h4 (Ev.val (ih ok) (by rw [if_pos ok]))
        · exact Ev.ite_neg h3 (Ev.val Ev.some (by simp [okAt, h3]))
      · exact Ev.ite_neg h2 (Ev.val Ev.some (by simp [okAt, h2]))
    · exact Ev.ite_neg h1 (Ev.val Ev.some (by simp [okAt, h1]))
theorem implSigOk_ev (l : List I_Sym) (hl : l.length ≤ maxLen) (hn : ∀ x ∈ l, x.f0.size ≤ maxLen) : Ev (fun k => impl_SigOk.f k l) (sigOk l) := by
  unfold impl_SigOk.f
  exact implSig_l l hl hn l.length 0 (by omega) (fun h => absurd h (by omega))
theorem symS_len {l : List I_Sym} (h : el_SymS l ≤ maxLen) : l.length ≤ maxLen := by unfold el_SymS at h; omega
theorem names_cv {l : List L_Sym} (h : sz_SymS l ≤ 1048576) : ∀ x ∈ cv_SymS l, x.f0.size ≤ maxLen := by
  intro x hx
  have hm : maxLen = 9223372036854775807 := rfl
  obtain ⟨y, hy, rfl⟩ := List.mem_map.1 hx
  have := mem_sz_SymS hy
  simp only [sz_Sym] at this
  show y.f0.size ≤ _
  omega
/-! #### which functions are blind -/
theorem specIn_ev (a b c : Int) : spec_l1In.f a b c = some (decide (b ≤ a) && decide (a ≤ c)) := by
  unfold spec_l1In.f
  by_cases h : a ≥ b
  · rw [if_pos h]; simp [show b ≤ a from h]
  · rw [if_neg h]; simp [show ¬ b ≤ a from h]
theorem implIn_ev (a b c : Int) : impl_from.f a b c = some (decide (b ≤ a) && decide (a ≤ c)) := by
  unfold impl_from.f
  by_cases h : a ≥ b
  · rw [if_pos h]; simp [show b ≤ a from h]
  · rw [if_neg h]; simp [show ¬ b ≤ a from h]
def isSym (l : List I_Sym) (f : Int) : Bool := decide (0 ≤ f) && decide (f ≤ (l.length : Int) - 1)
def blind (l : List I_Sym) (f : Int) : Bool := isSym l f && (rd_I_Sym l f).f2
theorem len_wrap {l : List I_Sym} (hl : l.length ≤ maxLen) : wrap64 ((l.length : Int) - 1) = (l.length : Int) - 1 := by
  have hm : maxLen = 9223372036854775807 := rfl
  exact wrap_id (by omega) (by omega)
theorem specBlind_ev (l : List I_Sym) (hl : l.length ≤ maxLen) (f : Int) : spec_Blind.f l f = some (blind l f) := by
  unfold spec_Blind.f
  rw [len_wrap hl, specIn_ev, Option.bind_some]
  unfold blind isSym
  by_cases h0 : 0 ≤ f <;> by_cases h1 : f ≤ (l.length : Int) - 1 <;> simp [h0, h1]
  omega
theorem implIsSym_ev (l : List I_Sym) (hl : l.length ≤ maxLen) (f : Int) : impl_isSym.f l f = some (isSym l f) := by
  unfold impl_isSym.f
  rw [len_wrap hl, implIn_ev, Option.bind_some]
  rfl
theorem implBlind_ev (l : List I_Sym) (hl : l.length ≤ maxLen) (f : Int) : impl_Blind.f l f = some (blind l f) := by
  unfold impl_Blind.f
  rw [implIsSym_ev l hl, Option.bind_some]
  unfold blind isSym
  by_cases h0 : 0 ≤ f <;> by_cases h1 : f ≤ (l.length : Int) - 1 <;> simp [h0, h1]
  omega
theorem elSymS_len {l : List I_Sym} (h : el_SymS l ≤ maxLen) : l.length ≤ maxLen := by unfold el_SymS at h; omega
/-! #### terms: which comes before which -/
theorem mem_el {l : List I_Term} {y : I_Term} (h : y ∈ l) : el_Term y + 1 ≤ el_TermS l := by
  rw [el_TermS_eq]
  exact mem_size el_Term h
theorem el_len (l : List I_Term) : l.length ≤ el_TermS l := by rw [el_TermS_eq]; omega
theorem wrap01 : wrap64 (0 + 1) = 1 := by decide +kernel
theorem wrap11 : wrap64 (1 + 1) = 2 := by decide +kernel
theorem wrap21 : wrap64 (2 + 1) = 3 := by decide +kernel
theorem cmp_head (x0 y0 x1 y1 x2 y2 : Int) (a0 a1 : Int) (la : List I_Term) (b0 b1 : Int) (lb : List I_Term) (c : Int) (h : x0 = y0 → x1 = y1 → x2 = y2 → Ev (fun k => impl_compare.l1 k (la.length : Int) 0 a0 a1 la b0 b1 lb) c) :
    Ev (fun k => impl_compare.l0 k [(⟨x0, y0⟩ : A2_i64), ⟨x1, y1⟩, ⟨x2, y2⟩] 3 0 a0 a1 la b0 b1 lb) (if x0 < y0 then -1 else if x0 > y0 then 1 else if x1 < y1 then -1 else if x1 > y1 then 1 else if x2 < y2 then -1 else if x2 > y2 then 1 else c) := by
  refine Ev.step (fun k => by simp only [impl_compare.l0]; rfl) (Ev.ite_pos (by decide) (Ev.ite_pos (by decide) (Ev.ite_pos (by simp) ?_)))
  show Ev (fun k => if x0 < y0 then some (-1) else if x0 > y0 then some 1 else _) _
  by_cases h0 : x0 < y0
  · rw [if_pos h0]; exact Ev.ite_pos h0 Ev.some
  rw [if_neg h0]; refine Ev.ite_neg h0 ?_
  by_cases h1 : x0 > y0
  · rw [if_pos h1]; exact Ev.ite_pos h1 Ev.some
  rw [if_neg h1]; refine Ev.ite_neg h1 ?_
  rw [wrap01]
  refine Ev.step (fun k => by simp only [impl_compare.l0]; rfl) (Ev.ite_pos (by decide) (Ev.ite_pos (by decide) (Ev.ite_pos (by simp) ?_)))
  show Ev (fun k => if x1 < y1 then some (-1) else if x1 > y1 then some 1 else _) _
  by_cases h2 : x1 < y1
  · rw [if_pos h2]; exact Ev.ite_pos h2 Ev.some
  rw [if_neg h2]; refine Ev.ite_neg h2 ?_
  by_cases h3 : x1 > y1
  · rw [if_pos h3]; exact Ev.ite_pos h3 Ev.some
  rw [if_neg h3]; refine Ev.ite_neg h3 ?_
  rw [wrap11]
  refine Ev.step (fun k => by simp only [impl_compare.l0]; rfl) (Ev.ite_pos (by decide) (Ev.ite_pos (by decide) (Ev.ite_pos (by simp) ?_)))
  show Ev (fun k => if x2 < y2 then some (-1) else if x2 > y2 then some 1 else _) _
  by_cases h4 : x2 < y2
  · rw [if_pos h4]; exact Ev.ite_pos h4 Ev.some
  rw [if_neg h4]; refine Ev.ite_neg h4 ?_
  by_cases h5 : x2 > y2
  · rw [if_pos h5]; exact Ev.ite_pos h5 Ev.some
  rw [if_neg h5]; refine Ev.ite_neg h5 ?_
  rw [wrap21]
  exact Ev.step (fun k => by simp only [impl_compare.l0]; rfl) (Ev.ite_neg (by decide) (h (by omega) (by omega) (by omega)))
/-- what is told of two terms: their order, whether they are the same, whether the one comes before the other -/
def Cmp (a b : I_Term) (c : Int) : Prop := Ev (fun k => impl_compare.f k a.f0 a.f1 a.f2 b.f0 b.f1 b.f2) c ∧ Ev (fun k => spec_TermSame.f k a.f0 a.f1 a.f2 b.f0 b.f1 b.f2) (decide (c = 0)) ∧ Ev (fun k => spec_Before.f k a.f0 a.f1 a.f2 b.f0 b.f1 b.f2) (decide (c < 0))
theorem cmp_loop (a0 a1 : Int) (la : List I_Term) (b0 b1 : Int) (lb : List I_Term) (hl : la.length ≤ maxLen) (he : la.length = lb.length) (hk : ∀ x ∈ la, ∀ y ∈ lb, ∃ c, Cmp x y c) : ∀ d n : Nat, n + d = la.length →
    ∃ c, Ev (fun k => impl_compare.l1 k (la.length : Int) (n : Int) a0 a1 la b0 b1 lb) c ∧ Ev (fun k => spec_TermSame.l0 k (n : Int) a0 a1 la b0 b1 lb) (decide (c = 0)) ∧ Ev (fun k => spec_Before.l0 k (n : Int) a0 a1 la b0 b1 lb) (decide (c < 0)) := by
  intro d
  induction d with
  | zero =>
    intro n hd
    refine ⟨0, ?_, ?_, ?_⟩
    · exact Ev.step (fun k => by simp only [impl_compare.l1]; rfl) (Ev.ite_neg (by omega) Ev.some)
    · exact Ev.step (fun k => by simp only [spec_TermSame.l0]; rfl) (Ev.ite_neg (by omega) Ev.some)
    · exact Ev.step (fun k => by simp only [spec_Before.l0]; rfl) (Ev.ite_neg (by omega) Ev.some)
  | succ d ih =>
    intro n hd
    obtain ⟨c, h1, h2, h3⟩ := hk _ (getD_mem la zI_Term n (by omega)) _ (getD_mem lb zI_Term n (by omega))
    obtain ⟨c', i1, i2, i3⟩ := ih (n + 1) (by omega)
    rw [← wrap_nat (by omega)] at i1 i2 i3
    by_cases hc : c = 0
    · refine ⟨c', ?_, ?_, ?_⟩
      · refine Ev.step (fun k => by simp only [impl_compare.l1]; rfl) (Ev.ite_pos (by omega) (Ev.ite_pos (by omega) (Ev.ite_pos (by omega) (Ev.ite_pos (by omega) (Ev.bind h1 ?_)))))
        exact Ev.ite_pos hc i1
      · refine Ev.step (fun k => by simp only [spec_TermSame.l0]; rfl) (Ev.ite_pos (by omega) (Ev.ite_pos (by omega) (Ev.ite_pos (by omega) (Ev.bind h2 ?_))))
        exact Ev.ite_pos (decide_eq_true hc) i2
      · refine Ev.step (fun k => by simp only [spec_Before.l0]; rfl) (Ev.ite_pos (by omega) (Ev.ite_pos (by omega) (Ev.ite_pos (by omega) (Ev.bind h2 ?_))))
        exact Ev.ite_pos (decide_eq_true hc) i3
    · refine ⟨c, ?_, ?_, ?_⟩
      · refine Ev.step (fun k => by simp only [impl_compare.l1]; rfl) (Ev.ite_pos (by omega) (Ev.ite_pos (by omega) (Ev.ite_pos (by omega) (Ev.ite_pos (by omega) (Ev.bind h1 ?_)))))
        exact Ev.ite_neg hc Ev.some
      · refine Ev.step (fun k => by simp only [spec_TermSame.l0]; rfl) (Ev.ite_pos (by omega) (Ev.ite_pos (by omega) (Ev.ite_pos (by omega) (Ev.bind h2 ?_))))
        rw [decide_eq_false hc]
        exact Ev.ite_neg (by decide) Ev.some
      · refine Ev.step (fun k => by simp only [spec_Before.l0]; rfl) (Ev.ite_pos (by omega) (Ev.ite_pos (by omega) (Ev.ite_pos (by omega) (Ev.bind h2 ?_))))
        rw [decide_eq_false hc]
        exact Ev.ite_neg (by decide) (Ev.bind h3 Ev.some)
theorem cmp_ex (n : Nat) : ∀ a : I_Term, el_Term a ≤ n → el_Term a ≤ maxLen → ∀ b : I_Term, ∃ c, Cmp a b c := by
  induction n using Nat.strongRecOn with
  | _ n ih =>
  intro a hn hm b
  have hl : a.f2.length ≤ maxLen := by have := el_len a.f2; rw [el_Term_eq] at hm; omega
  have hk : ∀ x ∈ a.f2, ∀ y ∈ b.f2, ∃ c, Cmp x y c := fun x hx y _ => ih (el_Term x) (by have := mem_el hx; rw [el_Term_eq] at hn; omega) x (Nat.le_refl _) (by have := mem_el hx; rw [el_Term_eq] at hm; omega) y
  have fin : ∀ c : Int, (a.f0 = b.f0 → a.f1 = b.f1 → (a.f2.length : Int) = (b.f2.length : Int) → Ev (fun k => impl_compare.l1 k (a.f2.length : Int) 0 a.f0 a.f1 a.f2 b.f0 b.f1 b.f2) c ∧ Ev (fun k => spec_TermSame.l0 k 0 a.f0 a.f1 a.f2 b.f0 b.f1 b.f2) (decide (c = 0)) ∧ Ev (fun k => spec_Before.l0 k 0 a.f0 a.f1 a.f2 b.f0 b.f1 b.f2) (decide (c < 0))) → ∃ c, Cmp a b c := by
    intro c hc
    refine ⟨_, Ev.step (fun k => by simp only [impl_compare.f]; rfl) (Ev.bind Ev.some (cmp_head _ _ _ _ _ _ _ _ _ _ _ _ c (fun e0 e1 e2 => (hc e0 e1 e2).1))), ?_, ?_⟩
    · refine Ev.step (fun k => by simp only [spec_TermSame.f]; rfl) ?_
      have hj : Ev (fun k => spec_TermSame.j0 k true a.f0 a.f1 a.f2 b.f0 b.f1 b.f2) false := by
        refine Ev.step (fun k => by simp only [spec_TermSame.j0]; rfl) ?_
        exact Ev.some
      by_cases e0 : a.f0 = b.f0
      · refine Ev.ite_pos e0 ?_
        rw [if_neg (by omega), if_neg (by omega)]
        by_cases e1 : a.f1 = b.f1
        · refine Ev.ite_pos e1 ?_
          rw [if_neg (by omega), if_neg (by omega)]
          by_cases e2 : (a.f2.length : Int) = (b.f2.length : Int)
          · rw [if_neg (by omega), if_neg (by omega)]
            refine Ev.step (fun k => by simp only [spec_TermSame.j0]; rfl) ?_
            exact Ev.ite_neg (by simp [e2]) (hc e0 e1 e2).2.1
          · refine Ev.step (fun k => by simp only [spec_TermSame.j0]; rfl) ?_
            refine Ev.ite_pos (by simp [e2]) (Ev.val Ev.some ?_)
            by_cases h : (a.f2.length : Int) < (b.f2.length : Int)
            · rw [if_pos h]; decide
            · rw [if_neg h, if_pos (by omega)]; decide
        · refine Ev.ite_neg e1 (Ev.val hj ?_)
          by_cases h : a.f1 < b.f1
          · rw [if_pos h]; decide
          · rw [if_neg h, if_pos (by omega)]; decide
      · refine Ev.ite_neg e0 (Ev.val hj ?_)
        by_cases h : a.f0 < b.f0
        · rw [if_pos h]; decide
        · rw [if_neg h, if_pos (by omega)]; decide
    · refine Ev.step (fun k => by simp only [spec_Before.f]; rfl) ?_
      by_cases e0 : a.f0 = b.f0
      · refine Ev.ite_pos e0 ?_
        rw [if_neg (by omega), if_neg (by omega)]
        by_cases e1 : a.f1 = b.f1
        · refine Ev.ite_pos e1 ?_
          rw [if_neg (by omega), if_neg (by omega)]
          by_cases e2 : (a.f2.length : Int) = (b.f2.length : Int)
          · rw [if_neg (by omega), if_neg (by omega)]
            exact Ev.ite_pos e2 (hc e0 e1 e2).2.2
          · refine Ev.ite_neg e2 (Ev.val Ev.some ?_)
            by_cases h : (a.f2.length : Int) < (b.f2.length : Int)
            · rw [if_pos h, decide_eq_true h]; decide
            · rw [if_neg h, if_pos (by omega), decide_eq_false h]; decide
        · refine Ev.ite_neg e1 (Ev.val Ev.some ?_)
          by_cases h : a.f1 < b.f1
          · rw [if_pos h, decide_eq_true h]; decide
          · rw [if_neg h, if_pos (by omega), decide_eq_false h]; decide
      · refine Ev.ite_neg e0 (Ev.val Ev.some ?_)
        by_cases h : a.f0 < b.f0
        · rw [if_pos h, decide_eq_true h]; decide
        · rw [if_neg h, if_pos (by omega), decide_eq_false h]; decide
  by_cases he : a.f2.length = b.f2.length
  · obtain ⟨c, h⟩ := cmp_loop a.f0 a.f1 a.f2 b.f0 b.f1 b.f2 hl he hk a.f2.length 0 (by omega)
    exact fin c (fun _ _ _ => h)
  · exact fin 0 (fun _ _ e => absurd e (by omega))
/-- as the program's Before has it -/
theorem before_ex {a : I_Term} (hm : el_Term a ≤ maxLen) (b : I_Term) : ∃ p : Bool, Ev (fun k => spec_Before.f k a.f0 a.f1 a.f2 b.f0 b.f1 b.f2) p ∧ Ev (fun k => impl_Before.f k a.f0 a.f1 a.f2 b.f0 b.f1 b.f2) p := by
  obtain ⟨c, h1, _, h3⟩ := cmp_ex (el_Term a) a (Nat.le_refl _) hm b
  refine ⟨_, h3, ?_⟩
  unfold impl_Before.f
  exact Ev.bind h1 Ev.some
/-! #### terms that are right, and how many parts they have -/
def parts (l : List I_Term) : Nat := (l.map fun x => el_Term x + 1).sum
theorem parts_el (l : List I_Term) : parts l = el_TermS l := by
  rw [el_TermS_eq]
  unfold parts
  induction l with
  | nil => rfl
  | cons a l ih => simp only [List.map_cons, List.sum_cons, List.length_cons, ih]; omega
theorem parts_drop {l : List I_Term} {n : Nat} (h : n < l.length) : parts (l.drop n) = (el_Term (rd_I_Term l (n : Int)) + 1) + parts (l.drop (n + 1)) := by
  rw [getD_drop l zI_Term n h]
  rfl
theorem specParts_ev (n : Nat) : ∀ t : I_Term, el_Term t ≤ n → el_Term t + 1 ≤ maxLen → Ev (fun k => spec_Parts.f k t.f0 t.f1 t.f2) ((el_Term t + 1 : Nat) : Int) := by
  have hM : maxLen = 9223372036854775807 := rfl
  induction n using Nat.strongRecOn with
  | _ n ih =>
  intro t hn hm
  have hl : t.f2.length ≤ maxLen := by have := el_len t.f2; rw [el_Term_eq] at hm; omega
  have loop : ∀ d n m : Nat, n + d = t.f2.length → m + parts (t.f2.drop n) ≤ maxLen → Ev (fun k => spec_Parts.l0 k (m : Int) (n : Int) t.f0 t.f1 t.f2) ((m + parts (t.f2.drop n) : Nat) : Int) := by
    intro d
    induction d with
    | zero =>
      intro n m hd hp
      refine Ev.step (fun k => by simp only [spec_Parts.l0]; rfl) (Ev.ite_neg (by omega) (Ev.val Ev.some ?_))
      rw [List.drop_of_length_le (by omega)]
      rfl
    | succ d ih2 =>
      intro n m hd hp
      have hx := getD_mem t.f2 zI_Term n (by omega)
      have e := parts_drop (l := t.f2) (n := n) (by omega)
      have hk := ih (el_Term (rd_I_Term t.f2 (n : Int))) (by have := mem_el hx; rw [el_Term_eq] at hn; show el_Term (t.f2.getD n zI_Term) < _; omega) (rd_I_Term t.f2 (n : Int)) (Nat.le_refl _) (by omega)
      refine Ev.step (fun k => by simp only [spec_Parts.l0]; rfl) (Ev.ite_pos (by omega) (Ev.ite_pos (by omega) (Ev.bind hk ?_)))
      rw [wrap_nat (by omega), wrap_id (by omega) (by omega)]
      have := ih2 (n + 1) (m + (el_Term (rd_I_Term t.f2 (n : Int)) + 1)) (by omega) (by omega)
      rw [e]
      rw [show (m : Int) + ((el_Term (rd_I_Term t.f2 (n : Int)) + 1 : Nat) : Int) = ((m + (el_Term (rd_I_Term t.f2 (n : Int)) + 1) : Nat) : Int) from by omega]
      exact Ev.val this (by omega)
  refine Ev.step (fun k => by simp only [spec_Parts.f]; rfl) ?_
  have := loop t.f2.length 0 1 (by omega) (by rw [List.drop_zero, parts_el, ← el_Term_eq]; omega)
  rw [List.drop_zero, parts_el, ← el_Term_eq] at this
  exact Ev.val this (by omega)
theorem implEach_ev (n : Nat) : ∀ (t : I_Term) (s : Nat), el_Term t ≤ n → s + el_Term t + 1 ≤ maxLen → Ev (fun k => impl_each_with_impl_Parts_1.f k t.f0 t.f1 t.f2 (s : Int)) ((s + el_Term t + 1 : Nat) : Int) := by
  have hM : maxLen = 9223372036854775807 := rfl
  induction n using Nat.strongRecOn with
  | _ n ih =>
  intro t s hn hm
  have hl : t.f2.length ≤ maxLen := by have := el_len t.f2; rw [el_Term_eq] at hm; omega
  have loop : ∀ d n m : Nat, n + d = t.f2.length → m + parts (t.f2.drop n) ≤ maxLen → Ev (fun k => impl_each_with_impl_Parts_1.l0 k t.f2 (t.f2.length : Int) (n : Int) (m : Int)) ((m + parts (t.f2.drop n) : Nat) : Int) := by
    intro d
    induction d with
    | zero =>
      intro n m hd hp
      refine Ev.step (fun k => by simp only [impl_each_with_impl_Parts_1.l0]; rfl) (Ev.ite_neg (by omega) (Ev.val Ev.some ?_))
      rw [List.drop_of_length_le (by omega)]
      rfl
    | succ d ih2 =>
      intro n m hd hp
      have hx := getD_mem t.f2 zI_Term n (by omega)
      have e := parts_drop (l := t.f2) (n := n) (by omega)
      have hk := ih (el_Term (rd_I_Term t.f2 (n : Int))) (by have := mem_el hx; rw [el_Term_eq] at hn; show el_Term (t.f2.getD n zI_Term) < _; omega) (rd_I_Term t.f2 (n : Int)) m (Nat.le_refl _) (by omega)
      refine Ev.step (fun k => by simp only [impl_each_with_impl_Parts_1.l0]; rfl) (Ev.ite_pos (by omega) (Ev.ite_pos (by omega) (Ev.ite_pos (by omega) (Ev.bind hk ?_))))
      rw [wrap_nat (by omega)]
      have := ih2 (n + 1) (m + el_Term (rd_I_Term t.f2 (n : Int)) + 1) (by omega) (by omega)
      exact Ev.val this (by omega)
  refine Ev.step (fun k => by simp only [impl_each_with_impl_Parts_1.f]; rfl) (Ev.bind (Ev.cst rfl) ?_)
  rw [wrap_nat (by omega)]
  have := loop t.f2.length 0 (s + 1) (by omega) (by rw [List.drop_zero, parts_el, ← el_Term_eq]; omega)
  rw [List.drop_zero, parts_el, ← el_Term_eq] at this
  exact Ev.val this (by omega)
theorem implParts_ev (t : I_Term) (hm : el_Term t + 1 ≤ maxLen) : Ev (fun k => impl_Parts.f k t.f0 t.f1 t.f2) ((el_Term t + 1 : Nat) : Int) := by
  unfold impl_Parts.f
  have := implEach_ev (el_Term t) t 0 (Nat.le_refl _) (by omega)
  rw [show 0 + el_Term t + 1 = el_Term t + 1 from by omega] at this
  exact Ev.bind this Ev.some
/-- a term that is right -/
inductive Good (s : List I_Sym) : I_Term → Prop
  | var (t : I_Term) (hv : t.f0 = -1) (h0 : 0 ≤ t.f1) (h1 : t.f1 ≤ 99) (hk : t.f2.length = 0) : Good s t
  | app (t : I_Term) (h0 : 0 ≤ t.f0) (h1 : t.f0 < (s.length : Int)) (hv : t.f1 = 0) (ha : (rd_I_Sym s t.f0).f2 = true → 2 ≤ t.f2.length) (hb : (rd_I_Sym s t.f0).f2 = false → (t.f2.length : Int) = (rd_I_Sym s t.f0).f1) (hk : ∀ x ∈ t.f2, Good s x) : Good s t
def Rt (s : List I_Sym) (t : I_Term) (b : Bool) : Prop := Ev (fun k => spec_l4Right.f k s t.f0 t.f1 t.f2) b ∧ Ev (fun k => impl_formOk.f k s t.f0 t.f1 t.f2) b ∧ (b = true → Good s t)
def RtL (s : List I_Sym) (f v : Int) (l : List I_Term) (n : Nat) (b : Bool) : Prop := Ev (fun k => spec_l4Right.l0 k s (n : Int) f v l) b ∧ Ev (fun k => impl_formOk.l0 k s l (l.length : Int) (n : Int) f v l) b ∧
  (b = true → ∀ x ∈ l.drop n, Good s x)
theorem right_loop (s : List I_Sym) (f v : Int) (f0 : 0 ≤ f) (f1 : f < (s.length : Int)) (l : List I_Term) (hl : l.length ≤ maxLen) (hm : el_TermS l ≤ maxLen) (hk : ∀ x ∈ l, ∃ b, Rt s x b) : ∀ d n : Nat, n + d = l.length → ∃ b, RtL s f v l n b := by
  intro d
  induction d with
  | zero =>
    intro n hd
    refine ⟨true, ?_, ?_, fun _ x hx => ?_⟩
    · exact Ev.step (fun k => by simp only [spec_l4Right.l0]; rfl) (Ev.ite_neg (by omega) Ev.some)
    · exact Ev.step (fun k => by simp only [impl_formOk.l0]; rfl) (Ev.ite_neg (by omega) Ev.some)
    · rw [List.drop_of_length_le (by omega)] at hx
      cases hx
  | succ d ih =>
    intro n hd
    have hx := getD_mem l zI_Term n (by omega)
    obtain ⟨b, h1, h2, h3⟩ := hk _ hx
    obtain ⟨b', i1, i2, i3⟩ := ih (n + 1) (by omega)
    rw [← wrap_nat (by omega)] at i1 i2
    have rest : b = true → b' = true → ∀ x ∈ l.drop n, Good s x := by
      intro e e' x hx
      rw [getD_drop l zI_Term n (by omega)] at hx
      rcases List.mem_cons.1 hx with rfl | hx
      · exact h3 e
      · exact i3 e' x hx
    have kid1 : Ev (fun k => (spec_l4Right.f k s ((rd_I_Term l (n : Int)).f0) ((rd_I_Term l (n : Int)).f1) ((rd_I_Term l (n : Int)).f2)).bind fun t => (if t = true then (spec_l4Right.l0 k s (wrap64 ((n : Int) + 1)) f v l) else (some false))) (b && b') := by
      refine Ev.bind h1 ?_
      cases b
      · exact Ev.ite_neg (by decide) Ev.some
      · exact Ev.ite_pos rfl i1
    have spec0 : ∀ X : Bool, Ev (fun k => if (rd_I_Sym s f).f2 = true then (if 0 ≤ (n : Int) then (if ((rd_I_Term l (n : Int)).f0) = f then (some false) else (if (n : Int) > 0 then (if 0 ≤ (wrap64 ((n : Int) - 1)) then (if (wrap64 ((n : Int) - 1)) < (l.length : Int) then ((spec_Before.f k ((rd_I_Term l (n : Int)).f0) ((rd_I_Term l (n : Int)).f1) ((rd_I_Term l (n : Int)).f2) ((rd_I_Term l (wrap64 ((n : Int) - 1))).f0) ((rd_I_Term l (wrap64 ((n : Int) - 1))).f1) ((rd_I_Term l (wrap64 ((n : Int) - 1))).f2)).bind fun t226 => (if t226 = true then (some false) else ((spec_l4Right.f k s ((rd_I_Term l (n : Int)).f0) ((rd_I_Term l (n : Int)).f1) ((rd_I_Term l (n : Int)).f2)).bind fun t228 => (if t228 = true then (spec_l4Right.l0 k s (wrap64 ((n : Int) + 1)) f v l) else (some false))))) else (none)) else (none)) else ((spec_l4Right.f k s ((rd_I_Term l (n : Int)).f0) ((rd_I_Term l (n : Int)).f1) ((rd_I_Term l (n : Int)).f2)).bind fun t230 => (if t230 = true then (spec_l4Right.l0 k s (wrap64 ((n : Int) + 1)) f v l) else (some false))))) else (none)) else (if 0 ≤ (n : Int) then ((spec_l4Right.f k s ((rd_I_Term l (n : Int)).f0) ((rd_I_Term l (n : Int)).f1) ((rd_I_Term l (n : Int)).f2)).bind fun t232 => (if t232 = true then (spec_l4Right.l0 k s (wrap64 ((n : Int) + 1)) f v l) else (some false))) else (none))) X → Ev (fun k => spec_l4Right.l0 k s (n : Int) f v l) X := fun X h =>
      Ev.step (fun k => by simp only [spec_l4Right.l0]; rfl) (Ev.ite_pos (by omega) (Ev.ite_pos f0 (Ev.ite_pos f1 h)))
    have impl0 : ∀ X : Bool, (b = true → Ev (fun k => if (rd_I_Sym s f).f2 = true then (if ((rd_I_Term l (n : Int)).f0) = f then (some false) else (if (n : Int) > 0 then (if 0 ≤ (wrap64 ((n : Int) - 1)) then (if (wrap64 ((n : Int) - 1)) < (l.length : Int) then ((impl_Before.f k ((rd_I_Term l (n : Int)).f0) ((rd_I_Term l (n : Int)).f1) ((rd_I_Term l (n : Int)).f2) ((rd_I_Term l (wrap64 ((n : Int) - 1))).f0) ((rd_I_Term l (wrap64 ((n : Int) - 1))).f1) ((rd_I_Term l (wrap64 ((n : Int) - 1))).f2)).bind fun t309 => (if t309 = true then (some false) else (impl_formOk.l0 k s l (l.length : Int) (wrap64 ((n : Int) + 1)) f v l))) else (none)) else (none)) else (impl_formOk.l0 k s l (l.length : Int) (wrap64 ((n : Int) + 1)) f v l))) else (impl_formOk.l0 k s l (l.length : Int) (wrap64 ((n : Int) + 1)) f v l)) X) → (b = false → X = false) → Ev (fun k => impl_formOk.l0 k s l (l.length : Int) (n : Int) f v l) X := fun X h h' => by
      refine Ev.step (fun k => by simp only [impl_formOk.l0]; rfl) (Ev.ite_pos (by omega) (Ev.ite_pos (by omega) (Ev.ite_pos (by omega) (Ev.bind h2 ?_))))
      cases hb : b
      · rw [h' hb]; exact Ev.ite_neg (by decide) Ev.some
      · exact Ev.ite_pos rfl (Ev.ite_pos f0 (Ev.ite_pos f1 (h hb)))
    by_cases hc : (rd_I_Sym s f).f2 = true
    · by_cases hf : (rd_I_Term l (n : Int)).f0 = f
      · refine ⟨false, spec0 _ (Ev.ite_pos hc (Ev.ite_pos (by omega) (Ev.ite_pos hf Ev.some))), impl0 _ (fun _ => Ev.ite_pos hc (Ev.ite_pos hf Ev.some)) (fun _ => rfl), fun e => ?_⟩
        cases e
      · by_cases hn : (n : Int) > 0
        · have hw : wrap64 ((n : Int) - 1) = ((n - 1 : Nat) : Int) := by
            have hM : maxLen = 9223372036854775807 := rfl
            rw [wrap_id (by omega) (by omega)]; omega
          obtain ⟨p, p1, p2⟩ := before_ex (a := rd_I_Term l (n : Int)) (by have := mem_el hx; show el_Term (l.getD n zI_Term) ≤ _; omega) (rd_I_Term l (wrap64 ((n : Int) - 1)))
          cases p
          · refine ⟨b && b', spec0 _ (Ev.ite_pos hc (Ev.ite_pos (by omega) (Ev.ite_neg hf (Ev.ite_pos hn (Ev.ite_pos (by omega) (Ev.ite_pos (by omega) (Ev.bind p1 (Ev.ite_neg (by decide) kid1)))))))), impl0 _ (fun e => Ev.ite_pos hc (Ev.ite_neg hf (Ev.ite_pos hn (Ev.ite_pos (by omega) (Ev.ite_pos (by omega) (Ev.bind p2 (Ev.ite_neg (by decide) (Ev.val i2 (by rw [e]; rfl))))))))) (fun e => by rw [e]; rfl), fun e => ?_⟩
            rw [Bool.and_eq_true] at e
            exact rest e.1 e.2
          · refine ⟨false, spec0 _ (Ev.ite_pos hc (Ev.ite_pos (by omega) (Ev.ite_neg hf (Ev.ite_pos hn (Ev.ite_pos (by omega) (Ev.ite_pos (by omega) (Ev.bind p1 (Ev.ite_pos rfl Ev.some)))))))), impl0 _ (fun e => Ev.ite_pos hc (Ev.ite_neg hf (Ev.ite_pos hn (Ev.ite_pos (by omega) (Ev.ite_pos (by omega) (Ev.bind p2 (Ev.ite_pos rfl Ev.some))))))) (fun e => rfl), fun e => ?_⟩
            cases e
        · refine ⟨b && b', spec0 _ (Ev.ite_pos hc (Ev.ite_pos (by omega) (Ev.ite_neg hf (Ev.ite_neg hn kid1)))), impl0 _ (fun e => Ev.ite_pos hc (Ev.ite_neg hf (Ev.ite_neg hn (Ev.val i2 (by rw [e]; rfl))))) (fun e => by rw [e]; rfl), fun e => ?_⟩
          rw [Bool.and_eq_true] at e
          exact rest e.1 e.2
    · refine ⟨b && b', spec0 _ (Ev.ite_neg hc (Ev.ite_pos (by omega) kid1)), impl0 _ (fun e => Ev.ite_neg hc (Ev.val i2 (by rw [e]; rfl))) (fun e => by rw [e]; rfl), fun e => ?_⟩
      rw [Bool.and_eq_true] at e
      exact rest e.1 e.2
theorem right_ex (s : List I_Sym) (hs : s.length ≤ maxLen) (n : Nat) : ∀ t : I_Term, el_Term t ≤ n → el_Term t ≤ maxLen → ∃ b, Rt s t b := by
  induction n using Nat.strongRecOn with
  | _ n ih =>
  intro t hn hm
  have hl : t.f2.length ≤ maxLen := by have := el_len t.f2; rw [el_Term_eq] at hm; omega
  have hk : ∀ x ∈ t.f2, ∃ b, Rt s x b := fun x hx => ih (el_Term x) (by have := mem_el hx; rw [el_Term_eq] at hn; omega) x (Nat.le_refl _) (by have := mem_el hx; rw [el_Term_eq] at hm; omega)
  by_cases hv : t.f0 = -1
  · refine ⟨inR t.f1 0 99 && ((t.f2.length : Int) == 0), ?_, ?_, fun e => ?_⟩
    · refine Ev.step (fun k => by simp only [spec_l4Right.f]; rfl) (Ev.ite_pos hv (Ev.bind (Ev.cst (specInR _ _ _)) ?_))
      by_cases h : inR t.f1 0 99 = true
      · exact Ev.ite_pos h (Ev.val Ev.some (by rw [h]; rfl))
      · exact Ev.ite_neg h (Ev.val Ev.some (by rw [Bool.not_eq_true] at h; rw [h]; rfl))
    · refine Ev.step (fun k => by simp only [impl_formOk.f]; rfl) (Ev.bind (Ev.cst (r := true) ?_) (Ev.ite_pos rfl (Ev.bind (Ev.cst (implInR _ _ _)) ?_)))
      · unfold impl_isVar.f
        rw [hv]
        rfl
      · by_cases h : inR t.f1 0 99 = true
        · exact Ev.ite_pos h (Ev.val Ev.some (by rw [h]; rfl))
        · exact Ev.ite_neg h (Ev.val Ev.some (by rw [Bool.not_eq_true] at h; rw [h]; rfl))
    · rw [Bool.and_eq_true] at e
      have h0 : t.f2.length = 0 := by have := e.2; simp at this; simp [this]
      have h1 := e.1
      simp [inR] at h1
      exact Good.var t hv (by omega) (by omega) h0
  · have hz : 0 = 0 := rfl
    have specStep : ∀ X : Bool, Ev (fun k => if inR t.f0 0 ((s.length : Int) - 1) = true then (if t.f1 = 0 then (if 0 ≤ t.f0 then (if t.f0 < (s.length : Int) then (if ((rd_I_Sym s t.f0).f2 = true) then (if (rd_I_Sym s t.f0).f2 = true then (spec_l4Right.j0 k s (decide ((t.f2.length : Int) < 2)) t.f0 t.f1 t.f2) else (spec_l4Right.j0 k s false t.f0 t.f1 t.f2)) else (if (t.f2.length : Int) = ((rd_I_Sym s t.f0).f1) then (if (rd_I_Sym s t.f0).f2 = true then (spec_l4Right.j0 k s (decide ((t.f2.length : Int) < 2)) t.f0 t.f1 t.f2) else (spec_l4Right.j0 k s false t.f0 t.f1 t.f2)) else (spec_l4Right.j0 k s true t.f0 t.f1 t.f2))) else (none)) else (none)) else (spec_l4Right.j0 k s true t.f0 t.f1 t.f2)) else (spec_l4Right.j0 k s true t.f0 t.f1 t.f2)) X → Ev (fun k => spec_l4Right.f k s t.f0 t.f1 t.f2) X := fun X h => by
      refine Ev.step (fun k => by simp only [spec_l4Right.f]; rfl) (Ev.ite_neg hv (Ev.bind (Ev.cst (specInR _ _ _)) ?_))
      rw [len_wrap hs]
      exact h
    have implStep : ∀ X : Bool, Ev (fun k => if inR t.f0 0 ((s.length : Int) - 1) = true then (if t.f1 = 0 then (if 0 ≤ t.f0 then (if t.f0 < (s.length : Int) then (if ((rd_I_Sym s t.f0).f2 = true) then (if (rd_I_Sym s t.f0).f2 = true then (impl_formOk.j0 k s (decide ((t.f2.length : Int) < 2)) t.f0 t.f1 t.f2) else (impl_formOk.j0 k s false t.f0 t.f1 t.f2)) else (if (t.f2.length : Int) = ((rd_I_Sym s t.f0).f1) then (if (rd_I_Sym s t.f0).f2 = true then (impl_formOk.j0 k s (decide ((t.f2.length : Int) < 2)) t.f0 t.f1 t.f2) else (impl_formOk.j0 k s false t.f0 t.f1 t.f2)) else (impl_formOk.j0 k s true t.f0 t.f1 t.f2))) else (none)) else (none)) else (impl_formOk.j0 k s true t.f0 t.f1 t.f2)) else (impl_formOk.j0 k s true t.f0 t.f1 t.f2)) X → Ev (fun k => impl_formOk.f k s t.f0 t.f1 t.f2) X := fun X h => by
      refine Ev.step (fun k => by simp only [impl_formOk.f]; rfl) (Ev.bind (Ev.cst (r := false) ?_) ?_)
      · unfold impl_isVar.f
        simp [hv]
      · refine Ev.ite_neg (by decide) (Ev.bind (Ev.cst (r := inR t.f0 0 ((s.length : Int) - 1)) ?_) h)
        unfold impl_isSym.f
        rw [len_wrap hs, implInR]
        rfl
    have sT : Ev (fun k => spec_l4Right.j0 k s true t.f0 t.f1 t.f2) false := by
      refine Ev.step (fun k => by simp only [spec_l4Right.j0]; rfl) ?_
      exact Ev.some
    have iT : Ev (fun k => impl_formOk.j0 k s true t.f0 t.f1 t.f2) false := by
      refine Ev.step (fun k => by simp only [impl_formOk.j0]; rfl) ?_
      exact Ev.some
    by_cases h1 : inR t.f0 0 ((s.length : Int) - 1) = true
    · have h1' := h1
      simp [inR] at h1'
      by_cases h2 : t.f1 = 0
      · obtain ⟨b, l1, l2, l3⟩ := right_loop s t.f0 t.f1 (by omega) (by omega) t.f2 hl (by rw [← el_Term_eq]; exact hm) hk t.f2.length 0 (by omega)
        have j0 : ∀ D : Bool, Ev (fun k => spec_l4Right.j0 k s D t.f0 t.f1 t.f2) (!D && b) ∧ Ev (fun k => impl_formOk.j0 k s D t.f0 t.f1 t.f2) (!D && b) := by
          intro D
          cases D
          · exact ⟨Ev.step (f := fun k => spec_l4Right.l0 k s 0 t.f0 t.f1 t.f2) (fun k => by simp [spec_l4Right.j0]) (Ev.val l1 (by simp)), Ev.step (f := fun k => impl_formOk.l0 k s t.f2 (t.f2.length : Int) 0 t.f0 t.f1 t.f2) (fun k => by simp [impl_formOk.j0]) (Ev.val l2 (by simp))⟩
          · exact ⟨Ev.val sT (by simp), Ev.val iT (by simp)⟩
        by_cases h3 : (rd_I_Sym s t.f0).f2 = true
        · refine ⟨!(decide ((t.f2.length : Int) < 2)) && b, specStep _ (Ev.ite_pos h1 (Ev.ite_pos h2 (Ev.ite_pos (by omega) (Ev.ite_pos (by omega) (Ev.ite_pos h3 (Ev.ite_pos h3 (j0 _).1)))))), implStep _ (Ev.ite_pos h1 (Ev.ite_pos h2 (Ev.ite_pos (by omega) (Ev.ite_pos (by omega) (Ev.ite_pos h3 (Ev.ite_pos h3 (j0 _).2)))))), fun e => ?_⟩
          rw [Bool.and_eq_true] at e
          have h5 := e.1
          simp at h5
          exact Good.app t (by omega) (by omega) h2 (fun _ => by omega) (fun e => absurd h3 (by rw [e]; decide)) (by have := l3 e.2; rwa [List.drop_zero] at this)
        · by_cases h4 : (t.f2.length : Int) = ((rd_I_Sym s t.f0).f1)
          · refine ⟨!false && b, specStep _ (Ev.ite_pos h1 (Ev.ite_pos h2 (Ev.ite_pos (by omega) (Ev.ite_pos (by omega) (Ev.ite_neg h3 (Ev.ite_pos h4 (Ev.ite_neg h3 (j0 _).1))))))), implStep _ (Ev.ite_pos h1 (Ev.ite_pos h2 (Ev.ite_pos (by omega) (Ev.ite_pos (by omega) (Ev.ite_neg h3 (Ev.ite_pos h4 (Ev.ite_neg h3 (j0 _).2))))))), fun e => ?_⟩
            rw [Bool.and_eq_true] at e
            exact Good.app t (by omega) (by omega) h2 (fun e => absurd e h3) (fun _ => h4) (by have := l3 e.2; rwa [List.drop_zero] at this)
          · exact ⟨false, specStep _ (Ev.ite_pos h1 (Ev.ite_pos h2 (Ev.ite_pos (by omega) (Ev.ite_pos (by omega) (Ev.ite_neg h3 (Ev.ite_neg h4 sT)))))), implStep _ (Ev.ite_pos h1 (Ev.ite_pos h2 (Ev.ite_pos (by omega) (Ev.ite_pos (by omega) (Ev.ite_neg h3 (Ev.ite_neg h4 iT)))))), fun e => by cases e⟩
      · exact ⟨false, specStep _ (Ev.ite_pos h1 (Ev.ite_neg h2 sT)), implStep _ (Ev.ite_pos h1 (Ev.ite_neg h2 iT)), fun e => by cases e⟩
    · exact ⟨false, specStep _ (Ev.ite_neg h1 sT), implStep _ (Ev.ite_neg h1 iT), fun e => by cases e⟩
theorem termOk_ex (s : List I_Sym) (hs : s.length ≤ maxLen) (hn : ∀ x ∈ s, x.f0.size ≤ maxLen) (t : I_Term) (hm : el_Term t + 1 ≤ maxLen) : ∃ b : Bool, Ev (fun k => spec_TermOk.f k s t.f0 t.f1 t.f2) b ∧ Ev (fun k => impl_TermOk.f k s t.f0 t.f1 t.f2) b ∧ (b = true → Good s t) := by
  obtain ⟨b, h1, h2, h3⟩ := right_ex s hs (el_Term t) t (Nat.le_refl _) (by omega)
  unfold spec_TermOk.f impl_TermOk.f
  by_cases hg : sigOk s = true
  · by_cases hp : ((el_Term t + 1 : Nat) : Int) ≤ 60
    · exact ⟨b, Ev.bind (specSigOk_ev s hs hn) (Ev.ite_pos hg (Ev.bind (specParts_ev _ t (Nat.le_refl _) hm) (Ev.ite_pos hp (Ev.bind h1 Ev.some)))), Ev.bind (implSigOk_ev s hs hn) (Ev.ite_pos hg (Ev.bind (implParts_ev t hm) (Ev.ite_pos hp (Ev.bind h2 Ev.some)))), h3⟩
    · exact ⟨false, Ev.bind (specSigOk_ev s hs hn) (Ev.ite_pos hg (Ev.bind (specParts_ev _ t (Nat.le_refl _) hm) (Ev.ite_neg hp Ev.some))), Ev.bind (implSigOk_ev s hs hn) (Ev.ite_pos hg (Ev.bind (implParts_ev t hm) (Ev.ite_neg hp Ev.some))), fun e => by cases e⟩
  · exact ⟨false, Ev.bind (specSigOk_ev s hs hn) (Ev.ite_neg hg Ev.some), Ev.bind (implSigOk_ev s hs hn) (Ev.ite_neg hg Ev.some), fun e => by cases e⟩
/-! #### terms without variables and blind functions -/
def Plain (s : List I_Sym) (t : I_Term) : Prop := ∃ p : Bool, Ev (fun k => spec_l30Plain.f k s t.f0 t.f1 t.f2) p ∧ ∀ st : Bool, Ev (fun k => impl_each_with_impl_plain_1.f k t.f0 t.f1 t.f2 st s) (st && p)
theorem plain_loop (s : List I_Sym) (f v : Int) (l : List I_Term) (hl : l.length ≤ maxLen) (hk : ∀ x ∈ l, Plain s x) : ∀ d n : Nat, n + d = l.length → ∃ p : Bool, Ev (fun k => spec_l30Plain.l0 k s (n : Int) f v l) p ∧ ∀ st : Bool, Ev (fun k => impl_each_with_impl_plain_1.l0 k l (l.length : Int) (n : Int) st s) (st && p) := by
  intro d
  induction d with
  | zero =>
    intro n hd
    refine ⟨true, ?_, fun st => ?_⟩
    · exact Ev.step (fun k => by simp only [spec_l30Plain.l0]; rfl) (Ev.ite_neg (by omega) Ev.some)
    · exact Ev.step (fun k => by simp only [impl_each_with_impl_plain_1.l0]; rfl) (Ev.ite_neg (by omega) (Ev.val Ev.some (by simp)))
  | succ d ih =>
    intro n hd
    obtain ⟨p, p1, p2⟩ := hk _ (getD_mem l zI_Term n (by omega))
    obtain ⟨q, q1, q2⟩ := ih (n + 1) (by omega)
    rw [← wrap_nat (by omega)] at q1
    refine ⟨p && q, ?_, fun st => ?_⟩
    · refine Ev.step (fun k => by simp only [spec_l30Plain.l0]; rfl) (Ev.ite_pos (by omega) (Ev.ite_pos (by omega) (Ev.bind p1 ?_)))
      cases p
      · exact Ev.ite_neg (by decide) Ev.some
      · exact Ev.ite_pos rfl q1
    · refine Ev.step (fun k => by simp only [impl_each_with_impl_plain_1.l0]; rfl) (Ev.ite_pos (by omega) (Ev.ite_pos (by omega) (Ev.ite_pos (by omega) (Ev.bind (p2 st) ?_))))
      rw [wrap_nat (by omega)]
      exact Ev.val (q2 (st && p)) (by rw [Bool.and_assoc])
theorem plain_of (s : List I_Sym) (hs : s.length ≤ maxLen) (n : Nat) : ∀ t : I_Term, el_Term t ≤ n → el_Term t ≤ maxLen → Good s t → Plain s t := by
  induction n using Nat.strongRecOn with
  | _ n ih =>
  intro t hn hm hg
  have hl : t.f2.length ≤ maxLen := by have := el_len t.f2; rw [el_Term_eq] at hm; omega
  have eachStep : ∀ (X st : Bool), Ev (fun k => impl_each_with_impl_plain_1.l0 k t.f2 (t.f2.length : Int) 0 (st && !(t.f0 == -1 || blind s t.f0)) s) X → Ev (fun k => impl_each_with_impl_plain_1.f k t.f0 t.f1 t.f2 st s) X := by
    intro X st h
    refine Ev.step (fun k => by simp only [impl_each_with_impl_plain_1.f]; rfl) (Ev.bind (Ev.cst (r := (st && !(t.f0 == -1 || blind s t.f0))) ?_) h)
    unfold impl_plain_1.f impl_isVar.f
    cases st
    · rfl
    · rw [if_pos rfl, Option.bind_some]
      cases hv : (t.f0 == -1)
      · rw [if_neg (by decide), implBlind_ev s hs, Option.bind_some]
        simp
      · rw [if_pos rfl]
        simp
  cases hg with
  | var _ hv h0 h1 h2 =>
    refine ⟨false, ?_, fun st => ?_⟩
    · refine Ev.step (fun k => by simp only [spec_l30Plain.f]; rfl) (Ev.ite_pos (by omega) ?_)
      refine Ev.step (fun k => by simp only [spec_l30Plain.j0]; rfl) ?_
      exact Ev.some
    · refine eachStep _ st ?_
      refine Ev.step (fun k => by simp only [impl_each_with_impl_plain_1.l0]; rfl) (Ev.ite_neg (by omega) (Ev.val Ev.some ?_))
      rw [hv]
      simp
  | app _ h0 h1 h2 h3 h4 h5 =>
    obtain ⟨p, p1, p2⟩ := plain_loop s t.f0 t.f1 t.f2 hl (fun x hx => ih (el_Term x) (by have := mem_el hx; rw [el_Term_eq] at hn; omega) x (Nat.le_refl _) (by have := mem_el hx; rw [el_Term_eq] at hm; omega) (h5 x hx)) t.f2.length 0 (by omega)
    refine ⟨!blind s t.f0 && p, ?_, fun st => ?_⟩
    · refine Ev.step (fun k => by simp only [spec_l30Plain.f]; rfl) (Ev.ite_neg (by omega) (Ev.bind (Ev.cst (specBlind_ev s hs _)) ?_))
      refine Ev.step (fun k => by simp only [spec_l30Plain.j0]; rfl) ?_
      cases hb : blind s t.f0
      · exact Ev.ite_neg (by decide) p1
      · exact Ev.ite_pos rfl Ev.some
    · refine eachStep _ st ?_
      rw [show (t.f0 == -1) = false from by simp; omega, Bool.false_or]
      exact Ev.val (p2 _) (by rw [Bool.and_assoc])
theorem plain_ex {s : List I_Sym} {t : I_Term} (h : Plain s t) : ∃ p : Bool, Ev (fun k => spec_l30Plain.f k s t.f0 t.f1 t.f2) p ∧ Ev (fun k => impl_plain.f k s t.f0 t.f1 t.f2) p := by
  obtain ⟨p, h1, h2⟩ := h
  refine ⟨p, h1, ?_⟩
  unfold impl_plain.f
  exact Ev.bind (h2 true) (Ev.val Ev.some (by simp))
theorem litOk_ex (s : List I_Sym) (hs : s.length ≤ maxLen) (hn : ∀ x ∈ s, x.f0.size ≤ maxLen) (l : I_Lit) (hm : el_Lit l + 1 ≤ maxLen) : ∃ b : Bool, Ev (fun k => spec_LitOk.f k s l.f0 l.f1.f0 l.f1.f1 l.f1.f2 l.f2.f0 l.f2.f1 l.f2.f2) b ∧ Ev (fun k => impl_LitOk.f k s l.f0 l.f1.f0 l.f1.f1 l.f1.f2 l.f2.f0 l.f2.f1 l.f2.f2) b ∧ (b = true → Plain s l.f1 ∧ Plain s l.f2) := by
  have e : el_Lit l = el_Term l.f1 + el_Term l.f2 := rfl
  obtain ⟨a, a1, a2, a3⟩ := termOk_ex s hs hn l.f1 (by omega)
  obtain ⟨b, b1, b2, b3⟩ := termOk_ex s hs hn l.f2 (by omega)
  obtain ⟨p, p1, p2⟩ := before_ex (a := l.f1) (by omega) l.f2
  unfold spec_LitOk.f impl_LitOk.f
  cases a
  · exact ⟨false, Ev.bind a1 (Ev.ite_neg (by decide) Ev.some), Ev.bind a2 (Ev.ite_neg (by decide) Ev.some), fun e => by cases e⟩
  · cases b
    · exact ⟨false, Ev.bind a1 (Ev.ite_pos rfl (Ev.bind b1 (Ev.ite_neg (by decide) Ev.some))), Ev.bind a2 (Ev.ite_pos rfl (Ev.bind b2 (Ev.ite_neg (by decide) Ev.some))), fun e => by cases e⟩
    · exact ⟨!p, Ev.bind a1 (Ev.ite_pos rfl (Ev.bind b1 (Ev.ite_pos rfl (Ev.bind p1 Ev.some)))), Ev.bind a2 (Ev.ite_pos rfl (Ev.bind b2 (Ev.ite_pos rfl (Ev.bind p2 Ev.some)))), fun _ => ⟨plain_of s hs _ l.f1 (Nat.le_refl _) (by omega) (a3 rfl), plain_of s hs _ l.f2 (Nat.le_refl _) (by omega) (b3 rfl)⟩⟩
/-! #### equations without variables -/
theorem close_loop (s : List I_Sym) (hs : s.length ≤ maxLen) (hn : ∀ x ∈ s, x.f0.size ≤ maxLen) (l : List I_Lit) (hl : l.length ≤ maxLen) (hm : ∀ x ∈ l, el_Lit x + 1 ≤ maxLen) (R : Bool) (hR : Ev (fun k => (spec_SigOk.f k s).bind fun t247 => (if t247 = true then (some (decide ((l.length : Int) ≤ 8))) else (some false))) R) : ∀ d n : Nat, n + d = l.length →
    ∃ g : Bool, Ev (fun k => spec_CloseOk.l0 k s l (n : Int)) (g && R) ∧ ∃ i : Int, decide (i ≥ 0) = !g ∧ Ev (fun k => impl_Lit__with_impl_CloseOk_1_196.l0 k l (l.length : Int) (n : Int) s) i := by
  intro d
  induction d with
  | zero =>
    intro n hd
    refine ⟨true, ?_, -1, by decide, ?_⟩
    · exact Ev.step (fun k => by simp only [spec_CloseOk.l0]; rfl) (Ev.ite_neg (by omega) (Ev.val hR (by simp)))
    · exact Ev.step (fun k => by simp only [impl_Lit__with_impl_CloseOk_1_196.l0]; rfl) (Ev.ite_neg (by omega) Ev.some)
  | succ d ih =>
    intro n hd
    have hx := getD_mem l zI_Lit n (by omega)
    obtain ⟨g, g1, i, g2, g3⟩ := ih (n + 1) (by omega)
    rw [← wrap_nat (by omega)] at g1 g3
    obtain ⟨q, q1, q2, q3⟩ := litOk_ex s hs hn (rd_I_Lit l (n : Int)) (hm _ hx)
    have bad : Ev (fun k => impl_CloseOk_1.f k ((rd_I_Lit l (n : Int)).f0) ((rd_I_Lit l (n : Int)).f1.f0) ((rd_I_Lit l (n : Int)).f1.f1) ((rd_I_Lit l (n : Int)).f1.f2) ((rd_I_Lit l (n : Int)).f2.f0) ((rd_I_Lit l (n : Int)).f2.f1) ((rd_I_Lit l (n : Int)).f2.f2) s) true → Ev (fun k => impl_Lit__with_impl_CloseOk_1_196.l0 k l (l.length : Int) (n : Int) s) (n : Int) := by
      intro h
      refine Ev.step (fun k => by simp only [impl_Lit__with_impl_CloseOk_1_196.l0]; rfl) (Ev.ite_pos (by omega) (Ev.ite_pos (by omega) (Ev.ite_pos (by omega) (Ev.bind h ?_))))
      exact Ev.ite_pos rfl Ev.some
    have hi : decide ((n : Int) ≥ 0) = !false := by simp
    cases q
    · refine ⟨false, ?_, (n : Int), hi, bad ?_⟩
      · refine Ev.step (fun k => by simp only [spec_CloseOk.l0]; rfl) (Ev.ite_pos (by omega) (Ev.ite_pos (by omega) (Ev.bind q1 ?_)))
        exact Ev.ite_neg (by decide) Ev.some
      · unfold impl_CloseOk_1.f
        exact Ev.bind q2 (Ev.ite_neg (by decide) Ev.some)
    · obtain ⟨p, p1, p2⟩ := plain_ex (q3 rfl).1
      obtain ⟨r, r1, r2⟩ := plain_ex (q3 rfl).2
      by_cases hp : (rd_I_Lit l (n : Int)).f0 = true
      · cases p
        · refine ⟨false, ?_, (n : Int), hi, bad ?_⟩
          · refine Ev.step (fun k => by simp only [spec_CloseOk.l0]; rfl) (Ev.ite_pos (by omega) (Ev.ite_pos (by omega) (Ev.bind q1 ?_)))
            exact Ev.ite_pos rfl (Ev.ite_pos hp (Ev.bind p1 (Ev.ite_neg (by decide) Ev.some)))
          · unfold impl_CloseOk_1.f
            exact Ev.bind q2 (Ev.ite_pos rfl (Ev.ite_pos hp (Ev.bind p2 (Ev.ite_neg (by decide) Ev.some))))
        · cases r
          · refine ⟨false, ?_, (n : Int), hi, bad ?_⟩
            · refine Ev.step (fun k => by simp only [spec_CloseOk.l0]; rfl) (Ev.ite_pos (by omega) (Ev.ite_pos (by omega) (Ev.bind q1 ?_)))
              exact Ev.ite_pos rfl (Ev.ite_pos hp (Ev.bind p1 (Ev.ite_pos rfl (Ev.bind r1 (Ev.ite_neg (by decide) Ev.some)))))
            · unfold impl_CloseOk_1.f
              exact Ev.bind q2 (Ev.ite_pos rfl (Ev.ite_pos hp (Ev.bind p2 (Ev.ite_pos rfl (Ev.bind r2 Ev.some)))))
          · refine ⟨g, ?_, i, g2, ?_⟩
            · refine Ev.step (fun k => by simp only [spec_CloseOk.l0]; rfl) (Ev.ite_pos (by omega) (Ev.ite_pos (by omega) (Ev.bind q1 ?_)))
              exact Ev.ite_pos rfl (Ev.ite_pos hp (Ev.bind p1 (Ev.ite_pos rfl (Ev.bind r1 (Ev.ite_pos rfl g1)))))
            · have hb : Ev (fun k => impl_CloseOk_1.f k ((rd_I_Lit l (n : Int)).f0) ((rd_I_Lit l (n : Int)).f1.f0) ((rd_I_Lit l (n : Int)).f1.f1) ((rd_I_Lit l (n : Int)).f1.f2) ((rd_I_Lit l (n : Int)).f2.f0) ((rd_I_Lit l (n : Int)).f2.f1) ((rd_I_Lit l (n : Int)).f2.f2) s) false := by
                unfold impl_CloseOk_1.f
                exact Ev.bind q2 (Ev.ite_pos rfl (Ev.ite_pos hp (Ev.bind p2 (Ev.ite_pos rfl (Ev.bind r2 Ev.some)))))
              refine Ev.step (fun k => by simp only [impl_Lit__with_impl_CloseOk_1_196.l0]; rfl) (Ev.ite_pos (by omega) (Ev.ite_pos (by omega) (Ev.ite_pos (by omega) (Ev.bind hb ?_))))
              exact Ev.ite_neg (by decide) g3
      · refine ⟨false, ?_, (n : Int), hi, bad ?_⟩
        · refine Ev.step (fun k => by simp only [spec_CloseOk.l0]; rfl) (Ev.ite_pos (by omega) (Ev.ite_pos (by omega) (Ev.bind q1 ?_)))
          exact Ev.ite_pos rfl (Ev.ite_neg hp Ev.some)
        · unfold impl_CloseOk_1.f
          exact Ev.bind q2 (Ev.ite_pos rfl (Ev.ite_neg hp Ev.some))
theorem closeOk_ex (s : List I_Sym) (hs : s.length ≤ maxLen) (hn : ∀ x ∈ s, x.f0.size ≤ maxLen) (l : List I_Lit) (hl : l.length ≤ maxLen) (hm : ∀ x ∈ l, el_Lit x + 1 ≤ maxLen) : ∃ b : Bool, Ev (fun k => spec_CloseOk.f k s l) b ∧ Ev (fun k => impl_CloseOk.f k s l) b := by
  have hR : Ev (fun k => (spec_SigOk.f k s).bind fun t247 => (if t247 = true then (some (decide ((l.length : Int) ≤ 8))) else (some false))) (sigOk s && decide ((l.length : Int) ≤ 8)) := by
    refine Ev.bind (specSigOk_ev s hs hn) ?_
    cases sigOk s
    · exact Ev.ite_neg (by decide) Ev.some
    · exact Ev.ite_pos rfl (Ev.val Ev.some (by simp))
  obtain ⟨g, g1, i, g2, g3⟩ := close_loop s hs hn l hl hm _ hR l.length 0 (by omega)
  refine ⟨_, by unfold spec_CloseOk.f; exact g1, ?_⟩
  unfold impl_CloseOk.f
  refine Ev.bind (implSigOk_ev s hs hn) ?_
  cases sigOk s
  · exact Ev.ite_neg (by decide) (Ev.val Ev.some (by simp))
  · refine Ev.ite_pos rfl ?_
    by_cases h8 : (l.length : Int) ≤ 8
    · have hc : Ev (fun k => impl_Lit__with_impl_CloseOk_1_195.f k l s) (!g) := by
        unfold impl_Lit__with_impl_CloseOk_1_195.f impl_Lit__with_impl_CloseOk_1_196.f
        exact Ev.bind g3 (Ev.val Ev.some g2)
      refine Ev.ite_pos h8 (Ev.bind hc ?_)
      rw [decide_eq_true h8, Bool.not_not]
      exact Ev.val Ev.some (by simp)
    · exact Ev.ite_neg h8 (Ev.val Ev.some (by simp [h8]))
theorem litS_el {l : List L_Lit} (h : sz_LitS l ≤ 1048576) : (cv_LitS l).length ≤ maxLen ∧ ∀ x ∈ cv_LitS l, el_Lit x + 1 ≤ maxLen := by
  have hM : maxLen = 9223372036854775807 := rfl
  have h2 := el_cv_LitS l
  unfold el_LitS at h2
  refine ⟨by omega, fun x hx => ?_⟩
  have := mem_size el_Lit hx
  omega
theorem FnExactCloseOk : laws_FnExactCloseOk.Pure := by
  intro s l hs hl
  refine Ev.rounds (g := fun k => laws_FnExactCloseOk.f k s l) ?_
  unfold laws_FnExactCloseOk.f
  have hm : maxLen = 9223372036854775807 := rfl
  refine law_sz (by omega) (by omega) (szSymS_ev s hs 1048576 (by omega) (by omega)) fun q1 a1 b1 S1 => ?_
  refine Ev.nxt ?_
  simp only [laws_FnExactCloseOk.j0]
  refine law_sz a1 b1 (szLitS_ev l hl q1 a1 b1) fun q2 a2 b2 S2 => ?_
  obtain ⟨b, X1, X2⟩ := closeOk_ex (cv_SymS s) (by have := el_cv_SymS s; unfold el_SymS at this; omega) (names_cv S1) (cv_LitS l) (litS_el S2).1 (litS_el S2).2
  have E1 : el_SymS (cv_SymS s) ≤ maxLen := by have := el_cv_SymS s; omega
  have E2 : el_LitS (cv_LitS l) ≤ maxLen := by have := el_cv_LitS l; omega
  refine Ev.nxt ?_
  simp only [laws_FnExactCloseOk.j1]
  refine Ev.bind (toSymS_ev s S1) ?_
  refine Ev.bind (toLitS_ev l S2) ?_
  refine Ev.bind X1 ?_
  refine Ev.bind (toSymS_ev s S1) ?_
  refine Ev.bind (toLitS_ev l S2) ?_
  refine Ev.bind X2 ?_
  refine Ev.ite_neg (by simp) ?_
  refine Ev.nxt ?_
  simp only [laws_FnExactCloseOk.j2]
  refine Ev.bind (toSymS_ev s S1) ?_
  refine Ev.bind (eqSymS_ev (cv_SymS s) E1) (Ev.ite_pos rfl ?_)
  refine Ev.nxt ?_
  simp only [laws_FnExactCloseOk.j3]
  refine Ev.bind (toLitS_ev l S2) ?_
  refine Ev.bind (eqLitS_ev (cv_LitS l) E2) (Ev.ite_pos rfl ?_)
  exact Ev.some
end Go.Proofs.Ytcboagkbcoihjaa.Pure
