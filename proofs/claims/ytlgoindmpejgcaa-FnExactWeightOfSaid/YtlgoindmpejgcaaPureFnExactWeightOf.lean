/- The program's WeightOf returns what the reference's returns, for all arguments. -/
import Derived.Test.YtlgoindmpejgcaaXWeightOfh
namespace Go.Proofs.Ytlgoindmpejgcaa.Pure
open Go.RowKit Go.Proofs.Ytlgoindmpejgcaa.XWeightOf Go.Proofs.Ytlgoindmpejgcaa.XPure Go.Proofs.YtlgoindmpejgcaaW.PrintWords Go.Proofs.YtlgoindmpejgcaaW.PrintLast Go.Proofs.YtlgoindmpejgcaaW.PrintMore
set_option linter.unusedVariables false
set_option linter.unusedSimpArgs false
/-! #### which functions are blind -/
theorem specIn_ev (a b c : Int) : spec_l1In.f a b c = some (decide (b ≤ a) && decide (a ≤ c)) := by
  unfold spec_l1In.f
  by_cases h : a ≥ b
  · rw [if_pos h]; simp [show b ≤ a from h]
  · rw [if_neg h]; simp [show ¬ b ≤ a from h]
theorem implIn_ev (a b c : Int) : impl_from.f a b c = some (decide (b ≤ a) && decide (a ≤ c)) := by
  unfold impl_from.f
  by_cases h : a ≥ b
  · rw [if_pos h]; simp [show b ≤ a from h]
  · rw [if_neg h]; simp [show ¬ b ≤ a from h]
def isSym (l : List I_Sym) (f : Int) : Bool := decide (0 ≤ f) && decide (f ≤ (l.length : Int) - 1)
def blind (l : List I_Sym) (f : Int) : Bool := isSym l f && (rd_I_Sym l f).f2
theorem len_wrap {l : List I_Sym} (hl : l.length ≤ maxLen) : wrap64 ((l.length : Int) - 1) = (l.length : Int) - 1 := by
  have hm : maxLen = 9223372036854775807 := rfl
  exact wrap_id (by omega) (by omega)
theorem specBlind_ev (l : List I_Sym) (hl : l.length ≤ maxLen) (f : Int) : spec_Blind.f l f = some (blind l f) := by
  unfold spec_Blind.f
  rw [len_wrap hl, specIn_ev, Option.bind_some]
  unfold blind isSym
  by_cases h0 : 0 ≤ f <;> by_cases h1 : f ≤ (l.length : Int) - 1 <;> simp [h0, h1]
  omega
theorem implIsSym_ev (l : List I_Sym) (hl : l.length ≤ maxLen) (f : Int) : impl_isSym.f l f = some (isSym l f) := by
  unfold impl_isSym.f
  rw [len_wrap hl, implIn_ev, Option.bind_some]
  rfl
theorem implBlind_ev (l : List I_Sym) (hl : l.length ≤ maxLen) (f : Int) : impl_Blind.f l f = some (blind l f) := by
  unfold impl_Blind.f
  rw [implIsSym_ev l hl, Option.bind_some]
  unfold blind isSym
  by_cases h0 : 0 ≤ f <;> by_cases h1 : f ≤ (l.length : Int) - 1 <;> simp [h0, h1]
  omega
theorem elSymS_len {l : List I_Sym} (h : el_SymS l ≤ maxLen) : l.length ≤ maxLen := by unfold el_SymS at h; omega
/-! #### weights -/
def w0 (s : List I_Sym) (f : Int) (n : Nat) : Int := if (blind s f && decide ((n : Int) > 0)) = true then wrap64 ((n : Int) - 1) else 1
mutual
def weight (s : List I_Sym) : I_Term → Int
  | ⟨f, _, ks⟩ => weights s ks (w0 s f ks.length)
def weights (s : List I_Sym) : List I_Term → Int → Int
  | [], n => n
  | t :: ts, n => weights s ts (wrap64 (n + weight s t))
end
theorem weights_eq (s : List I_Sym) : ∀ (l : List I_Term) (n : Int), weights s l n = l.foldl (fun n t => wrap64 (n + weight s t)) n := by
  intro l
  induction l with
  | nil => intro n; rfl
  | cons t ts ih => intro n; rw [weights, ih, List.foldl_cons]
theorem weight_eq (s : List I_Sym) (t : I_Term) : weight s t = t.f2.foldl (fun n t => wrap64 (n + weight s t)) (w0 s t.f0 t.f2.length) := by
  cases t
  rw [weight, weights_eq]
theorem mem_el {l : List I_Term} {y : I_Term} (h : y ∈ l) : el_Term y + 1 ≤ el_TermS l := by
  rw [el_TermS_eq]
  exact mem_size el_Term h
theorem el_len (l : List I_Term) : l.length ≤ el_TermS l := by rw [el_TermS_eq]; omega
theorem specWeight_ev (s : List I_Sym) (hs : s.length ≤ maxLen) (n : Nat) : ∀ t : I_Term, el_Term t ≤ n → el_Term t ≤ maxLen → Ev (fun k => spec_Weight.f k s t.f0 t.f1 t.f2) (weight s t) := by
  induction n using Nat.strongRecOn with
  | _ n ih =>
  intro t hn hm
  have hl : t.f2.length ≤ maxLen := by have := el_len t.f2; rw [el_Term_eq] at hm; omega
  have loop : ∀ m : Int, Ev (fun k => spec_Weight.l0 k s m 0 t.f0 t.f1 t.f2) (t.f2.foldl (fun n t => wrap64 (n + weight s t)) m) := fun m =>
    fold_index t.f2 zI_Term hl (fun k m i => spec_Weight.l0 k s m i t.f0 t.f1 t.f2) (fun k x m => (spec_Weight.f k s x.f0 x.f1 x.f2).bind fun q => some (wrap64 (m + q))) (fun _ m => some m)
      (fun k m i => by simp only [spec_Weight.l0, rd_I_Term, Option.bind_assoc, Option.bind_some] <;> rfl) (fun n t => wrap64 (n + weight s t)) (fun _ => True)
      (fun x hx m _ => ⟨Ev.bind (ih (el_Term x) (by have := mem_el hx; rw [el_Term_eq] at hn; omega) x (Nat.le_refl _) (by have := mem_el hx; rw [el_Term_eq] at hm; omega)) Ev.some, trivial⟩) m trivial _ (fun _ => Ev.some)
  have j0 : ∀ b : Bool, Ev (fun k => spec_Weight.j0 k s 1 b t.f0 t.f1 t.f2) (t.f2.foldl (fun n t => wrap64 (n + weight s t)) (if b = true then wrap64 ((t.f2.length : Int) - 1) else 1)) := by
    intro b
    cases b
    · exact Ev.step (f := fun k => spec_Weight.j1 k s 1 t.f0 t.f1 t.f2) (fun k => by simp [spec_Weight.j0]) (Ev.step (f := fun k => spec_Weight.l0 k s 1 0 t.f0 t.f1 t.f2) (fun k => by simp only [spec_Weight.j1]) (loop 1))
    · exact Ev.step (f := fun k => spec_Weight.j1 k s (wrap64 ((t.f2.length : Int) - 1)) t.f0 t.f1 t.f2) (fun k => by simp [spec_Weight.j0]) (Ev.step (f := fun k => spec_Weight.l0 k s (wrap64 ((t.f2.length : Int) - 1)) 0 t.f0 t.f1 t.f2) (fun k => by simp only [spec_Weight.j1]) (loop _))
  refine Ev.step (f := fun k => if blind s t.f0 = true then spec_Weight.j0 k s 1 (decide ((t.f2.length : Int) > 0)) t.f0 t.f1 t.f2 else spec_Weight.j0 k s 1 false t.f0 t.f1 t.f2) (fun k => by simp only [spec_Weight.f, specBlind_ev s hs, Option.bind_some]) ?_
  rw [weight_eq]
  by_cases hb : blind s t.f0 = true
  · refine Ev.ite_pos hb (Ev.val (j0 _) ?_)
    unfold w0
    rw [hb, Bool.true_and]
  · refine Ev.ite_neg hb (Ev.val (j0 _) ?_)
    unfold w0
    rw [Bool.eq_false_iff.2 hb, Bool.false_and]
theorem implWeight_ev (s : List I_Sym) (hs : s.length ≤ maxLen) (n : Nat) : ∀ t : I_Term, el_Term t ≤ n → el_Term t ≤ maxLen → Ev (fun k => impl_Weight.f k s t.f0 t.f1 t.f2) (weight s t) := by
  induction n using Nat.strongRecOn with
  | _ n ih =>
  intro t hn hm
  have hl : t.f2.length ≤ maxLen := by have := el_len t.f2; rw [el_Term_eq] at hm; omega
  have loop : ∀ m : Int, Ev (fun k => impl_Weight.l0 k s m t.f2 (t.f2.length : Int) 0) (t.f2.foldl (fun n t => wrap64 (n + weight s t)) m) := fun m =>
    fold_range t.f2 zI_Term hl (fun k m i => impl_Weight.l0 k s m t.f2 (t.f2.length : Int) i) (fun k x m => (impl_Weight.f k s x.f0 x.f1 x.f2).bind fun q => some (wrap64 (m + q))) (fun _ m => some m)
      (fun k m i => by simp only [impl_Weight.l0, rd_I_Term, Option.bind_assoc, Option.bind_some] <;> rfl) (fun n t => wrap64 (n + weight s t)) (fun _ => True)
      (fun x hx m _ => ⟨Ev.bind (ih (el_Term x) (by have := mem_el hx; rw [el_Term_eq] at hn; omega) x (Nat.le_refl _) (by have := mem_el hx; rw [el_Term_eq] at hm; omega)) Ev.some, trivial⟩) m trivial _ (fun _ => Ev.some)
  have j0 : ∀ b : Bool, Ev (fun k => impl_Weight.j0 k s 1 b t.f0 t.f1 t.f2) (t.f2.foldl (fun n t => wrap64 (n + weight s t)) (if b = true then wrap64 ((t.f2.length : Int) - 1) else 1)) := by
    intro b
    cases b
    · exact Ev.step (f := fun k => impl_Weight.j1 k s 1 t.f0 t.f1 t.f2) (fun k => by simp [impl_Weight.j0]) (Ev.step (f := fun k => impl_Weight.l0 k s 1 t.f2 (t.f2.length : Int) 0) (fun k => by simp only [impl_Weight.j1]) (loop 1))
    · exact Ev.step (f := fun k => impl_Weight.j1 k s (wrap64 ((t.f2.length : Int) - 1)) t.f0 t.f1 t.f2) (fun k => by simp [impl_Weight.j0]) (Ev.step (f := fun k => impl_Weight.l0 k s (wrap64 ((t.f2.length : Int) - 1)) t.f2 (t.f2.length : Int) 0) (fun k => by simp only [impl_Weight.j1]) (loop _))
  refine Ev.step (f := fun k => if blind s t.f0 = true then impl_Weight.j0 k s 1 (decide ((t.f2.length : Int) > 0)) t.f0 t.f1 t.f2 else impl_Weight.j0 k s 1 false t.f0 t.f1 t.f2) (fun k => by simp only [impl_Weight.f, implBlind_ev s hs, Option.bind_some]) ?_
  rw [weight_eq]
  by_cases hb : blind s t.f0 = true
  · refine Ev.ite_pos hb (Ev.val (j0 _) ?_)
    unfold w0
    rw [hb, Bool.true_and]
  · refine Ev.ite_neg hb (Ev.val (j0 _) ?_)
    unfold w0
    rw [Bool.eq_false_iff.2 hb, Bool.false_and]
def weightOf (s : List I_Sym) (l : List I_Lit) : Int := l.foldl (fun n x => wrap64 (n + (weight s x.f1 + weight s x.f2))) 0
theorem wrap_add (a b : Int) : wrap64 (wrap64 a + b) = wrap64 (a + b) := by unfold wrap64; omega
theorem wrap_add2 (a b : Int) : wrap64 (a + wrap64 b) = wrap64 (a + b) := by unfold wrap64; omega
theorem mem_elLit {l : List I_Lit} {x : I_Lit} (h : x ∈ l) : el_Term x.f1 ≤ el_LitS l ∧ el_Term x.f2 ≤ el_LitS l := by
  have := mem_size el_Lit h
  simp only [el_Lit] at this
  unfold el_LitS
  omega
theorem specWeightOf_ev (s : List I_Sym) (hs : s.length ≤ maxLen) (l : List I_Lit) (hl : el_LitS l ≤ maxLen) : Ev (fun k => spec_WeightOf.f k s l) (weightOf s l) := by
  unfold spec_WeightOf.f
  exact fold_index l zI_Lit (by unfold el_LitS at hl; omega) (fun k m i => spec_WeightOf.l0 k s m i l) (fun k x m => (spec_Weight.f k s x.f1.f0 x.f1.f1 x.f1.f2).bind fun p => (spec_Weight.f k s x.f2.f0 x.f2.f1 x.f2.f2).bind fun q => some (wrap64 (wrap64 (m + p) + q))) (fun _ m => some m)
    (fun k m i => by simp only [spec_WeightOf.l0, rd_I_Lit, Option.bind_assoc, Option.bind_some] <;> rfl) (fun n x => wrap64 (n + (weight s x.f1 + weight s x.f2))) (fun _ => True)
    (fun x hx m _ => ⟨by
      have h := mem_elLit hx
      refine Ev.bind (specWeight_ev s hs _ x.f1 (Nat.le_refl _) (by omega)) (Ev.bind (specWeight_ev s hs _ x.f2 (Nat.le_refl _) (by omega)) (Ev.val Ev.some ?_))
      rw [wrap_add, Int.add_assoc], trivial⟩) 0 trivial _ (fun _ => Ev.some)
theorem implWeightOf_ev (s : List I_Sym) (hs : s.length ≤ maxLen) (l : List I_Lit) (hl : el_LitS l ≤ maxLen) : Ev (fun k => impl_WeightOf.f k s l) (weightOf s l) := by
  unfold impl_WeightOf.f
  exact fold_range l zI_Lit (by unfold el_LitS at hl; omega) (fun k m i => impl_WeightOf.l0 k s m l (l.length : Int) i) (fun k x m => (impl_Weight.f k s x.f1.f0 x.f1.f1 x.f1.f2).bind fun p => (impl_Weight.f k s x.f2.f0 x.f2.f1 x.f2.f2).bind fun q => some (wrap64 (m + wrap64 (p + q)))) (fun _ m => some m)
    (fun k m i => by simp only [impl_WeightOf.l0, rd_I_Lit, Option.bind_assoc, Option.bind_some] <;> rfl) (fun n x => wrap64 (n + (weight s x.f1 + weight s x.f2))) (fun _ => True)
    (fun x hx m _ => ⟨by
      have h := mem_elLit hx
      refine Ev.bind (implWeight_ev s hs _ x.f1 (Nat.le_refl _) (by omega)) (Ev.bind (implWeight_ev s hs _ x.f2 (Nat.le_refl _) (by omega)) (Ev.val Ev.some ?_))
      rw [wrap_add2], trivial⟩) 0 trivial _ (fun _ => Ev.some)
theorem el_lits {x : I_Clause} (h : el_Clause x ≤ maxLen) : el_LitS x.f0 ≤ maxLen := by simp only [el_Clause] at h; omega
theorem FnExactWeightOf : laws_FnExactWeightOf.Pure := by
  intro l0 l_0 hl0 hl_0
  refine Ev.rounds (g := fun k => laws_FnExactWeightOf.f k l0 l_0) ?_
  unfold laws_FnExactWeightOf.f
  have hm : maxLen = 9223372036854775807 := rfl
  have W2 : Wf_L_Clause (⟨l_0⟩ : L_Clause) := hl_0
  refine law_sz (by omega) (by omega) (szSymS_ev l0 hl0 1048576 (by omega) (by omega)) fun q1 a1 b1 S1 => ?_
  refine Ev.nxt ?_
  simp only [laws_FnExactWeightOf.j0]
  refine law_sz a1 b1 (szClause_ev (⟨l_0⟩ : L_Clause) W2 q1 a1 b1) fun q2 a2 b2 S2 => ?_
  have E1 : el_SymS (cv_SymS l0) ≤ maxLen := by have := el_cv_SymS l0; omega
  have E2 : el_Clause (cv_Clause (⟨l_0⟩ : L_Clause)) ≤ maxLen := by have := el_cv_Clause (⟨l_0⟩ : L_Clause); omega
  refine Ev.nxt ?_
  simp only [laws_FnExactWeightOf.j1]
  refine Ev.bind (toSymS_ev l0 S1) ?_
  refine Ev.bind (toClause_ev (⟨l_0⟩ : L_Clause) S2) ?_
  refine Ev.bind (specWeightOf_ev _ (elSymS_len E1) _ (el_lits E2)) ?_
  refine Ev.bind (toSymS_ev l0 S1) ?_
  refine Ev.bind (toClause_ev (⟨l_0⟩ : L_Clause) S2) ?_
  refine Ev.bind (implWeightOf_ev _ (elSymS_len E1) _ (el_lits E2)) ?_
  refine Ev.ite_pos rfl ?_
  refine Ev.nxt ?_
  simp only [laws_FnExactWeightOf.j2]
  refine Ev.bind (toSymS_ev l0 S1) ?_
  refine Ev.bind (eqSymS_ev (cv_SymS l0) E1) (Ev.ite_pos rfl ?_)
  refine Ev.nxt ?_
  simp only [laws_FnExactWeightOf.j3]
  refine Ev.bind (toClause_ev (⟨l_0⟩ : L_Clause) S2) ?_
  refine Ev.bind (eqClause_ev (cv_Clause (⟨l_0⟩ : L_Clause)) E2) (Ev.ite_pos rfl ?_)
  exact Ev.some
end Go.Proofs.Ytlgoindmpejgcaa.Pure
