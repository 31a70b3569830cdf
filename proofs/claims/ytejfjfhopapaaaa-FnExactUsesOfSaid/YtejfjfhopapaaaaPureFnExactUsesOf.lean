/- The program's UsesOf returns what the reference's returns, for all arguments. -/
import Derived.Test.YtejfjfhopapaaaaXUsesOfh
namespace Go.Proofs.Ytejfjfhopapaaaa.Pure
open Go.RowKit Go.Proofs.Ytejfjfhopapaaaa.XUsesOf Go.Proofs.Ytejfjfhopapaaaa.XPure Go.Proofs.YtejfjfhopapaaaaW.PrintWords Go.Proofs.YtejfjfhopapaaaaW.PrintLast Go.Proofs.YtejfjfhopapaaaaW.PrintMore
set_option linter.unusedVariables false
set_option linter.unusedSimpArgs false
/-! #### the steps ahead on which a step stands -/
def inR (a b c : Int) : Bool := decide (b ≤ a) && decide (a ≤ c)
theorem specInR (a b c : Int) : spec_l1In.f a b c = some (inR a b c) := by
  unfold spec_l1In.f inR
  by_cases h : a ≥ b
  · rw [if_pos h]; simp [show b ≤ a from h]
  · rw [if_neg h]; simp [show ¬ b ≤ a from h]
theorem implInR (a b c : Int) : impl_from.f a b c = some (inR a b c) := by
  unfold impl_from.f inR
  by_cases h : a ≥ b
  · rw [if_pos h]; simp [show b ≤ a from h]
  · rw [if_neg h]; simp [show ¬ b ≤ a from h]
def ix (l : List Int) (x : Int) : Nat → Nat → Int
  | 0, _ => -1
  | d + 1, i => if x = rd l (i : Int) then (i : Int) else ix l x d (i + 1)
theorem index_ev (l : List Int) (hl : l.length ≤ maxLen) (x : Int) : Ev (fun q => slices_Index_int_int.f q l x) (ix l x l.length 0) := by
  have hm : maxLen = 9223372036854775807 := rfl
  have key : ∀ d i : Nat, i + d = l.length → Ev (fun q => slices_Index_int_int.l0 q l x (l.length : Int) (i : Int)) (ix l x d i) := by
    intro d
    induction d with
    | zero => intro i hi; exact Ev.step (fun q => by simp only [slices_Index_int_int.l0]; rfl) (Ev.ite_neg (by omega) Ev.some)
    | succ d ih =>
      intro i hi
      refine Ev.step (fun q => by simp only [slices_Index_int_int.l0]; rfl) (Ev.ite_pos (by omega) (Ev.ite_pos (by omega) (Ev.ite_pos (by omega) ?_)))
      rw [ix]
      by_cases e : x = rd l (i : Int)
      · rw [if_pos e]
        exact Ev.ite_pos e Ev.some
      · rw [if_neg e, wrap_nat (by omega)]
        exact Ev.ite_neg e (ih (i + 1) (by omega))
  exact key l.length 0 (by omega)
theorem ix_mem (l : List Int) (x : Int) : ∀ d i : Nat, i + d = l.length → (decide (ix l x d i ≥ 0) = decide (x ∈ l.drop i)) := by
  intro d
  induction d with
  | zero => intro i hi; rw [List.drop_of_length_le (by omega)]; simp [ix]
  | succ d ih =>
    intro i hi
    rw [ix, getD_drop l 0 i (by omega)]
    by_cases e : x = rd l (i : Int)
    · rw [if_pos e]
      have : x = l.getD i 0 := e
      exact decide_eq_decide.2 ⟨fun _ => List.mem_cons.2 (.inl this), fun _ => by omega⟩
    · rw [if_neg e, ih (i + 1) (by omega)]
      have : ¬ x = l.getD i 0 := e
      simp only [List.mem_cons, this, false_or]
theorem implNumIn_ev (l : List Int) (hl : l.length ≤ maxLen) (x : Int) : Ev (fun q => impl_NumIn.f q l x) (decide (x ∈ l)) := by
  unfold impl_NumIn.f
  refine Ev.bind (?_ : Ev (fun q => slices_Contains_int_int.f q l x) (decide (x ∈ l))) Ev.some
  unfold slices_Contains_int_int.f
  refine Ev.bind (index_ev l hl x) (Ev.val Ev.some ?_)
  have := ix_mem l x l.length 0 (by omega)
  rw [List.drop_zero] at this
  exact this
/-- the first place of what is more -/
def ixG (l : List Int) (x : Int) : Nat → Nat → Int
  | 0, _ => -1
  | d + 1, i => if rd l (i : Int) > x then (i : Int) else ixG l x d (i + 1)
theorem ixG_range (l : List Int) (x : Int) : ∀ d i : Nat, ixG l x d i < 0 ∨ (0 ≤ ixG l x d i ∧ ixG l x d i < i + d) := by
  intro d
  induction d with
  | zero => intro i; rw [ixG]; omega
  | succ d ih =>
    intro i
    rw [ixG]
    by_cases e : rd l (i : Int) > x
    · rw [if_pos e]; omega
    · rw [if_neg e]; have := ih (i + 1); omega
theorem indexG_ev (l : List Int) (hl : l.length ≤ maxLen) (x : Int) : Ev (fun q => slices_IndexFunc_int_int__with_impl_NumAdd_1.f q l x) (ixG l x l.length 0) := by
  have hm : maxLen = 9223372036854775807 := rfl
  have key : ∀ d i : Nat, i + d = l.length → Ev (fun q => slices_IndexFunc_int_int__with_impl_NumAdd_1.l0 q l (l.length : Int) (i : Int) x) (ixG l x d i) := by
    intro d
    induction d with
    | zero => intro i hi; exact Ev.step (fun q => by simp only [slices_IndexFunc_int_int__with_impl_NumAdd_1.l0]; rfl) (Ev.ite_neg (by omega) Ev.some)
    | succ d ih =>
      intro i hi
      refine Ev.step (fun q => by simp only [slices_IndexFunc_int_int__with_impl_NumAdd_1.l0]; rfl) (Ev.ite_pos (by omega) (Ev.ite_pos (by omega) (Ev.ite_pos (by omega) (Ev.bind (Ev.cst (by unfold impl_NumAdd_1.f; rfl)) ?_))))
      rw [ixG]
      by_cases e : rd l (i : Int) > x
      · rw [if_pos e]
        exact Ev.ite_pos (by simpa using e) Ev.some
      · rw [if_neg e, wrap_nat (by omega)]
        exact Ev.ite_neg (by simpa using e) (ih (i + 1) (by omega))
  exact key l.length 0 (by omega)
/-- a number more in a list in order -/
def nadd (l : List Int) (x : Int) : List Int := if x ∈ l then l else l.take (if ixG l x l.length 0 < 0 then (l.length : Int) else ixG l x l.length 0).toNat ++ x :: l.drop (if ixG l x l.length 0 < 0 then (l.length : Int) else ixG l x l.length 0).toNat
theorem nadd_mem (l : List Int) (x y : Int) : y ∈ nadd l x ↔ y ∈ l ∨ y = x := by
  unfold nadd
  by_cases h : x ∈ l
  · rw [if_pos h]
    constructor
    · exact .inl
    · rintro (h1 | rfl)
      · exact h1
      · exact h
  · rw [if_neg h]
    generalize (if ixG l x l.length 0 < 0 then (l.length : Int) else ixG l x l.length 0).toNat = n
    have e : y ∈ l ↔ y ∈ l.take n ∨ y ∈ l.drop n := by rw [← List.mem_append, List.take_append_drop]
    rw [e, List.mem_append, List.mem_cons]
    constructor
    · rintro (h1 | h1 | h1)
      · exact .inl (.inl h1)
      · exact .inr h1
      · exact .inl (.inr h1)
    · rintro ((h1 | h1) | h1)
      · exact .inl h1
      · exact .inr (.inr h1)
      · exact .inr (.inl h1)
theorem nadd_len (l : List Int) (x : Int) : (nadd l x).length ≤ l.length + 1 := by
  unfold nadd
  by_cases h : x ∈ l
  · rw [if_pos h]; omega
  · rw [if_neg h, List.length_append, List.length_cons, List.length_take, List.length_drop]
    omega
theorem implNumAdd_ev (l : List Int) (hl : l.length ≤ 1048577) (x : Int) : Ev (fun q => impl_NumAdd.f q l x) (nadd l x) := by
  have hm : maxLen = 9223372036854775807 := rfl
  unfold impl_NumAdd.f
  have hc : slices_Clone_int_int.f l = some l := by
    unfold slices_Clone_int_int.f
    rw [Option.bind_some, if_pos (by simp; omega), List.nil_append]
  refine Ev.bind (Ev.cst hc) (Ev.bind (implNumIn_ev l (by omega) x) ?_)
  unfold nadd
  by_cases h : x ∈ l
  · rw [if_pos h]
    exact Ev.ite_pos (decide_eq_true h) Ev.some
  · rw [if_neg h]
    refine Ev.ite_neg (by simpa using h) (Ev.bind (indexG_ev l (by omega) x) ?_)
    have hr := ixG_range l x l.length 0
    have hi : ∀ j : Int, 0 ≤ j → j ≤ l.length → slices_Insert_int_int.f l j [x] = some (l.take j.toNat ++ x :: l.drop j.toNat) := by
      intro j h0 h1
      unfold slices_Insert_int_int.f
      rw [if_pos h0, if_pos h1, if_pos (by simp), if_pos (by omega)]
      rfl
    by_cases hn : ixG l x l.length 0 < 0
    · exact Ev.ite_pos hn (Ev.bind (Ev.cst (hi (l.length : Int) (by omega) (by omega))) (Ev.val Ev.some (by rw [if_pos hn])))
    · exact Ev.ite_neg hn (Ev.bind (Ev.cst (hi (ixG l x l.length 0) (by omega) (by omega))) (Ev.val Ev.some (by rw [if_neg hn])))
/-- what a step stands on -/
def onA (p : I_Step) (n : Int) : List Int := if p.f0 ≠ 1 ∧ inR p.f1 0 (wrap64 (n - 1)) = true then [p.f1] else []
def twoB (p : I_Step) : Bool := decide (p.f0 = 4) || decide (p.f0 = 5)
def onB (p : I_Step) (n : Int) : Bool := twoB p && inR p.f2 0 (wrap64 (n - 1))
def sOn (p : I_Step) (n : Int) : List Int := if onB p n = true then onA p n ++ [p.f2] else onA p n
def iOn (p : I_Step) (n : Int) : List Int := if onB p n = true then nadd (onA p n) p.f2 else onA p n
theorem onA_len (p : I_Step) (n : Int) : (onA p n).length ≤ 1 := by unfold onA; split <;> simp
theorem sOn_len (p : I_Step) (n : Int) : (sOn p n).length ≤ 2 := by have := onA_len p n; unfold sOn; split <;> simp <;> omega
theorem iOn_len (p : I_Step) (n : Int) : (iOn p n).length ≤ 2 := by
  have := onA_len p n; unfold iOn
  split
  · have := nadd_len (onA p n) p.f2; omega
  · omega
theorem on_mem (p : I_Step) (n y : Int) : y ∈ iOn p n ↔ y ∈ sOn p n := by
  unfold iOn sOn
  by_cases h : onB p n = true
  · rw [if_pos h, if_pos h, nadd_mem, List.mem_append, List.mem_singleton]
  · rw [if_neg h, if_neg h]
theorem sOn_range (p : I_Step) (n : Int) (h0 : 0 ≤ n) (h1 : n ≤ 1048577) : ∀ y ∈ sOn p n, 0 ≤ y ∧ y < n := by
  intro y hy
  have hw : wrap64 (n - 1) = n - 1 := wrap_id (by omega) (by omega)
  have hA : ∀ y ∈ onA p n, 0 ≤ y ∧ y < n := by
    intro y hy
    unfold onA at hy
    split at hy
    · rename_i h
      rw [List.mem_singleton] at hy
      subst hy
      have := h.2
      rw [hw] at this
      simp [inR] at this
      omega
    · cases hy
  unfold sOn at hy
  split at hy
  · rename_i h
    rw [List.mem_append, List.mem_singleton] at hy
    rcases hy with hy | rfl
    · exact hA y hy
    · unfold onB at h
      rw [Bool.and_eq_true, hw] at h
      have := h.2
      simp [inR] at this
      omega
  · exact hA y hy
theorem specTwo_ev (p : I_Step) : spec_l26Two.f p.f0 p.f1 p.f2 p.f3 p.f4 p.f5 p.f6 p.f7 p.f8 p.f9 p.f10.f0 = some (twoB p) := by
  unfold spec_l26Two.f twoB
  by_cases h : p.f0 = 4
  · rw [if_pos h]; simp [h]
  · rw [if_neg h]; simp [h]; rfl
theorem implTwo_ev (p : I_Step) : impl_usesB.f p.f0 p.f1 p.f2 p.f3 p.f4 p.f5 p.f6 p.f7 p.f8 p.f9 p.f10.f0 = some (twoB p) := by
  unfold impl_usesB.f twoB
  by_cases h : p.f0 = 4
  · rw [if_pos h]; simp [h]
  · rw [if_neg h]; simp [h]; rfl
theorem specOn_ev (l : List I_Step) (n : Int) (h0 : 0 ≤ n) (h1 : n < (l.length : Int)) : Ev (fun q => spec_l26On.f q l n) (sOn (rd_I_Step l n) n) := by
  generalize hp : rd_I_Step l n = p
  unfold spec_l26On.f
  refine Ev.ite_pos h0 (Ev.ite_pos h1 (Ev.bind (Ev.cst rfl) ?_))
  rw [hp]
  have hj1 : ∀ x : List Int, x.length ≤ 1 → Ev (fun q => spec_l26On.j1 q n x p.f0 p.f1 p.f2 p.f3 p.f4 p.f5 p.f6 p.f7 p.f8 p.f9 p.f10.f0) (if onB p n = true then x ++ [p.f2] else x) := by
    intro x hx
    refine Ev.nxt ?_
    simp only [spec_l26On.j1]
    refine Ev.bind (Ev.cst (specTwo_ev p)) ?_
    unfold onB
    by_cases h2 : twoB p = true
    · refine Ev.ite_pos h2 (Ev.bind (Ev.cst (specInR _ _ _)) ?_)
      rw [h2, Bool.true_and]
      by_cases h3 : inR p.f2 0 (wrap64 (n - 1)) = true
      · exact Ev.ite_pos h3 (Ev.ite_pos (by omega) (Ev.val Ev.some (by rw [if_pos h3])))
      · exact Ev.ite_neg h3 (Ev.val Ev.some (by rw [if_neg h3]))
    · exact Ev.ite_neg h2 (Ev.val Ev.some (by rw [if_neg (by simp [h2])]))
  unfold sOn
  by_cases h3 : p.f0 = 1
  · rw [show onA p n = [] from if_neg (fun h => h.1 h3)]
    refine Ev.ite_pos h3 (Ev.nxt ?_)
    simp only [spec_l26On.j0]
    exact Ev.ite_neg (by simp) (hj1 [] (by simp))
  · refine Ev.ite_neg h3 (Ev.bind (Ev.cst (specInR _ _ _)) (Ev.nxt ?_))
    simp only [spec_l26On.j0]
    by_cases h4 : inR p.f1 0 (wrap64 (n - 1)) = true
    · rw [show onA p n = [p.f1] from if_pos ⟨h3, h4⟩]
      exact Ev.ite_pos h4 (Ev.ite_pos (by simp) (hj1 [p.f1] (by simp)))
    · rw [show onA p n = [] from if_neg (fun h => h4 h.2)]
      exact Ev.ite_neg h4 (hj1 [] (by simp))
theorem implOn_ev (l : List I_Step) (n : Int) (h0 : 0 ≤ n) (h1 : n < (l.length : Int)) : Ev (fun q => impl_standsOn.f q l n) (iOn (rd_I_Step l n) n) := by
  generalize hp : rd_I_Step l n = p
  unfold impl_standsOn.f
  refine Ev.ite_pos h0 (Ev.ite_pos h1 (Ev.bind (Ev.cst rfl) ?_))
  rw [hp]
  have hj1 : ∀ x : List Int, x.length ≤ 1 → Ev (fun q => impl_standsOn.j1 q n x p.f0 p.f1 p.f2 p.f3 p.f4 p.f5 p.f6 p.f7 p.f8 p.f9 p.f10.f0) (if onB p n = true then nadd x p.f2 else x) := by
    intro x hx
    refine Ev.nxt ?_
    simp only [impl_standsOn.j1]
    refine Ev.bind (Ev.cst (implTwo_ev p)) ?_
    unfold onB
    by_cases h2 : twoB p = true
    · refine Ev.ite_pos h2 (Ev.bind (Ev.cst (implInR _ _ _)) ?_)
      rw [h2, Bool.true_and]
      by_cases h3 : inR p.f2 0 (wrap64 (n - 1)) = true
      · exact Ev.ite_pos h3 (Ev.bind (implNumAdd_ev x (by omega) _) (Ev.val Ev.some (by rw [if_pos h3])))
      · exact Ev.ite_neg h3 (Ev.val Ev.some (by rw [if_neg h3]))
    · exact Ev.ite_neg h2 (Ev.val Ev.some (by rw [if_neg (by simp [h2])]))
  unfold iOn
  by_cases h3 : p.f0 = 1
  · rw [show onA p n = [] from if_neg (fun h => h.1 h3)]
    refine Ev.ite_pos h3 (Ev.nxt ?_)
    simp only [impl_standsOn.j0]
    exact Ev.ite_neg (by simp) (hj1 [] (by simp))
  · refine Ev.ite_neg h3 (Ev.bind (Ev.cst (implInR _ _ _)) (Ev.nxt ?_))
    simp only [impl_standsOn.j0]
    by_cases h4 : inR p.f1 0 (wrap64 (n - 1)) = true
    · rw [show onA p n = [p.f1] from if_pos ⟨h3, h4⟩]
      exact Ev.ite_pos h4 (Ev.ite_pos (by simp) (hj1 [p.f1] (by simp)))
    · rw [show onA p n = [] from if_neg (fun h => h4 h.2)]
      exact Ev.ite_neg h4 (hj1 [] (by simp))
/-! #### how many steps stand on a step -/
theorem specNumIn_ev (l : List Int) (hl : l.length ≤ maxLen) (x : Int) : Ev (fun q => spec_NumIn.f q l x) (decide (x ∈ l)) := by
  have hm : maxLen = 9223372036854775807 := rfl
  have key : ∀ d i : Nat, i + d = l.length → Ev (fun q => spec_NumIn.l0 q l x (i : Int)) (decide (x ∈ l.drop i)) := by
    intro d
    induction d with
    | zero =>
      intro i hi
      refine Ev.step (fun q => by simp only [spec_NumIn.l0]; rfl) (Ev.ite_neg (by omega) (Ev.val Ev.some ?_))
      rw [List.drop_of_length_le (by omega)]
      simp
    | succ d ih =>
      intro i hi
      refine Ev.step (fun q => by simp only [spec_NumIn.l0]; rfl) (Ev.ite_pos (by omega) (Ev.ite_pos (by omega) ?_))
      rw [getD_drop l 0 i (by omega)]
      by_cases e : rd l (i : Int) = x
      · refine Ev.ite_pos e (Ev.val Ev.some ?_)
        have : x = l.getD i 0 := e.symm
        exact (decide_eq_true (List.mem_cons.2 (.inl this))).symm
      · have h2 : ¬ x = l.getD i 0 := fun h => e h.symm
        rw [wrap_nat (by omega)]
        refine Ev.ite_neg e (Ev.val (ih (i + 1) (by omega)) ?_)
        simp only [List.mem_cons, h2, false_or]
  have := key l.length 0 (by omega)
  rw [List.drop_zero] at this
  exact this
def usN (l : List I_Step) (n : Int) : Nat → Nat → Int → Int
  | 0, _, c => c
  | d + 1, i, c => usN l n d (i + 1) (if n ∈ sOn (rd_I_Step l (i : Int)) (i : Int) then c + 1 else c)
theorem specUsesOf_ev (l : List I_Step) (hl : l.length ≤ 1048577) (n : Int) : Ev (fun q => spec_UsesOf.f q l n) (usN l n l.length 0 0) := by
  have hm : maxLen = 9223372036854775807 := rfl
  have key : ∀ d i : Nat, i + d = l.length → ∀ c : Int, 0 ≤ c → c ≤ i → Ev (fun q => spec_UsesOf.l0 q l n c (i : Int)) (usN l n d i c) := by
    intro d
    induction d with
    | zero =>
      intro i hi c h0 h1
      refine Ev.step (fun q => by simp only [spec_UsesOf.l0]; rfl) (Ev.ite_neg (by omega) Ev.some)
    | succ d ih =>
      intro i hi c h0 h1
      have hb : ∀ b : Bool, spec_l1Bit.f b = some (if b = true then 1 else 0) := by intro b; cases b <;> rfl
      refine Ev.step (fun q => by simp only [spec_UsesOf.l0]; rfl) (Ev.ite_pos (by omega) (Ev.bind (specOn_ev l (i : Int) (by omega) (by omega)) (Ev.bind (specNumIn_ev (sOn (rd_I_Step l (i : Int)) (i : Int)) (by have := sOn_len (rd_I_Step l (i : Int)) (i : Int); omega) n) (Ev.bind (Ev.cst (hb _)) ?_))))
      rw [usN, wrap_nat (by omega)]
      by_cases h : n ∈ sOn (rd_I_Step l (i : Int)) (i : Int)
      · rw [if_pos h, if_pos (decide_eq_true h), wrap_id (by omega) (by omega)]
        exact ih (i + 1) (by omega) _ (by omega) (by omega)
      · rw [if_neg h, if_neg (by simpa using h), wrap_id (by omega) (by omega), Int.add_zero]
        exact ih (i + 1) (by omega) _ (by omega) (by omega)
  exact key l.length 0 (by omega) 0 (by omega) (by omega)
theorem implUsesOf_ev (l : List I_Step) (hl : l.length ≤ 1048577) (n : Int) : Ev (fun q => impl_UsesOf.f q l n) (usN l n l.length 0 0) := by
  have hm : maxLen = 9223372036854775807 := rfl
  have key : ∀ d i : Nat, i + d = l.length → ∀ c : Int, 0 ≤ c → c ≤ i → Ev (fun q => impl_UsesOf.l0 q l n c (l.length : Int) (i : Int)) (usN l n d i c) := by
    intro d
    induction d with
    | zero =>
      intro i hi c h0 h1
      refine Ev.step (fun q => by simp only [impl_UsesOf.l0]; rfl) (Ev.ite_neg (by omega) Ev.some)
    | succ d ih =>
      intro i hi c h0 h1
      refine Ev.step (fun q => by simp only [impl_UsesOf.l0]; rfl) (Ev.ite_pos (by omega) (Ev.bind (implOn_ev l (i : Int) (by omega) (by omega)) (Ev.bind (implNumIn_ev (iOn (rd_I_Step l (i : Int)) (i : Int)) (by have := iOn_len (rd_I_Step l (i : Int)) (i : Int); omega) n) ?_)))
      rw [usN, wrap_nat (by omega)]
      have e : (n ∈ iOn (rd_I_Step l (i : Int)) (i : Int)) ↔ n ∈ sOn (rd_I_Step l (i : Int)) (i : Int) := on_mem _ _ _
      by_cases h : n ∈ sOn (rd_I_Step l (i : Int)) (i : Int)
      · rw [if_pos h, wrap_id (by omega) (by omega)]
        exact Ev.ite_pos (decide_eq_true (e.2 h)) (ih (i + 1) (by omega) _ (by omega) (by omega))
      · rw [if_neg h]
        exact Ev.ite_neg (by simpa using fun k => h (e.1 k)) (ih (i + 1) (by omega) _ (by omega) (by omega))
  exact key l.length 0 (by omega) 0 (by omega) (by omega)
theorem FnExactUsesOf : laws_FnExactUsesOf.Pure := by
  intro l n hl hn
  refine Ev.rounds (g := fun k => laws_FnExactUsesOf.f k l n) ?_
  unfold laws_FnExactUsesOf.f
  have hm : maxLen = 9223372036854775807 := rfl
  refine law_sz (by omega) (by omega) (szStepS_ev l hl 1048576 (by omega) (by omega)) fun q1 a1 b1 S1 => ?_
  have E1 : el_StepS (cv_StepS l) ≤ maxLen := by have := el_cv_StepS l; omega
  have L1 : (cv_StepS l).length ≤ 1048577 := by have := el_cv_StepS l; unfold el_StepS at this; omega
  refine Ev.nxt ?_
  simp only [laws_FnExactUsesOf.j0]
  refine Ev.bind (toStepS_ev l S1) ?_
  refine Ev.bind (specUsesOf_ev (cv_StepS l) L1 n) ?_
  refine Ev.bind (toStepS_ev l S1) ?_
  refine Ev.bind (implUsesOf_ev (cv_StepS l) L1 n) ?_
  refine Ev.ite_pos rfl ?_
  refine Ev.nxt ?_
  simp only [laws_FnExactUsesOf.j1]
  refine Ev.bind (toStepS_ev l S1) ?_
  refine Ev.bind (eqStepS_ev (cv_StepS l) E1) (Ev.ite_pos rfl ?_)
  exact Ev.some
end Go.Proofs.Ytejfjfhopapaaaa.Pure
