/- The program's DeepOf returns what the reference's returns, for all arguments. -/
import Derived.Test.YtejfjfhopapaaaaXDeepOfh
namespace Go.Proofs.Ytejfjfhopapaaaa.Pure
open Go.RowKit Go.Proofs.Ytejfjfhopapaaaa.XDeepOf Go.Proofs.Ytejfjfhopapaaaa.XPure Go.Proofs.YtejfjfhopapaaaaW.PrintWords Go.Proofs.YtejfjfhopapaaaaW.PrintLast Go.Proofs.YtejfjfhopapaaaaW.PrintMore
set_option linter.unusedVariables false
set_option linter.unusedSimpArgs false
/-! #### the steps ahead on which a step stands -/
def inR (a b c : Int) : Bool := decide (b ≤ a) && decide (a ≤ c)
theorem specInR (a b c : Int) : spec_l1In.f a b c = some (inR a b c) := by
  unfold spec_l1In.f inR
  by_cases h : a ≥ b
  · rw [if_pos h]; simp [show b ≤ a from h]
  · rw [if_neg h]; simp [show ¬ b ≤ a from h]
theorem implInR (a b c : Int) : impl_from.f a b c = some (inR a b c) := by
  unfold impl_from.f inR
  by_cases h : a ≥ b
  · rw [if_pos h]; simp [show b ≤ a from h]
  · rw [if_neg h]; simp [show ¬ b ≤ a from h]
def ix (l : List Int) (x : Int) : Nat → Nat → Int
  | 0, _ => -1
  | d + 1, i => if x = rd l (i : Int) then (i : Int) else ix l x d (i + 1)
theorem index_ev (l : List Int) (hl : l.length ≤ maxLen) (x : Int) : Ev (fun q => slices_Index_int_int.f q l x) (ix l x l.length 0) := by
  have hm : maxLen = 9223372036854775807 := rfl
  have key : ∀ d i : Nat, i + d = l.length → Ev (fun q => slices_Index_int_int.l0 q l x (l.length : Int) (i : Int)) (ix l x d i) := by
    intro d
    induction d with
    | zero => intro i hi; exact Ev.step (fun q => by simp only [slices_Index_int_int.l0]; rfl) (Ev.ite_neg (by omega) Ev.some)
    | succ d ih =>
      intro i hi
      refine Ev.step (fun q => by simp only [slices_Index_int_int.l0]; rfl) (Ev.ite_pos (by omega) (Ev.ite_pos (by omega) (Ev.ite_pos (by omega) ?_)))
      rw [ix]
      by_cases e : x = rd l (i : Int)
      · rw [if_pos e]
        exact Ev.ite_pos e Ev.some
      · rw [if_neg e, wrap_nat (by omega)]
        exact Ev.ite_neg e (ih (i + 1) (by omega))
  exact key l.length 0 (by omega)
theorem ix_mem (l : List Int) (x : Int) : ∀ d i : Nat, i + d = l.length → (decide (ix l x d i ≥ 0) = decide (x ∈ l.drop i)) := by
  intro d
  induction d with
  | zero => intro i hi; rw [List.drop_of_length_le (by omega)]; simp [ix]
  | succ d ih =>
    intro i hi
    rw [ix, getD_drop l 0 i (by omega)]
    by_cases e : x = rd l (i : Int)
    · rw [if_pos e]
      have : x = l.getD i 0 := e
      exact decide_eq_decide.2 ⟨fun _ => List.mem_cons.2 (.inl this), fun _ => by omega⟩
    · rw [if_neg e, ih (i + 1) (by omega)]
      have : ¬ x = l.getD i 0 := e
      simp only [List.mem_cons, this, false_or]
theorem implNumIn_ev (l : List Int) (hl : l.length ≤ maxLen) (x : Int) : Ev (fun q => impl_NumIn.f q l x) (decide (x ∈ l)) := by
  unfold impl_NumIn.f
  refine Ev.bind (?_ : Ev (fun q => slices_Contains_int_int.f q l x) (decide (x ∈ l))) Ev.some
  unfold slices_Contains_int_int.f
  refine Ev.bind (index_ev l hl x) (Ev.val Ev.some ?_)
  have := ix_mem l x l.length 0 (by omega)
  rw [List.drop_zero] at this
  exact this
/-- the first place of what is more -/
def ixG (l : List Int) (x : Int) : Nat → Nat → Int
  | 0, _ => -1
  | d + 1, i => if rd l (i : Int) > x then (i : Int) else ixG l x d (i + 1)
theorem ixG_range (l : List Int) (x : Int) : ∀ d i : Nat, ixG l x d i < 0 ∨ (0 ≤ ixG l x d i ∧ ixG l x d i < i + d) := by
  intro d
  induction d with
  | zero => intro i; rw [ixG]; omega
  | succ d ih =>
    intro i
    rw [ixG]
    by_cases e : rd l (i : Int) > x
    · rw [if_pos e]; omega
    · rw [if_neg e]; have := ih (i + 1); omega
theorem indexG_ev (l : List Int) (hl : l.length ≤ maxLen) (x : Int) : Ev (fun q => slices_IndexFunc_int_int__with_impl_NumAdd_1.f q l x) (ixG l x l.length 0) := by
  have hm : maxLen = 9223372036854775807 := rfl
  have key : ∀ d i : Nat, i + d = l.length → Ev (fun q => slices_IndexFunc_int_int__with_impl_NumAdd_1.l0 q l (l.length : Int) (i : Int) x) (ixG l x d i) := by
    intro d
    induction d with
    | zero => intro i hi; exact Ev.step (fun q => by simp only [slices_IndexFunc_int_int__with_impl_NumAdd_1.l0]; rfl) (Ev.ite_neg (by omega) Ev.some)
    | succ d ih =>
      intro i hi
      refine Ev.step (fun q => by simp only [slices_IndexFunc_int_int__with_impl_NumAdd_1.l0]; rfl) (Ev.ite_pos (by omega) (Ev.ite_pos (by omega) (Ev.ite_pos (by omega) (Ev.bind (Ev.cst (by unfold impl_NumAdd_1.f; rfl)) ?_))))
      rw [ixG]
      by_cases e : rd l (i : Int) > x
      · rw [if_pos e]
        exact Ev.ite_pos (by simpa using e) Ev.some
      · rw [if_neg e, wrap_nat (by omega)]
        exact Ev.ite_neg (by simpa using e) (ih (i + 1) (by omega))
  exact key l.length 0 (by omega)
/-- a number more in a list in order -/
def nadd (l : List Int) (x : Int) : List Int := if x ∈ l then l else l.take (if ixG l x l.length 0 < 0 then (l.length : Int) else ixG l x l.length 0).toNat ++ x :: l.drop (if ixG l x l.length 0 < 0 then (l.length : Int) else ixG l x l.length 0).toNat
theorem nadd_mem (l : List Int) (x y : Int) : y ∈ nadd l x ↔ y ∈ l ∨ y = x := by
  unfold nadd
  by_cases h : x ∈ l
  · rw [if_pos h]
    constructor
    · exact .inl
    · rintro (h1 | rfl)
      · exact h1
      · exact h
  · rw [if_neg h]
    generalize (if ixG l x l.length 0 < 0 then (l.length : Int) else ixG l x l.length 0).toNat = n
    have e : y ∈ l ↔ y ∈ l.take n ∨ y ∈ l.drop n := by rw [← List.mem_append, List.take_append_drop]
    rw [e, List.mem_append, List.mem_cons]
    constructor
    · rintro (h1 | h1 | h1)
      · exact .inl (.inl h1)
      · exact .inr h1
      · exact .inl (.inr h1)
    · rintro ((h1 | h1) | h1)
      · exact .inl h1
      · exact .inr (.inr h1)
      · exact .inr (.inl h1)
theorem nadd_len (l : List Int) (x : Int) : (nadd l x).length ≤ l.length + 1 := by
  unfold nadd
  by_cases h : x ∈ l
  · rw [if_pos h]; omega
  · rw [if_neg h, List.length_append, List.length_cons, List.length_take, List.length_drop]
    omega
theorem implNumAdd_ev (l : List Int) (hl : l.length ≤ 1048577) (x : Int) : Ev (fun q => impl_NumAdd.f q l x) (nadd l x) := by
  have hm : maxLen = 9223372036854775807 := rfl
  unfold impl_NumAdd.f
  have hc : slices_Clone_int_int.f l = some l := by
    unfold slices_Clone_int_int.f
    rw [Option.bind_some, if_pos (by simp; omega), List.nil_append]
  refine Ev.bind (Ev.cst hc) (Ev.bind (implNumIn_ev l (by omega) x) ?_)
  unfold nadd
  by_cases h : x ∈ l
  · rw [if_pos h]
    exact Ev.ite_pos (decide_eq_true h) Ev.some
  · rw [if_neg h]
    refine Ev.ite_neg (by simpa using h) (Ev.bind (indexG_ev l (by omega) x) ?_)
    have hr := ixG_range l x l.length 0
    have hi : ∀ j : Int, 0 ≤ j → j ≤ l.length → slices_Insert_int_int.f l j [x] = some (l.take j.toNat ++ x :: l.drop j.toNat) := by
      intro j h0 h1
      unfold slices_Insert_int_int.f
      rw [if_pos h0, if_pos h1, if_pos (by simp), if_pos (by omega)]
      rfl
    by_cases hn : ixG l x l.length 0 < 0
    · exact Ev.ite_pos hn (Ev.bind (Ev.cst (hi (l.length : Int) (by omega) (by omega))) (Ev.val Ev.some (by rw [if_pos hn])))
    · exact Ev.ite_neg hn (Ev.bind (Ev.cst (hi (ixG l x l.length 0) (by omega) (by omega))) (Ev.val Ev.some (by rw [if_neg hn])))
/-- what a step stands on -/
def onA (p : I_Step) (n : Int) : List Int := if p.f0 ≠ 1 ∧ inR p.f1 0 (wrap64 (n - 1)) = true then [p.f1] else []
def twoB (p : I_Step) : Bool := decide (p.f0 = 4) || decide (p.f0 = 5)
def onB (p : I_Step) (n : Int) : Bool := twoB p && inR p.f2 0 (wrap64 (n - 1))
def sOn (p : I_Step) (n : Int) : List Int := if onB p n = true then onA p n ++ [p.f2] else onA p n
def iOn (p : I_Step) (n : Int) : List Int := if onB p n = true then nadd (onA p n) p.f2 else onA p n
theorem onA_len (p : I_Step) (n : Int) : (onA p n).length ≤ 1 := by unfold onA; split <;> simp
theorem sOn_len (p : I_Step) (n : Int) : (sOn p n).length ≤ 2 := by have := onA_len p n; unfold sOn; split <;> simp <;> omega
theorem iOn_len (p : I_Step) (n : Int) : (iOn p n).length ≤ 2 := by
  have := onA_len p n; unfold iOn
  split
  · have := nadd_len (onA p n) p.f2; omega
  · omega
theorem on_mem (p : I_Step) (n y : Int) : y ∈ iOn p n ↔ y ∈ sOn p n := by
  unfold iOn sOn
  by_cases h : onB p n = true
  · rw [if_pos h, if_pos h, nadd_mem, List.mem_append, List.mem_singleton]
  · rw [if_neg h, if_neg h]
theorem sOn_range (p : I_Step) (n : Int) (h0 : 0 ≤ n) (h1 : n ≤ 1048577) : ∀ y ∈ sOn p n, 0 ≤ y ∧ y < n := by
  intro y hy
  have hw : wrap64 (n - 1) = n - 1 := wrap_id (by omega) (by omega)
  have hA : ∀ y ∈ onA p n, 0 ≤ y ∧ y < n := by
    intro y hy
    unfold onA at hy
    split at hy
    · rename_i h
      rw [List.mem_singleton] at hy
      subst hy
      have := h.2
      rw [hw] at this
      simp [inR] at this
      omega
    · cases hy
  unfold sOn at hy
  split at hy
  · rename_i h
    rw [List.mem_append, List.mem_singleton] at hy
    rcases hy with hy | rfl
    · exact hA y hy
    · unfold onB at h
      rw [Bool.and_eq_true, hw] at h
      have := h.2
      simp [inR] at this
      omega
  · exact hA y hy
theorem specTwo_ev (p : I_Step) : spec_l26Two.f p.f0 p.f1 p.f2 p.f3 p.f4 p.f5 p.f6 p.f7 p.f8 p.f9 p.f10.f0 = some (twoB p) := by
  unfold spec_l26Two.f twoB
  by_cases h : p.f0 = 4
  · rw [if_pos h]; simp [h]
  · rw [if_neg h]; simp [h]; rfl
theorem implTwo_ev (p : I_Step) : impl_usesB.f p.f0 p.f1 p.f2 p.f3 p.f4 p.f5 p.f6 p.f7 p.f8 p.f9 p.f10.f0 = some (twoB p) := by
  unfold impl_usesB.f twoB
  by_cases h : p.f0 = 4
  · rw [if_pos h]; simp [h]
  · rw [if_neg h]; simp [h]; rfl
theorem specOn_ev (l : List I_Step) (n : Int) (h0 : 0 ≤ n) (h1 : n < (l.length : Int)) : Ev (fun q => spec_l26On.f q l n) (sOn (rd_I_Step l n) n) := by
  generalize hp : rd_I_Step l n = p
  unfold spec_l26On.f
  refine Ev.ite_pos h0 (Ev.ite_pos h1 (Ev.bind (Ev.cst rfl) ?_))
  rw [hp]
  have hj1 : ∀ x : List Int, x.length ≤ 1 → Ev (fun q => spec_l26On.j1 q n x p.f0 p.f1 p.f2 p.f3 p.f4 p.f5 p.f6 p.f7 p.f8 p.f9 p.f10.f0) (if onB p n = true then x ++ [p.f2] else x) := by
    intro x hx
    refine Ev.nxt ?_
    simp only [spec_l26On.j1]
    refine Ev.bind (Ev.cst (specTwo_ev p)) ?_
    unfold onB
    by_cases h2 : twoB p = true
    · refine Ev.ite_pos h2 (Ev.bind (Ev.cst (specInR _ _ _)) ?_)
      rw [h2, Bool.true_and]
      by_cases h3 : inR p.f2 0 (wrap64 (n - 1)) = true
      · exact Ev.ite_pos h3 (Ev.ite_pos (by omega) (Ev.val Ev.some (by rw [if_pos h3])))
      · exact Ev.ite_neg h3 (Ev.val Ev.some (by rw [if_neg h3]))
    · exact Ev.ite_neg h2 (Ev.val Ev.some (by rw [if_neg (by simp [h2])]))
  unfold sOn
  by_cases h3 : p.f0 = 1
  · rw [show onA p n = [] from if_neg (fun h => h.1 h3)]
    refine Ev.ite_pos h3 (Ev.nxt ?_)
    simp only [spec_l26On.j0]
    exact Ev.ite_neg (by simp) (hj1 [] (by simp))
  · refine Ev.ite_neg h3 (Ev.bind (Ev.cst (specInR _ _ _)) (Ev.nxt ?_))
    simp only [spec_l26On.j0]
    by_cases h4 : inR p.f1 0 (wrap64 (n - 1)) = true
    · rw [show onA p n = [p.f1] from if_pos ⟨h3, h4⟩]
      exact Ev.ite_pos h4 (Ev.ite_pos (by simp) (hj1 [p.f1] (by simp)))
    · rw [show onA p n = [] from if_neg (fun h => h4 h.2)]
      exact Ev.ite_neg h4 (hj1 [] (by simp))
theorem implOn_ev (l : List I_Step) (n : Int) (h0 : 0 ≤ n) (h1 : n < (l.length : Int)) : Ev (fun q => impl_standsOn.f q l n) (iOn (rd_I_Step l n) n) := by
  generalize hp : rd_I_Step l n = p
  unfold impl_standsOn.f
  refine Ev.ite_pos h0 (Ev.ite_pos h1 (Ev.bind (Ev.cst rfl) ?_))
  rw [hp]
  have hj1 : ∀ x : List Int, x.length ≤ 1 → Ev (fun q => impl_standsOn.j1 q n x p.f0 p.f1 p.f2 p.f3 p.f4 p.f5 p.f6 p.f7 p.f8 p.f9 p.f10.f0) (if onB p n = true then nadd x p.f2 else x) := by
    intro x hx
    refine Ev.nxt ?_
    simp only [impl_standsOn.j1]
    refine Ev.bind (Ev.cst (implTwo_ev p)) ?_
    unfold onB
    by_cases h2 : twoB p = true
    · refine Ev.ite_pos h2 (Ev.bind (Ev.cst (implInR _ _ _)) ?_)
      rw [h2, Bool.true_and]
      by_cases h3 : inR p.f2 0 (wrap64 (n - 1)) = true
      · exact Ev.ite_pos h3 (Ev.bind (implNumAdd_ev x (by omega) _) (Ev.val Ev.some (by rw [if_pos h3])))
      · exact Ev.ite_neg h3 (Ev.val Ev.some (by rw [if_neg h3]))
    · exact Ev.ite_neg h2 (Ev.val Ev.some (by rw [if_neg (by simp [h2])]))
  unfold iOn
  by_cases h3 : p.f0 = 1
  · rw [show onA p n = [] from if_neg (fun h => h.1 h3)]
    refine Ev.ite_pos h3 (Ev.nxt ?_)
    simp only [impl_standsOn.j0]
    exact Ev.ite_neg (by simp) (hj1 [] (by simp))
  · refine Ev.ite_neg h3 (Ev.bind (Ev.cst (implInR _ _ _)) (Ev.nxt ?_))
    simp only [impl_standsOn.j0]
    by_cases h4 : inR p.f1 0 (wrap64 (n - 1)) = true
    · rw [show onA p n = [p.f1] from if_pos ⟨h3, h4⟩]
      exact Ev.ite_pos h4 (Ev.ite_pos (by simp) (hj1 [p.f1] (by simp)))
    · rw [show onA p n = [] from if_neg (fun h => h4 h.2)]
      exact Ev.ite_neg h4 (hj1 [] (by simp))
/-! #### how deep a step stands -/
/-- the most of what stands at some places -/
def top (D : List Int) (ks : List Int) (m : Int) : Int := ks.foldl (fun m k => if rd D k > m then rd D k else m) m
theorem top_cons (D : List Int) (k : Int) (ks : List Int) (m : Int) : top D (k :: ks) m = top D ks (if rd D k > m then rd D k else m) := rfl
theorem top_ge (D : List Int) : ∀ (ks : List Int) (m : Int), m ≤ top D ks m := by
  intro ks
  induction ks with
  | nil => intro m; exact Int.le_refl m
  | cons k ks ih => intro m; rw [top_cons]; exact Int.le_trans (by split <;> omega) (ih _)
theorem top_mem (D : List Int) : ∀ (ks : List Int) (m : Int), ∀ k ∈ ks, rd D k ≤ top D ks m := by
  intro ks
  induction ks with
  | nil => intro m k hk; cases hk
  | cons x ks ih =>
    intro m k hk
    rw [top_cons]
    rcases List.mem_cons.1 hk with rfl | hk
    · exact Int.le_trans (by split <;> omega) (top_ge D ks _)
    · exact ih _ k hk
theorem top_le (D : List Int) (c : Int) : ∀ (ks : List Int) (m : Int), m ≤ c → (∀ k ∈ ks, rd D k ≤ c) → top D ks m ≤ c := by
  intro ks
  induction ks with
  | nil => intro m h _; exact h
  | cons x ks ih =>
    intro m h hk
    rw [top_cons]
    refine ih _ ?_ (fun k h => hk k (List.mem_cons_of_mem _ h))
    have := hk x List.mem_cons_self
    split <;> omega
theorem top_same (D : List Int) {a b : List Int} (h : ∀ y, y ∈ a ↔ y ∈ b) (m : Int) : top D a m = top D b m := by
  have h1 : top D a m ≤ top D b m := top_le D _ a m (top_ge D b m) (fun k hk => top_mem D b m k ((h k).1 hk))
  have h2 : top D b m ≤ top D a m := top_le D _ b m (top_ge D a m) (fun k hk => top_mem D a m k ((h k).2 hk))
  omega
theorem rd_set (l : List Int) (i j : Nat) (v : Int) (hi : i < l.length) : rd (l.set i v) (j : Int) = if i = j then v else rd l (j : Int) := by
  unfold rd
  rw [Int.toNat_natCast, List.getD_eq_getElem?_getD, List.getElem?_set, List.getD_eq_getElem?_getD]
  by_cases h : i = j
  · rw [if_pos h, if_pos h, if_pos hi]; rfl
  · rw [if_neg h, if_neg h]
theorem set_self (l : List Int) (i : Nat) (hi : i < l.length) : l.set i (rd l (i : Int)) = l := by
  unfold rd
  rw [Int.toNat_natCast, List.getD_eq_getElem?_getD, List.getElem?_eq_getElem hi]
  exact List.set_getElem_self hi
/-- the rows as they become, step by step -/
def dpS (l : List I_Step) : Nat → Nat → List Int → List Int
  | 0, _, D => D
  | d + 1, i, D => dpS l d (i + 1) (D.set i (1 + top D (sOn (rd_I_Step l (i : Int)) (i : Int)) 0))
def Low (D : List Int) : Prop := ∀ j : Nat, 0 ≤ rd D (j : Int) ∧ rd D (j : Int) ≤ j + 1
theorem low_top {D : List Int} (hD : Low D) {i : Nat} {ks : List Int} (hk : ∀ k ∈ ks, 0 ≤ k ∧ k < (i : Int)) : 0 ≤ top D ks 0 ∧ top D ks 0 ≤ i := by
  refine ⟨top_ge D ks 0, top_le D _ ks 0 (by omega) fun k h => ?_⟩
  have := hk k h
  have h2 := (hD k.toNat).2
  rw [show ((k.toNat : Nat) : Int) = k from by omega] at h2
  omega
theorem low_step (l : List I_Step) {D : List Int} (hD : Low D) {i : Nat} (hi : i < D.length) (hs : i ≤ 1048577) : Low (D.set i (1 + top D (sOn (rd_I_Step l (i : Int)) (i : Int)) 0)) := by
  intro j
  rw [rd_set D i j _ hi]
  have := low_top hD (sOn_range (rd_I_Step l (i : Int)) (i : Int) (by omega) (by omega))
  by_cases h : i = j
  · rw [if_pos h]; omega
  · rw [if_neg h]; exact hD j
theorem specMax_ev (a b : Int) : spec_l1Max.f a b = some (if a > b then a else b) := by
  unfold spec_l1Max.f
  by_cases h : a > b
  · rw [if_pos h, if_pos h]
  · rw [if_neg h, if_neg h]
/-- one step's places, as the reference goes through them -/
theorem specDeep1 (l : List I_Step) (n : Int) (D : List Int) (hD : Low D) {i : Nat} (hi : i < D.length) (hs : i ≤ 1048577) {R : Int} (ks : List Int) (hl : ks.length ≤ 2) (hk : ∀ k ∈ ks, 0 ≤ k ∧ k < (i : Int)) :
    ∀ d e : Nat, e + d = ks.length → ∀ m : Int, 0 ≤ m → m ≤ i → (Ev (fun q => spec_DeepOf.l0 q l n (D.set i (1 + top D (ks.drop e) m)) (wrap64 ((i : Int) + 1))) R) → Ev (fun q => spec_DeepOf.l1 q l n (D.set i (1 + m)) (i : Int) ks (e : Int)) R := by
  intro d
  induction d with
  | zero =>
    intro e he m h0 h1 K
    rw [List.drop_of_length_le (by omega)] at K
    refine Ev.step (fun q => by simp only [spec_DeepOf.l1]; rfl) (Ev.ite_neg (by omega) K)
  | succ d ih =>
    intro e he m h0 h1 K
    have hm : maxLen = 9223372036854775807 := rfl
    rw [getD_drop ks 0 e (by omega), top_cons] at K
    have hke := hk _ (getD_mem ks 0 e (by omega))
    have hr : rd ks (e : Int) = ks.getD e 0 := rfl
    rw [← hr] at K hke
    obtain ⟨k, hkk⟩ : ∃ k : Nat, rd ks (e : Int) = k := ⟨(rd ks (e : Int)).toNat, by omega⟩
    rw [hkk] at K hke
    have hset : (D.set i (1 + m)).length = D.length := List.length_set
    refine Ev.step (fun q => by simp only [spec_DeepOf.l1]; rfl) (Ev.ite_pos (by omega) (Ev.ite_pos (by omega) (Ev.ite_pos (by omega) (Ev.ite_pos (by omega) ?_))))
    rw [hkk]
    refine Ev.ite_pos (by omega) (Ev.ite_pos (by omega) (Ev.bind (Ev.cst (specMax_ev _ _)) ?_))
    have hDk := hD k
    rw [rd_set D i i _ hi, if_pos rfl, rd_set D i k _ hi, if_neg (show ¬ i = k by omega), wrap_id (by omega) (by omega), Int.toNat_natCast, List.set_set, wrap_nat (by omega)]
    have e1 : (if 1 + m > rd D (k : Int) + 1 then 1 + m else rd D (k : Int) + 1) = 1 + (if rd D (k : Int) > m then rd D (k : Int) else m) := by split <;> split <;> omega
    rw [e1]
    refine ih (e + 1) (by omega) _ ?_ ?_ K
    · split <;> omega
    · split <;> omega
theorem specDeep0 (l : List I_Step) (hl : l.length ≤ 1048577) (n : Nat) (hn : n < l.length) : ∀ d i : Nat, i + d = n + 1 → ∀ D : List Int, Low D → D.length = n + 1 → Ev (fun q => spec_DeepOf.l0 q l (n : Int) D (i : Int)) (rd (dpS l d i D) (n : Int)) := by
  intro d
  induction d with
  | zero =>
    intro i hi D hD hDl
    refine Ev.step (fun q => by simp only [spec_DeepOf.l0]; rfl) (Ev.ite_neg (by omega) (Ev.ite_pos (by omega) (Ev.ite_pos (by omega) Ev.some)))
  | succ d ih =>
    intro i hi D hD hDl
    have hm : maxLen = 9223372036854775807 := rfl
    refine Ev.step (fun q => by simp only [spec_DeepOf.l0]; rfl) (Ev.ite_pos (by omega) (Ev.ite_pos (by omega) (Ev.ite_pos (by omega) (Ev.bind (specOn_ev l (i : Int) (by omega) (by omega)) ?_))))
    have := specDeep1 l (n : Int) D hD (i := i) (by omega) (by omega) (R := rd (dpS l (d + 1) i D) (n : Int)) (sOn (rd_I_Step l (i : Int)) (i : Int)) (sOn_len _ _) (sOn_range _ _ (by omega) (by omega)) (sOn (rd_I_Step l (i : Int)) (i : Int)).length 0 (by omega) 0 (by omega) (by omega) ?_
    · exact this
    · rw [List.drop_zero, wrap_nat (by omega), dpS]
      exact ih (i + 1) (by omega) _ (low_step l hD (by omega) (by omega)) (by rw [List.length_set]; exact hDl)
theorem implDeep1 (l : List I_Step) (n x19 : Int) (D : List Int) (hD : Low D) {i : Nat} (hi : i < D.length) (hs : i ≤ 1048577) {R : Int} (ks : List Int) (hl : ks.length ≤ 2) (hk : ∀ k ∈ ks, 0 ≤ k ∧ k < (i : Int)) :
    ∀ d e : Nat, e + d = ks.length → ∀ m : Int, 0 ≤ m → m ≤ i → (Ev (fun q => impl_DeepOf.l0 q l n (D.set i (1 + top D (ks.drop e) m)) x19 (wrap64 ((i : Int) + 1))) R) → Ev (fun q => impl_DeepOf.l1 q l n (D.set i m) (i : Int) x19 (i : Int) ks (ks.length : Int) (e : Int)) R := by
  intro d
  induction d with
  | zero =>
    intro e he m h0 h1 K
    rw [List.drop_of_length_le (by omega)] at K
    have hset : (D.set i m).length = D.length := List.length_set
    refine Ev.step (fun q => by simp only [impl_DeepOf.l1]; rfl) (Ev.ite_neg (by omega) (Ev.ite_pos (by omega) (Ev.ite_pos (by omega) ?_)))
    rw [rd_set D i i _ hi, if_pos rfl, wrap_id (by omega) (by omega), Int.toNat_natCast, List.set_set, show m + 1 = 1 + m from by omega]
    exact K
  | succ d ih =>
    intro e he m h0 h1 K
    have hm : maxLen = 9223372036854775807 := rfl
    rw [getD_drop ks 0 e (by omega), top_cons] at K
    have hke := hk _ (getD_mem ks 0 e (by omega))
    have hr : rd ks (e : Int) = ks.getD e 0 := rfl
    rw [← hr] at K hke
    obtain ⟨k, hkk⟩ : ∃ k : Nat, rd ks (e : Int) = k := ⟨(rd ks (e : Int)).toNat, by omega⟩
    rw [hkk] at K hke
    have hset : (D.set i m).length = D.length := List.length_set
    refine Ev.step (fun q => by simp only [impl_DeepOf.l1]; rfl) (Ev.ite_pos (by omega) (Ev.ite_pos (by omega) (Ev.ite_pos (by omega) (Ev.ite_pos (by omega) (Ev.ite_pos (by omega) ?_)))))
    rw [hkk]
    refine Ev.ite_pos (by omega) (Ev.ite_pos (by omega) ?_)
    have hDk := hD k
    have e1 : mx (rd (D.set i m) (i : Int)) (rd (D.set i m) (k : Int)) = (if rd D (k : Int) > m then rd D (k : Int) else m) := by
      rw [rd_set D i i _ hi, if_pos rfl, rd_set D i k _ hi, if_neg (show ¬ i = k by omega)]
      unfold mx
      first | rfl | (split <;> split <;> omega)
    rw [e1, Int.toNat_natCast, List.set_set, wrap_nat (by omega)]
    refine ih (e + 1) (by omega) _ ?_ ?_ K
    · split <;> omega
    · split <;> omega
theorem implDeep0 (l : List I_Step) (hl : l.length ≤ 1048577) (n : Nat) (hn : n < l.length) : ∀ d i : Nat, i + d = n + 1 → ∀ D : List Int, Low D → D.length = n + 1 → (∀ j : Nat, i ≤ j → rd D (j : Int) = 0) → Ev (fun q => impl_DeepOf.l0 q l (n : Int) D ((n + 1 : Nat) : Int) (i : Int)) (rd (dpS l d i D) (n : Int)) := by
  intro d
  induction d with
  | zero =>
    intro i hi D hD hDl _
    refine Ev.step (fun q => by simp only [impl_DeepOf.l0]; rfl) (Ev.ite_neg (by omega) (Ev.ite_pos (by omega) (Ev.ite_pos (by omega) Ev.some)))
  | succ d ih =>
    intro i hi D hD hDl hz
    have hm : maxLen = 9223372036854775807 := rfl
    refine Ev.step (fun q => by simp only [impl_DeepOf.l0]; rfl) (Ev.ite_pos (by omega) (Ev.bind (implOn_ev l (i : Int) (by omega) (by omega)) ?_))
    have := implDeep1 l (n : Int) ((n + 1 : Nat) : Int) D hD (i := i) (by omega) (by omega) (R := rd (dpS l (d + 1) i D) (n : Int)) (iOn (rd_I_Step l (i : Int)) (i : Int)) (iOn_len _ _) (fun k hk => sOn_range _ _ (by omega) (by omega) k ((on_mem _ _ _).1 hk)) (iOn (rd_I_Step l (i : Int)) (i : Int)).length 0 (by omega) 0 (by omega) (by omega) ?_
    · have e0 : D.set i 0 = D := by
        have := set_self D i (by omega)
        rw [hz i (Nat.le_refl _)] at this
        exact this
      rw [e0] at this
      exact this
    · rw [List.drop_zero, wrap_nat (by omega), dpS, top_same D (on_mem _ _) 0]
      refine ih (i + 1) (by omega) _ (low_step l hD (by omega) (by omega)) (by rw [List.length_set]; exact hDl) (fun j hj => ?_)
      rw [rd_set D i j _ (by omega), if_neg (by omega)]
      exact hz j (by omega)
def deepV (l : List I_Step) (n : Int) : Int := if inR n 0 ((l.length : Int) - 1) = true then rd (dpS l (n.toNat + 1) 0 (List.replicate (n.toNat + 1) 0)) n else 0
theorem rd_zeros (m j : Nat) : rd (List.replicate m 0) (j : Int) = 0 := by
  unfold rd
  rw [Int.toNat_natCast, List.getD_eq_getElem?_getD, List.getElem?_replicate]
  split <;> rfl
theorem low_zeros (m : Nat) : Low (List.replicate m 0) := fun j => by rw [rd_zeros]; omega
theorem specDeepOf_ev (l : List I_Step) (hl : l.length ≤ 1048577) (n : Int) : Ev (fun q => spec_DeepOf.f q l n) (deepV l n) := by
  have hm : maxLen = 9223372036854775807 := rfl
  unfold spec_DeepOf.f deepV
  refine Ev.bind (Ev.cst (specInR _ _ _)) ?_
  rw [wrap_id (x := (l.length : Int) - 1) (by omega) (by omega)]
  by_cases h : inR n 0 ((l.length : Int) - 1) = true
  · rw [if_pos h]
    have h' : 0 ≤ n ∧ n ≤ (l.length : Int) - 1 := by simpa [inR] using h
    obtain ⟨m, rfl⟩ : ∃ m : Nat, n = m := ⟨n.toNat, by omega⟩
    rw [wrap_nat (by omega)]
    refine Ev.ite_pos h (Ev.ite_pos (by omega) (Ev.ite_pos (by omega) ?_))
    rw [Int.toNat_natCast, Int.toNat_natCast]
    exact specDeep0 l hl m (by omega) (m + 1) 0 (by omega) _ (low_zeros _) (List.length_replicate)
  · rw [if_neg h]
    exact Ev.ite_neg h Ev.some
theorem implDeepOf_ev (l : List I_Step) (hl : l.length ≤ 1048577) (n : Int) : Ev (fun q => impl_DeepOf.f q l n) (deepV l n) := by
  have hm : maxLen = 9223372036854775807 := rfl
  unfold impl_DeepOf.f deepV
  refine Ev.bind (Ev.cst (implInR _ _ _)) ?_
  rw [wrap_id (x := (l.length : Int) - 1) (by omega) (by omega)]
  by_cases h : inR n 0 ((l.length : Int) - 1) = true
  · rw [if_pos h]
    have h' : 0 ≤ n ∧ n ≤ (l.length : Int) - 1 := by simpa [inR] using h
    obtain ⟨m, rfl⟩ : ∃ m : Nat, n = m := ⟨n.toNat, by omega⟩
    rw [wrap_nat (by omega)]
    refine Ev.ite_pos h (Ev.ite_pos (by omega) (Ev.ite_pos (by omega) (Ev.bind (Ev.cst rfl) ?_)))
    rw [Int.toNat_natCast, Int.toNat_natCast, List.length_replicate]
    exact implDeep0 l hl m (by omega) (m + 1) 0 (by omega) _ (low_zeros _) (List.length_replicate) (fun j _ => rd_zeros _ j)
  · rw [if_neg h]
    exact Ev.ite_neg h Ev.some
theorem FnExactDeepOf : laws_FnExactDeepOf.Pure := by
  intro l n hl hn
  refine Ev.rounds (g := fun k => laws_FnExactDeepOf.f k l n) ?_
  unfold laws_FnExactDeepOf.f
  have hm : maxLen = 9223372036854775807 := rfl
  refine law_sz (by omega) (by omega) (szStepS_ev l hl 1048576 (by omega) (by omega)) fun q1 a1 b1 S1 => ?_
  have E1 : el_StepS (cv_StepS l) ≤ maxLen := by have := el_cv_StepS l; omega
  have L1 : (cv_StepS l).length ≤ 1048577 := by have := el_cv_StepS l; unfold el_StepS at this; omega
  refine Ev.nxt ?_
  simp only [laws_FnExactDeepOf.j0]
  refine Ev.bind (toStepS_ev l S1) ?_
  refine Ev.bind (specDeepOf_ev (cv_StepS l) L1 n) ?_
  refine Ev.bind (toStepS_ev l S1) ?_
  refine Ev.bind (implDeepOf_ev (cv_StepS l) L1 n) ?_
  refine Ev.ite_pos rfl ?_
  refine Ev.nxt ?_
  simp only [laws_FnExactDeepOf.j1]
  refine Ev.bind (toStepS_ev l S1) ?_
  refine Ev.bind (eqStepS_ev (cv_StepS l) E1) (Ev.ite_pos rfl ?_)
  exact Ev.some
end Go.Proofs.Ytejfjfhopapaaaa.Pure
