/- What the harness of the laws comes to: sizes, copies, comparisons, for the mirrored types. -/
import Derived.Test.YtlgoindmpejgcaaXFingerx
import Derived.Test.YtlgoindmpejgcaaVFinger
namespace Go.Proofs.Ytlgoindmpejgcaa.Pure
open Go.RowKit Go.Proofs.Ytlgoindmpejgcaa.XFinger Go.Proofs.Ytlgoindmpejgcaa.XPure Go.Proofs.YtlgoindmpejgcaaW.PrintWords Go.Proofs.YtlgoindmpejgcaaW.PrintLast
set_option linter.unusedVariables false
set_option linter.unusedSimpArgs false
def sz_Sym (x : L_Sym) : Nat := x.f0.size
def cv_Sym (x : L_Sym) : I_Sym := ⟨x.f0, x.f1, x.f2⟩
theorem szSym_ev (x : L_Sym) (hw : Wf_L_Sym x) (left : Int) (h0 : 0 ≤ left) (h1 : left ≤ 1048576) : Ev (fun _ => laws_szSym.f (x.f0) (x.f1) (x.f2) left) (szr (sz_Sym x) left) := by
  unfold laws_szSym.f
  rw [show sz_Sym x = x.f0.size + (0) from by simp only [sz_Sym]; omega]
  refine sz_str hw.1 h0 h1 fun q0 r0 s0 => ?_
  exact sz_end r0
theorem toSym_ev (x : L_Sym) (hs : sz_Sym x ≤ 1048576) : Ev (fun _ => laws_toSym.f (x.f0) (x.f1) (x.f2)) ((cv_Sym x).f0, (cv_Sym x).f1, (cv_Sym x).f2) := by
  unfold laws_toSym.f
  exact Ev.some
def el_Sym (x : I_Sym) : Nat := 0
theorem eqSym_ev (x : I_Sym) : Ev (fun _ => laws_eqSym.f (x.f0) (x.f1) (x.f2) (x.f0) (x.f1) (x.f2)) true := by
  unfold laws_eqSym.f
  refine Ev.ite_pos rfl ?_
  refine Ev.ite_pos rfl ?_
  refine Ev.ite_neg (by simp) ?_
  exact Ev.some
theorem el_cv_Sym (x : L_Sym) : el_Sym (cv_Sym x) ≤ sz_Sym x := by
  simp only [el_Sym, cv_Sym, sz_Sym]
  omega
def sz_SymS (l : List L_Sym) : Nat := l.length + (l.map sz_Sym).sum
def cv_SymS (l : List L_Sym) : List I_Sym := l.map cv_Sym
theorem szSymS_ev (l : List L_Sym) (hw : l.length ≤ maxLen ∧ ∀ y ∈ l, Wf_L_Sym y) (left : Int) (h0 : 0 ≤ left) (h1 : left ≤ 1048576) : Ev (fun k => laws_szSymS.f k l left) (szr (sz_SymS l) left) := by
  unfold laws_szSymS.f
  refine sz_list l hw.1 sz_Sym (fun k q => laws_szSymS.l0 k l q 0) left h0 h1 fun q q0 q1 => ?_
  exact sz_loop l zL_Sym hw.1 (fun k q i => laws_szSymS.l0 k l q i) (fun _ x q => laws_szSym.f (x.f0) (x.f1) (x.f2) q) (fun k q i => by simp only [laws_szSymS.l0, rd_L_Sym]) sz_Sym (fun x hx q r0 r1 => szSym_ev x (hw.2 x hx) q r0 r1) l.length 0 q (by omega) q0 q1
theorem mem_sz_SymS {l : List L_Sym} {y : L_Sym} (h : y ∈ l) : sz_Sym y + 1 ≤ sz_SymS l := by
  exact mem_size sz_Sym h
theorem toSymS_ev (l : List L_Sym) (hs : sz_SymS l ≤ 1048576) : Ev (fun k => laws_toSymS.f k l) (cv_SymS l) := by
  have hl : l.length ≤ 1048576 := by unfold sz_SymS at hs; omega
  have hm : maxLen = 9223372036854775807 := rfl
  unfold laws_toSymS.f
  refine Ev.val (to_list (B := 8796093022208) l zL_Sym zI_Sym (by omega) (fun k acc i => laws_toSymS.l0 k l acc i) (fun _ x => laws_toSym.f (x.f0) (x.f1) (x.f2)) (fun t => (⟨t.1, t.2.1, t.2.2⟩ : I_Sym)) (fun k acc i => by simp only [laws_toSymS.l0, rd_L_Sym]) (fun x => ((cv_Sym x).f0, (cv_Sym x).f1, (cv_Sym x).f2)) (fun x hx => toSym_ev x (by have := mem_sz_SymS hx; omega)) (by omega)) ?_
  unfold cv_SymS
  apply List.map_congr_left
  intro x _
  generalize cv_Sym x = y
  obtain ⟨_, _, _⟩ := y
  rfl
def el_SymS (l : List I_Sym) : Nat := l.length + (l.map el_Sym).sum
theorem eqSymS_ev (l : List I_Sym) (hs : el_SymS l ≤ maxLen) : Ev (fun k => laws_eqSymS.f k l l) true := by
  have hl : l.length ≤ maxLen := by unfold el_SymS at hs; omega
  unfold laws_eqSymS.f
  exact eq_list l zI_Sym hl (fun k i => laws_eqSymS.l0 k l l i) (fun _ x => laws_eqSym.f (x.f0) (x.f1) (x.f2) (x.f0) (x.f1) (x.f2)) (fun k i => by simp only [laws_eqSymS.l0, rd_I_Sym]) (fun x _ => eqSym_ev x)
theorem el_cv_SymS (l : List L_Sym) : el_SymS (cv_SymS l) ≤ sz_SymS l := by
  exact el_map cv_Sym el_Sym sz_Sym el_cv_Sym l
mutual
def sz_Term : L_Term → Nat
  | ⟨_, _, ks⟩ => sz_TermS ks
def sz_TermS : List L_Term → Nat
  | [] => 0
  | t :: ts => (1 + sz_Term t) + sz_TermS ts
end
theorem sz_TermS_eq (l : List L_Term) : sz_TermS l = l.length + (l.map sz_Term).sum := by
  induction l with
  | nil => rfl
  | cons t ts ih => rw [sz_TermS, ih, List.map_cons, List.sum_cons, List.length_cons]; omega
theorem sz_Term_eq (t : L_Term) : sz_Term t = sz_TermS t.f2 := by cases t; rw [sz_Term]
mutual
def cv_Term : L_Term → I_Term
  | ⟨f, v, ks⟩ => ⟨f, v, cv_TermS ks⟩
def cv_TermS : List L_Term → List I_Term
  | [] => []
  | t :: ts => cv_Term t :: cv_TermS ts
end
theorem cv_TermS_eq (l : List L_Term) : cv_TermS l = l.map cv_Term := by
  induction l with
  | nil => rfl
  | cons t ts ih => rw [cv_TermS, ih, List.map_cons]
theorem cv_Term_eq (t : L_Term) : cv_Term t = ⟨t.f0, t.f1, cv_TermS t.f2⟩ := by cases t; rw [cv_Term]
theorem mem_sz_TermS {l : List L_Term} {y : L_Term} (h : y ∈ l) : sz_Term y + 1 ≤ sz_TermS l := by
  rw [sz_TermS_eq]
  exact mem_size sz_Term h
theorem wf_kids {t : L_Term} (h : Wf_L_Term t) : t.f2.length ≤ maxLen ∧ ∀ y ∈ t.f2, Wf_L_Term y := by
  cases h with
  | mk _ h0 h1 h2 g2 => exact ⟨h2, g2⟩
theorem szTermS_all (n : Nat) : ∀ l : List L_Term, sz_TermS l ≤ n → (l.length ≤ maxLen ∧ ∀ y ∈ l, Wf_L_Term y) → ∀ left : Int, 0 ≤ left → left ≤ 1048576 → Ev (fun k => laws_szTermS.f k l left) (szr (sz_TermS l) left) := by
  induction n using Nat.strongRecOn with
  | _ n ih =>
  intro l hn hw left h0 h1
  rw [sz_TermS_eq]
  refine Ev.step (f := fun k => if (wrap64 (left - (l.length : Int))) < 0 then some (-1) else laws_szTermS.l0 k l (wrap64 (left - (l.length : Int))) 0) (fun k => by simp only [laws_szTermS.f]) ?_
  refine sz_list l hw.1 sz_Term (fun k q => laws_szTermS.l0 k l q 0) left h0 h1 fun q q0 q1 => ?_
  refine sz_loop l zL_Term hw.1 (fun k q i => laws_szTermS.l0 k l q i) (fun k x q => laws_szTerm.f k x.f0 x.f1 x.f2 q) (fun k q i => by simp only [laws_szTermS.l0, rd_L_Term]) sz_Term (fun x hx q r0 r1 => ?_) l.length 0 q (by omega) q0 q1
  have hm := mem_sz_TermS hx
  refine Ev.step (f := fun k => (laws_szTermS.f k x.f2 q).bind fun t => if t < 0 then some (-1) else some t) (fun k => by simp only [laws_szTerm.f]) ?_
  rw [show sz_Term x = sz_TermS x.f2 + 0 from sz_Term_eq x]
  refine sz_then r1 (ih (sz_TermS x.f2) (by rw [← sz_Term_eq]; omega) x.f2 (Nat.le_refl _) (wf_kids (hw.2 x hx)) q r0 r1) fun q2 s0 _ => sz_end s0
theorem szTermS_ev (l : List L_Term) (hw : l.length ≤ maxLen ∧ ∀ y ∈ l, Wf_L_Term y) (left : Int) (h0 : 0 ≤ left) (h1 : left ≤ 1048576) : Ev (fun k => laws_szTermS.f k l left) (szr (sz_TermS l) left) :=
  szTermS_all _ l (Nat.le_refl _) hw left h0 h1
theorem szTerm_ev (x : L_Term) (hw : Wf_L_Term x) (left : Int) (h0 : 0 ≤ left) (h1 : left ≤ 1048576) : Ev (fun k => laws_szTerm.f k (x.f0) (x.f1) (x.f2) left) (szr (sz_Term x) left) := by
  refine Ev.step (f := fun k => (laws_szTermS.f k x.f2 left).bind fun t => if t < 0 then some (-1) else some t) (fun k => by simp only [laws_szTerm.f]) ?_
  rw [show sz_Term x = sz_TermS x.f2 + 0 from sz_Term_eq x]
  exact sz_then h1 (szTermS_ev _ (wf_kids hw) left h0 h1) fun q2 s0 _ => sz_end s0
theorem toTermS_all (n : Nat) : ∀ l : List L_Term, sz_TermS l ≤ n → sz_TermS l ≤ 1048576 → Ev (fun k => laws_toTermS.f k l) (cv_TermS l) := by
  induction n using Nat.strongRecOn with
  | _ n ih =>
  intro l hn hs
  have hl : l.length ≤ 1048576 := by rw [sz_TermS_eq] at hs; omega
  have hm : maxLen = 9223372036854775807 := rfl
  refine Ev.step (f := fun k => if 0 ≤ (l.length : Int) then (if ((l.length : Int) : Int).toNat ≤ 7036874417766 then (laws_toTermS.l0 k l (List.replicate ((l.length : Int) : Int).toNat zI_Term) 0) else none) else none) (fun k => by simp only [laws_toTermS.f]) ?_
  rw [cv_TermS_eq]
  refine Ev.val (to_list (B := 7036874417766) l zL_Term zI_Term (by omega) (fun k acc i => laws_toTermS.l0 k l acc i) (fun k x => laws_toTerm.f k x.f0 x.f1 x.f2) (fun t => (⟨t.1, t.2.1, t.2.2⟩ : I_Term)) (fun k acc i => by simp only [laws_toTermS.l0, rd_L_Term]) (fun x => (x.f0, x.f1, cv_TermS x.f2)) (fun x hx => ?_) (by omega)) ?_
  · have h2 := mem_sz_TermS hx
    have h3 := sz_Term_eq x
    refine Ev.step (f := fun k => (laws_toTermS.f k x.f2).bind fun t => some (x.f0, x.f1, t)) (fun k => by simp only [laws_toTerm.f]) ?_
    exact Ev.bind (ih (sz_TermS x.f2) (by omega) x.f2 (Nat.le_refl _) (by omega)) Ev.some
  · exact List.map_congr_left fun x _ => (cv_Term_eq x).symm
theorem toTermS_ev (l : List L_Term) (hs : sz_TermS l ≤ 1048576) : Ev (fun k => laws_toTermS.f k l) (cv_TermS l) := toTermS_all _ l (Nat.le_refl _) hs
theorem toTerm_ev (x : L_Term) (hs : sz_Term x ≤ 1048576) : Ev (fun k => laws_toTerm.f k (x.f0) (x.f1) (x.f2)) ((cv_Term x).f0, (cv_Term x).f1, (cv_Term x).f2) := by
  refine Ev.step (f := fun k => (laws_toTermS.f k x.f2).bind fun t => some (x.f0, x.f1, t)) (fun k => by simp only [laws_toTerm.f]) ?_
  rw [cv_Term_eq]
  exact Ev.bind (toTermS_ev _ (by rw [← sz_Term_eq]; exact hs)) Ev.some
mutual
def el_Term : I_Term → Nat
  | ⟨_, _, ks⟩ => el_TermS ks
def el_TermS : List I_Term → Nat
  | [] => 0
  | t :: ts => (1 + el_Term t) + el_TermS ts
end
theorem el_TermS_eq (l : List I_Term) : el_TermS l = l.length + (l.map el_Term).sum := by
  induction l with
  | nil => rfl
  | cons t ts ih => rw [el_TermS, ih, List.map_cons, List.sum_cons, List.length_cons]; omega
theorem el_Term_eq (t : I_Term) : el_Term t = el_TermS t.f2 := by cases t; rw [el_Term]
theorem eqTermS_all (n : Nat) : ∀ l : List I_Term, el_TermS l ≤ n → el_TermS l ≤ maxLen → Ev (fun k => laws_eqTermS.f k l l) true := by
  induction n using Nat.strongRecOn with
  | _ n ih =>
  intro l hn hs
  have hl : l.length ≤ maxLen := by rw [el_TermS_eq] at hs; omega
  refine Ev.step (f := fun k => if (l.length : Int) = (l.length : Int) then laws_eqTermS.l0 k l l 0 else some false) (fun k => by simp only [laws_eqTermS.f]) ?_
  refine eq_list l zI_Term hl (fun k i => laws_eqTermS.l0 k l l i) (fun k x => laws_eqTerm.f k x.f0 x.f1 x.f2 x.f0 x.f1 x.f2) (fun k i => by simp only [laws_eqTermS.l0, rd_I_Term]) (fun x hx => ?_)
  have h2 : el_Term x + 1 ≤ el_TermS l := by rw [el_TermS_eq]; exact mem_size el_Term hx
  have h3 := el_Term_eq x
  refine Ev.step (f := fun k => if x.f0 = x.f0 then (if x.f1 = x.f1 then ((laws_eqTermS.f k x.f2 x.f2).bind fun t => if t = true then some true else some false) else some false) else some false) (fun k => by simp only [laws_eqTerm.f]) ?_
  exact Ev.ite_pos rfl (Ev.ite_pos rfl (Ev.bind (ih (el_TermS x.f2) (by omega) x.f2 (Nat.le_refl _) (by omega)) (Ev.ite_pos rfl Ev.some)))
theorem eqTermS_ev (l : List I_Term) (hs : el_TermS l ≤ maxLen) : Ev (fun k => laws_eqTermS.f k l l) true := eqTermS_all _ l (Nat.le_refl _) hs
theorem eqTerm_ev (x : I_Term) (hs : el_Term x ≤ maxLen) : Ev (fun k => laws_eqTerm.f k (x.f0) (x.f1) (x.f2) (x.f0) (x.f1) (x.f2)) true := by
  refine Ev.step (f := fun k => if x.f0 = x.f0 then (if x.f1 = x.f1 then ((laws_eqTermS.f k x.f2 x.f2).bind fun t => if t = true then some true else some false) else some false) else some false) (fun k => by simp only [laws_eqTerm.f]) ?_
  exact Ev.ite_pos rfl (Ev.ite_pos rfl (Ev.bind (eqTermS_ev _ (by rw [← el_Term_eq]; exact hs)) (Ev.ite_pos rfl Ev.some)))
mutual
theorem el_cv_Term : ∀ t : L_Term, el_Term (cv_Term t) ≤ sz_Term t
  | ⟨_, _, ks⟩ => by rw [cv_Term, el_Term, sz_Term]; exact el_cv_TermS ks
theorem el_cv_TermS : ∀ l : List L_Term, el_TermS (cv_TermS l) ≤ sz_TermS l
  | [] => Nat.le_refl _
  | t :: ts => by
    have h1 := el_cv_Term t
    have h2 := el_cv_TermS ts
    rw [cv_TermS, el_TermS, sz_TermS]
    omega
end
def sz_IntS (l : List Int) : Nat := l.length + (l.map (fun _ => 0)).sum
def el_IntS (l : List Int) : Nat := l.length + (l.map (fun _ => 0)).sum
theorem eqIntS_ev (l : List Int) (hs : el_IntS l ≤ maxLen) : Ev (fun k => laws_eqIntS.f k l l) true := by
  have hl : l.length ≤ maxLen := by unfold el_IntS at hs; omega
  unfold laws_eqIntS.f
  exact eq_ints l hl (fun k i => laws_eqIntS.l0 k l l i) (fun k i => by simp only [laws_eqIntS.l0, rd])
end Go.Proofs.Ytlgoindmpejgcaa.Pure
