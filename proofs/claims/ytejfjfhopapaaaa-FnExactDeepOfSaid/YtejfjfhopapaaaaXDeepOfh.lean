/- What the harness of the laws comes to: sizes, copies, comparisons, for the mirrored types. -/
import Derived.Test.YtejfjfhopapaaaaXDeepOfx
import Derived.Test.YtejfjfhopapaaaaVDeepOf
namespace Go.Proofs.Ytejfjfhopapaaaa.Pure
open Go.RowKit Go.Proofs.Ytejfjfhopapaaaa.XDeepOf Go.Proofs.Ytejfjfhopapaaaa.XPure Go.Proofs.YtejfjfhopapaaaaW.PrintWords Go.Proofs.YtejfjfhopapaaaaW.PrintLast
set_option linter.unusedVariables false
set_option linter.unusedSimpArgs false
def sz_IntS (l : List Int) : Nat := l.length + (l.map (fun _ => 0)).sum
theorem szIntS_ev (l : List Int) (hw : l.length ≤ maxLen ∧ ∀ y ∈ l, (fun a => (Lit.int .i64 a).wf = true) y) (left : Int) (h0 : 0 ≤ left) (h1 : left ≤ 1048576) : Ev (fun _ => laws_szIntS.f l left) (szr (sz_IntS l) left) := by
  unfold laws_szIntS.f
  have e : sz_IntS l = l.length + 0 := by unfold sz_IntS; rw [sum_zero l (fun _ => 0) (fun _ => rfl)]
  rw [e]
  exact sz_len hw.1 h0 h1
theorem toIntS_ev (l : List Int) (hs : sz_IntS l ≤ 1048576) : Ev (fun k => laws_toIntS.f k l) l := by
  have hl : l.length ≤ 1048576 := by unfold sz_IntS at hs; omega
  have hm : maxLen = 9223372036854775807 := rfl
  unfold laws_toIntS.f
  exact to_ints (B := 35184372088832) l (by omega) (fun k acc i => laws_toIntS.l0 k l acc i) (fun k acc i => by simp only [laws_toIntS.l0, rd]) (by omega)
def el_IntS (l : List Int) : Nat := l.length + (l.map (fun _ => 0)).sum
theorem eqIntS_ev (l : List Int) (hs : el_IntS l ≤ maxLen) : Ev (fun k => laws_eqIntS.f k l l) true := by
  have hl : l.length ≤ maxLen := by unfold el_IntS at hs; omega
  unfold laws_eqIntS.f
  exact eq_ints l hl (fun k i => laws_eqIntS.l0 k l l i) (fun k i => by simp only [laws_eqIntS.l0, rd])
theorem el_cv_IntS (l : List Int) : el_IntS (id l) ≤ sz_IntS l := by
  exact Nat.le_refl _
mutual
def sz_Term : L_Term → Nat
  | ⟨_, _, ks⟩ => sz_TermS ks
def sz_TermS : List L_Term → Nat
  | [] => 0
  | t :: ts => (1 + sz_Term t) + sz_TermS ts
end
theorem sz_TermS_eq (l : List L_Term) : sz_TermS l = l.length + (l.map sz_Term).sum := by
  induction l with
  | nil => rfl
  | cons t ts ih => rw [sz_TermS, ih, List.map_cons, List.sum_cons, List.length_cons]; omega
theorem sz_Term_eq (t : L_Term) : sz_Term t = sz_TermS t.f2 := by cases t; rw [sz_Term]
mutual
def cv_Term : L_Term → I_Term
  | ⟨f, v, ks⟩ => ⟨f, v, cv_TermS ks⟩
def cv_TermS : List L_Term → List I_Term
  | [] => []
  | t :: ts => cv_Term t :: cv_TermS ts
end
theorem cv_TermS_eq (l : List L_Term) : cv_TermS l = l.map cv_Term := by
  induction l with
  | nil => rfl
  | cons t ts ih => rw [cv_TermS, ih, List.map_cons]
theorem cv_Term_eq (t : L_Term) : cv_Term t = ⟨t.f0, t.f1, cv_TermS t.f2⟩ := by cases t; rw [cv_Term]
theorem mem_sz_TermS {l : List L_Term} {y : L_Term} (h : y ∈ l) : sz_Term y + 1 ≤ sz_TermS l := by
  rw [sz_TermS_eq]
  exact mem_size sz_Term h
theorem wf_kids {t : L_Term} (h : Wf_L_Term t) : t.f2.length ≤ maxLen ∧ ∀ y ∈ t.f2, Wf_L_Term y := by
  cases h with
  | mk _ h0 h1 h2 g2 => exact ⟨h2, g2⟩
theorem szTermS_all (n : Nat) : ∀ l : List L_Term, sz_TermS l ≤ n → (l.length ≤ maxLen ∧ ∀ y ∈ l, Wf_L_Term y) → ∀ left : Int, 0 ≤ left → left ≤ 1048576 → Ev (fun k => laws_szTermS.f k l left) (szr (sz_TermS l) left) := by
  induction n using Nat.strongRecOn with
  | _ n ih =>
  intro l hn hw left h0 h1
  rw [sz_TermS_eq]
  refine Ev.step (f := fun k => if (wrap64 (left - (l.length : Int))) < 0 then some (-1) else laws_szTermS.l0 k l (wrap64 (left - (l.length : Int))) 0) (fun k => by simp only [laws_szTermS.f]) ?_
  refine sz_list l hw.1 sz_Term (fun k q => laws_szTermS.l0 k l q 0) left h0 h1 fun q q0 q1 => ?_
  refine sz_loop l zL_Term hw.1 (fun k q i => laws_szTermS.l0 k l q i) (fun k x q => laws_szTerm.f k x.f0 x.f1 x.f2 q) (fun k q i => by simp only [laws_szTermS.l0, rd_L_Term]) sz_Term (fun x hx q r0 r1 => ?_) l.length 0 q (by omega) q0 q1
  have hm := mem_sz_TermS hx
  refine Ev.step (f := fun k => (laws_szTermS.f k x.f2 q).bind fun t => if t < 0 then some (-1) else some t) (fun k => by simp only [laws_szTerm.f]) ?_
  rw [show sz_Term x = sz_TermS x.f2 + 0 from sz_Term_eq x]
  refine sz_then r1 (ih (sz_TermS x.f2) (by rw [← sz_Term_eq]; omega) x.f2 (Nat.le_refl _) (wf_kids (hw.2 x hx)) q r0 r1) fun q2 s0 _ => sz_end s0
theorem szTermS_ev (l : List L_Term) (hw : l.length ≤ maxLen ∧ ∀ y ∈ l, Wf_L_Term y) (left : Int) (h0 : 0 ≤ left) (h1 : left ≤ 1048576) : Ev (fun k => laws_szTermS.f k l left) (szr (sz_TermS l) left) :=
  szTermS_all _ l (Nat.le_refl _) hw left h0 h1
theorem szTerm_ev (x : L_Term) (hw : Wf_L_Term x) (left : Int) (h0 : 0 ≤ left) (h1 : left ≤ 1048576) : Ev (fun k => laws_szTerm.f k (x.f0) (x.f1) (x.f2) left) (szr (sz_Term x) left) := by
  refine Ev.step (f := fun k => (laws_szTermS.f k x.f2 left).bind fun t => if t < 0 then some (-1) else some t) (fun k => by simp only [laws_szTerm.f]) ?_
  rw [show sz_Term x = sz_TermS x.f2 + 0 from sz_Term_eq x]
  exact sz_then h1 (szTermS_ev _ (wf_kids hw) left h0 h1) fun q2 s0 _ => sz_end s0
theorem toTermS_all (n : Nat) : ∀ l : List L_Term, sz_TermS l ≤ n → sz_TermS l ≤ 1048576 → Ev (fun k => laws_toTermS.f k l) (cv_TermS l) := by
  induction n using Nat.strongRecOn with
  | _ n ih =>
  intro l hn hs
  have hl : l.length ≤ 1048576 := by rw [sz_TermS_eq] at hs; omega
  have hm : maxLen = 9223372036854775807 := rfl
  refine Ev.step (f := fun k => if 0 ≤ (l.length : Int) then (if ((l.length : Int) : Int).toNat ≤ 7036874417766 then (laws_toTermS.l0 k l (List.replicate ((l.length : Int) : Int).toNat zI_Term) 0) else none) else none) (fun k => by simp only [laws_toTermS.f]) ?_
  rw [cv_TermS_eq]
  refine Ev.val (to_list (B := 7036874417766) l zL_Term zI_Term (by omega) (fun k acc i => laws_toTermS.l0 k l acc i) (fun k x => laws_toTerm.f k x.f0 x.f1 x.f2) (fun t => (⟨t.1, t.2.1, t.2.2⟩ : I_Term)) (fun k acc i => by simp only [laws_toTermS.l0, rd_L_Term]) (fun x => (x.f0, x.f1, cv_TermS x.f2)) (fun x hx => ?_) (by omega)) ?_
  · have h2 := mem_sz_TermS hx
    have h3 := sz_Term_eq x
    refine Ev.step (f := fun k => (laws_toTermS.f k x.f2).bind fun t => some (x.f0, x.f1, t)) (fun k => by simp only [laws_toTerm.f]) ?_
    exact Ev.bind (ih (sz_TermS x.f2) (by omega) x.f2 (Nat.le_refl _) (by omega)) Ev.some
  · exact List.map_congr_left fun x _ => (cv_Term_eq x).symm
theorem toTermS_ev (l : List L_Term) (hs : sz_TermS l ≤ 1048576) : Ev (fun k => laws_toTermS.f k l) (cv_TermS l) := toTermS_all _ l (Nat.le_refl _) hs
theorem toTerm_ev (x : L_Term) (hs : sz_Term x ≤ 1048576) : Ev (fun k => laws_toTerm.f k (x.f0) (x.f1) (x.f2)) ((cv_Term x).f0, (cv_Term x).f1, (cv_Term x).f2) := by
  refine Ev.step (f := fun k => (laws_toTermS.f k x.f2).bind fun t => some (x.f0, x.f1, t)) (fun k => by simp only [laws_toTerm.f]) ?_
  rw [cv_Term_eq]
  exact Ev.bind (toTermS_ev _ (by rw [← sz_Term_eq]; exact hs)) Ev.some
mutual
def el_Term : I_Term → Nat
  | ⟨_, _, ks⟩ => el_TermS ks
def el_TermS : List I_Term → Nat
  | [] => 0
  | t :: ts => (1 + el_Term t) + el_TermS ts
end
theorem el_TermS_eq (l : List I_Term) : el_TermS l = l.length + (l.map el_Term).sum := by
  induction l with
  | nil => rfl
  | cons t ts ih => rw [el_TermS, ih, List.map_cons, List.sum_cons, List.length_cons]; omega
theorem el_Term_eq (t : I_Term) : el_Term t = el_TermS t.f2 := by cases t; rw [el_Term]
theorem eqTermS_all (n : Nat) : ∀ l : List I_Term, el_TermS l ≤ n → el_TermS l ≤ maxLen → Ev (fun k => laws_eqTermS.f k l l) true := by
  induction n using Nat.strongRecOn with
  | _ n ih =>
  intro l hn hs
  have hl : l.length ≤ maxLen := by rw [el_TermS_eq] at hs; omega
  refine Ev.step (f := fun k => if (l.length : Int) = (l.length : Int) then laws_eqTermS.l0 k l l 0 else some false) (fun k => by simp only [laws_eqTermS.f]) ?_
  refine eq_list l zI_Term hl (fun k i => laws_eqTermS.l0 k l l i) (fun k x => laws_eqTerm.f k x.f0 x.f1 x.f2 x.f0 x.f1 x.f2) (fun k i => by simp only [laws_eqTermS.l0, rd_I_Term]) (fun x hx => ?_)
  have h2 : el_Term x + 1 ≤ el_TermS l := by rw [el_TermS_eq]; exact mem_size el_Term hx
  have h3 := el_Term_eq x
  refine Ev.step (f := fun k => if x.f0 = x.f0 then (if x.f1 = x.f1 then ((laws_eqTermS.f k x.f2 x.f2).bind fun t => if t = true then some true else some false) else some false) else some false) (fun k => by simp only [laws_eqTerm.f]) ?_
  exact Ev.ite_pos rfl (Ev.ite_pos rfl (Ev.bind (ih (el_TermS x.f2) (by omega) x.f2 (Nat.le_refl _) (by omega)) (Ev.ite_pos rfl Ev.some)))
theorem eqTermS_ev (l : List I_Term) (hs : el_TermS l ≤ maxLen) : Ev (fun k => laws_eqTermS.f k l l) true := eqTermS_all _ l (Nat.le_refl _) hs
theorem eqTerm_ev (x : I_Term) (hs : el_Term x ≤ maxLen) : Ev (fun k => laws_eqTerm.f k (x.f0) (x.f1) (x.f2) (x.f0) (x.f1) (x.f2)) true := by
  refine Ev.step (f := fun k => if x.f0 = x.f0 then (if x.f1 = x.f1 then ((laws_eqTermS.f k x.f2 x.f2).bind fun t => if t = true then some true else some false) else some false) else some false) (fun k => by simp only [laws_eqTerm.f]) ?_
  exact Ev.ite_pos rfl (Ev.ite_pos rfl (Ev.bind (eqTermS_ev _ (by rw [← el_Term_eq]; exact hs)) (Ev.ite_pos rfl Ev.some)))
mutual
theorem el_cv_Term : ∀ t : L_Term, el_Term (cv_Term t) ≤ sz_Term t
  | ⟨_, _, ks⟩ => by rw [cv_Term, el_Term, sz_Term]; exact el_cv_TermS ks
theorem el_cv_TermS : ∀ l : List L_Term, el_TermS (cv_TermS l) ≤ sz_TermS l
  | [] => Nat.le_refl _
  | t :: ts => by
    have h1 := el_cv_Term t
    have h2 := el_cv_TermS ts
    rw [cv_TermS, el_TermS, sz_TermS]
    omega
end
def sz_Bind (x : L_Bind) : Nat := sz_Term x.f1
def cv_Bind (x : L_Bind) : I_Bind := ⟨x.f0, cv_Term x.f1⟩
theorem szBind_ev (x : L_Bind) (hw : Wf_L_Bind x) (left : Int) (h0 : 0 ≤ left) (h1 : left ≤ 1048576) : Ev (fun k => laws_szBind.f k (x.f0) (x.f1.f0) (x.f1.f1) (x.f1.f2) left) (szr (sz_Bind x) left) := by
  unfold laws_szBind.f
  rw [show sz_Bind x = sz_Term x.f1 + (0) from by simp only [sz_Bind]; omega]
  refine sz_then h1 (szTerm_ev _ hw.2 _ h0 h1) fun q0 r0 s0 => ?_
  exact sz_end r0
theorem toBind_ev (x : L_Bind) (hs : sz_Bind x ≤ 1048576) : Ev (fun k => laws_toBind.f k (x.f0) (x.f1.f0) (x.f1.f1) (x.f1.f2)) ((cv_Bind x).f0, (cv_Bind x).f1.f0, (cv_Bind x).f1.f1, (cv_Bind x).f1.f2) := by
  simp only [sz_Bind] at hs
  unfold laws_toBind.f
  refine Ev.bind (toTerm_ev _ (by omega)) ?_
  exact Ev.some
def el_Bind (x : I_Bind) : Nat := el_Term x.f1
theorem eqBind_ev (x : I_Bind) (hs : el_Bind x ≤ maxLen) : Ev (fun k => laws_eqBind.f k (x.f0) (x.f1.f0) (x.f1.f1) (x.f1.f2) (x.f0) (x.f1.f0) (x.f1.f1) (x.f1.f2)) true := by
  simp only [el_Bind] at hs
  unfold laws_eqBind.f
  refine Ev.ite_pos rfl ?_
  refine Ev.bind (eqTerm_ev _ (by omega)) (Ev.ite_pos rfl ?_)
  exact Ev.some
theorem el_cv_Bind (x : L_Bind) : el_Bind (cv_Bind x) ≤ sz_Bind x := by
  have e0 := el_cv_Term x.f1
  try simp only [id_eq] at *
  simp only [el_Bind, cv_Bind, sz_Bind]
  omega
def sz_BindS (l : List L_Bind) : Nat := l.length + (l.map sz_Bind).sum
def cv_BindS (l : List L_Bind) : List I_Bind := l.map cv_Bind
theorem szBindS_ev (l : List L_Bind) (hw : l.length ≤ maxLen ∧ ∀ y ∈ l, Wf_L_Bind y) (left : Int) (h0 : 0 ≤ left) (h1 : left ≤ 1048576) : Ev (fun k => laws_szBindS.f k l left) (szr (sz_BindS l) left) := by
  unfold laws_szBindS.f
  refine sz_list l hw.1 sz_Bind (fun k q => laws_szBindS.l0 k l q 0) left h0 h1 fun q q0 q1 => ?_
  exact sz_loop l zL_Bind hw.1 (fun k q i => laws_szBindS.l0 k l q i) (fun k x q => laws_szBind.f k (x.f0) (x.f1.f0) (x.f1.f1) (x.f1.f2) q) (fun k q i => by simp only [laws_szBindS.l0, rd_L_Bind]) sz_Bind (fun x hx q r0 r1 => szBind_ev x (hw.2 x hx) q r0 r1) l.length 0 q (by omega) q0 q1
theorem mem_sz_BindS {l : List L_Bind} {y : L_Bind} (h : y ∈ l) : sz_Bind y + 1 ≤ sz_BindS l := by
  exact mem_size sz_Bind h
theorem toBindS_ev (l : List L_Bind) (hs : sz_BindS l ≤ 1048576) : Ev (fun k => laws_toBindS.f k l) (cv_BindS l) := by
  have hl : l.length ≤ 1048576 := by unfold sz_BindS at hs; omega
  have hm : maxLen = 9223372036854775807 := rfl
  unfold laws_toBindS.f
  refine Ev.val (to_list (B := 5864062014805) l zL_Bind zI_Bind (by omega) (fun k acc i => laws_toBindS.l0 k l acc i) (fun k x => laws_toBind.f k (x.f0) (x.f1.f0) (x.f1.f1) (x.f1.f2)) (fun t => (⟨t.1, (⟨t.2.1, t.2.2.1, t.2.2.2⟩ : I_Term)⟩ : I_Bind)) (fun k acc i => by simp only [laws_toBindS.l0, rd_L_Bind]) (fun x => ((cv_Bind x).f0, (cv_Bind x).f1.f0, (cv_Bind x).f1.f1, (cv_Bind x).f1.f2)) (fun x hx => toBind_ev x (by have := mem_sz_BindS hx; omega)) (by omega)) ?_
  unfold cv_BindS
  apply List.map_congr_left
  intro x _
  generalize cv_Bind x = y
  obtain ⟨_, ⟨_, _, _⟩⟩ := y
  rfl
def el_BindS (l : List I_Bind) : Nat := l.length + (l.map el_Bind).sum
theorem eqBindS_ev (l : List I_Bind) (hs : el_BindS l ≤ maxLen) : Ev (fun k => laws_eqBindS.f k l l) true := by
  have hl : l.length ≤ maxLen := by unfold el_BindS at hs; omega
  unfold laws_eqBindS.f
  exact eq_list l zI_Bind hl (fun k i => laws_eqBindS.l0 k l l i) (fun k x => laws_eqBind.f k (x.f0) (x.f1.f0) (x.f1.f1) (x.f1.f2) (x.f0) (x.f1.f0) (x.f1.f1) (x.f1.f2)) (fun k i => by simp only [laws_eqBindS.l0, rd_I_Bind]) (fun x hx => eqBind_ev x (by have := mem_size el_Bind hx; unfold el_BindS at hs; omega))
theorem el_cv_BindS (l : List L_Bind) : el_BindS (cv_BindS l) ≤ sz_BindS l := by
  exact el_map cv_Bind el_Bind sz_Bind el_cv_Bind l
def sz_Lit (x : L_Lit) : Nat := sz_Term x.f1 + sz_Term x.f2
def cv_Lit (x : L_Lit) : I_Lit := ⟨x.f0, cv_Term x.f1, cv_Term x.f2⟩
theorem szLit_ev (x : L_Lit) (hw : Wf_L_Lit x) (left : Int) (h0 : 0 ≤ left) (h1 : left ≤ 1048576) : Ev (fun k => laws_szLit.f k (x.f0) (x.f1.f0) (x.f1.f1) (x.f1.f2) (x.f2.f0) (x.f2.f1) (x.f2.f2) left) (szr (sz_Lit x) left) := by
  unfold laws_szLit.f
  rw [show sz_Lit x = sz_Term x.f1 + (sz_Term x.f2 + (0)) from by simp only [sz_Lit]; omega]
  refine sz_then h1 (szTerm_ev _ hw.2.1 _ h0 h1) fun q0 r0 s0 => ?_
  refine sz_then s0 (szTerm_ev _ hw.2.2 _ r0 s0) fun q1 r1 s1 => ?_
  exact sz_end r1
theorem toLit_ev (x : L_Lit) (hs : sz_Lit x ≤ 1048576) : Ev (fun k => laws_toLit.f k (x.f0) (x.f1.f0) (x.f1.f1) (x.f1.f2) (x.f2.f0) (x.f2.f1) (x.f2.f2)) ((cv_Lit x).f0, (cv_Lit x).f1.f0, (cv_Lit x).f1.f1, (cv_Lit x).f1.f2, (cv_Lit x).f2.f0, (cv_Lit x).f2.f1, (cv_Lit x).f2.f2) := by
  simp only [sz_Lit] at hs
  unfold laws_toLit.f
  refine Ev.bind (toTerm_ev _ (by omega)) ?_
  refine Ev.bind (toTerm_ev _ (by omega)) ?_
  exact Ev.some
def el_Lit (x : I_Lit) : Nat := el_Term x.f1 + el_Term x.f2
theorem eqLit_ev (x : I_Lit) (hs : el_Lit x ≤ maxLen) : Ev (fun k => laws_eqLit.f k (x.f0) (x.f1.f0) (x.f1.f1) (x.f1.f2) (x.f2.f0) (x.f2.f1) (x.f2.f2) (x.f0) (x.f1.f0) (x.f1.f1) (x.f1.f2) (x.f2.f0) (x.f2.f1) (x.f2.f2)) true := by
  simp only [el_Lit] at hs
  unfold laws_eqLit.f
  refine Ev.ite_neg (by simp) ?_
  refine Ev.bind (eqTerm_ev _ (by omega)) (Ev.ite_pos rfl ?_)
  refine Ev.bind (eqTerm_ev _ (by omega)) (Ev.ite_pos rfl ?_)
  exact Ev.some
theorem el_cv_Lit (x : L_Lit) : el_Lit (cv_Lit x) ≤ sz_Lit x := by
  have e0 := el_cv_Term x.f1
  have e1 := el_cv_Term x.f2
  try simp only [id_eq] at *
  simp only [el_Lit, cv_Lit, sz_Lit]
  omega
def sz_LitS (l : List L_Lit) : Nat := l.length + (l.map sz_Lit).sum
def cv_LitS (l : List L_Lit) : List I_Lit := l.map cv_Lit
theorem szLitS_ev (l : List L_Lit) (hw : l.length ≤ maxLen ∧ ∀ y ∈ l, Wf_L_Lit y) (left : Int) (h0 : 0 ≤ left) (h1 : left ≤ 1048576) : Ev (fun k => laws_szLitS.f k l left) (szr (sz_LitS l) left) := by
  unfold laws_szLitS.f
  refine sz_list l hw.1 sz_Lit (fun k q => laws_szLitS.l0 k l q 0) left h0 h1 fun q q0 q1 => ?_
  exact sz_loop l zL_Lit hw.1 (fun k q i => laws_szLitS.l0 k l q i) (fun k x q => laws_szLit.f k (x.f0) (x.f1.f0) (x.f1.f1) (x.f1.f2) (x.f2.f0) (x.f2.f1) (x.f2.f2) q) (fun k q i => by simp only [laws_szLitS.l0, rd_L_Lit]) sz_Lit (fun x hx q r0 r1 => szLit_ev x (hw.2 x hx) q r0 r1) l.length 0 q (by omega) q0 q1
theorem mem_sz_LitS {l : List L_Lit} {y : L_Lit} (h : y ∈ l) : sz_Lit y + 1 ≤ sz_LitS l := by
  exact mem_size sz_Lit h
theorem toLitS_ev (l : List L_Lit) (hs : sz_LitS l ≤ 1048576) : Ev (fun k => laws_toLitS.f k l) (cv_LitS l) := by
  have hl : l.length ≤ 1048576 := by unfold sz_LitS at hs; omega
  have hm : maxLen = 9223372036854775807 := rfl
  unfold laws_toLitS.f
  refine Ev.val (to_list (B := 3198579280802) l zL_Lit zI_Lit (by omega) (fun k acc i => laws_toLitS.l0 k l acc i) (fun k x => laws_toLit.f k (x.f0) (x.f1.f0) (x.f1.f1) (x.f1.f2) (x.f2.f0) (x.f2.f1) (x.f2.f2)) (fun t => (⟨t.1, (⟨t.2.1, t.2.2.1, t.2.2.2.1⟩ : I_Term), (⟨t.2.2.2.2.1, t.2.2.2.2.2.1, t.2.2.2.2.2.2⟩ : I_Term)⟩ : I_Lit)) (fun k acc i => by simp only [laws_toLitS.l0, rd_L_Lit]) (fun x => ((cv_Lit x).f0, (cv_Lit x).f1.f0, (cv_Lit x).f1.f1, (cv_Lit x).f1.f2, (cv_Lit x).f2.f0, (cv_Lit x).f2.f1, (cv_Lit x).f2.f2)) (fun x hx => toLit_ev x (by have := mem_sz_LitS hx; omega)) (by omega)) ?_
  unfold cv_LitS
  apply List.map_congr_left
  intro x _
  generalize cv_Lit x = y
  obtain ⟨_, ⟨_, _, _⟩, ⟨_, _, _⟩⟩ := y
  rfl
def el_LitS (l : List I_Lit) : Nat := l.length + (l.map el_Lit).sum
theorem eqLitS_ev (l : List I_Lit) (hs : el_LitS l ≤ maxLen) : Ev (fun k => laws_eqLitS.f k l l) true := by
  have hl : l.length ≤ maxLen := by unfold el_LitS at hs; omega
  unfold laws_eqLitS.f
  exact eq_list l zI_Lit hl (fun k i => laws_eqLitS.l0 k l l i) (fun k x => laws_eqLit.f k (x.f0) (x.f1.f0) (x.f1.f1) (x.f1.f2) (x.f2.f0) (x.f2.f1) (x.f2.f2) (x.f0) (x.f1.f0) (x.f1.f1) (x.f1.f2) (x.f2.f0) (x.f2.f1) (x.f2.f2)) (fun k i => by simp only [laws_eqLitS.l0, rd_I_Lit]) (fun x hx => eqLit_ev x (by have := mem_size el_Lit hx; unfold el_LitS at hs; omega))
theorem el_cv_LitS (l : List L_Lit) : el_LitS (cv_LitS l) ≤ sz_LitS l := by
  exact el_map cv_Lit el_Lit sz_Lit el_cv_Lit l
def sz_Clause (x : L_Clause) : Nat := sz_LitS x.f0
def cv_Clause (x : L_Clause) : I_Clause := ⟨cv_LitS x.f0⟩
theorem szClause_ev (x : L_Clause) (hw : Wf_L_Clause x) (left : Int) (h0 : 0 ≤ left) (h1 : left ≤ 1048576) : Ev (fun k => laws_szClause.f k (x.f0) left) (szr (sz_Clause x) left) := by
  unfold laws_szClause.f
  rw [show sz_Clause x = sz_LitS x.f0 + (0) from by simp only [sz_Clause]; omega]
  refine sz_then h1 (szLitS_ev _ hw _ h0 h1) fun q0 r0 s0 => ?_
  exact sz_end r0
theorem toClause_ev (x : L_Clause) (hs : sz_Clause x ≤ 1048576) : Ev (fun k => laws_toClause.f k (x.f0)) ((cv_Clause x).f0) := by
  simp only [sz_Clause] at hs
  unfold laws_toClause.f
  refine Ev.bind (toLitS_ev _ (by omega)) ?_
  exact Ev.some
def el_Clause (x : I_Clause) : Nat := el_LitS x.f0
theorem eqClause_ev (x : I_Clause) (hs : el_Clause x ≤ maxLen) : Ev (fun k => laws_eqClause.f k (x.f0) (x.f0)) true := by
  simp only [el_Clause] at hs
  unfold laws_eqClause.f
  refine Ev.bind (eqLitS_ev _ (by omega)) (Ev.ite_pos rfl ?_)
  exact Ev.some
theorem el_cv_Clause (x : L_Clause) : el_Clause (cv_Clause x) ≤ sz_Clause x := by
  have e0 := el_cv_LitS x.f0
  try simp only [id_eq] at *
  simp only [el_Clause, cv_Clause, sz_Clause]
  omega
def sz_Step (x : L_Step) : Nat := sz_IntS x.f7 + sz_BindS x.f9 + sz_Clause x.f10
def cv_Step (x : L_Step) : I_Step := ⟨x.f0, x.f1, x.f2, x.f3, x.f4, x.f5, x.f6, x.f7, x.f8, cv_BindS x.f9, cv_Clause x.f10⟩
theorem szStep_ev (x : L_Step) (hw : Wf_L_Step x) (left : Int) (h0 : 0 ≤ left) (h1 : left ≤ 1048576) : Ev (fun k => laws_szStep.f k (x.f0) (x.f1) (x.f2) (x.f3) (x.f4) (x.f5) (x.f6) (x.f7) (x.f8) (x.f9) (x.f10.f0) left) (szr (sz_Step x) left) := by
  unfold laws_szStep.f
  rw [show sz_Step x = sz_IntS x.f7 + (sz_BindS x.f9 + (sz_Clause x.f10 + (0))) from by simp only [sz_Step]; omega]
  refine sz_then h1 (szIntS_ev _ hw.2.2.2.2.2.2.2.1 _ h0 h1) fun q0 r0 s0 => ?_
  refine sz_then s0 (szBindS_ev _ hw.2.2.2.2.2.2.2.2.2.1 _ r0 s0) fun q1 r1 s1 => ?_
  refine sz_then s1 (szClause_ev _ hw.2.2.2.2.2.2.2.2.2.2 _ r1 s1) fun q2 r2 s2 => ?_
  exact sz_end r2
theorem toStep_ev (x : L_Step) (hs : sz_Step x ≤ 1048576) : Ev (fun k => laws_toStep.f k (x.f0) (x.f1) (x.f2) (x.f3) (x.f4) (x.f5) (x.f6) (x.f7) (x.f8) (x.f9) (x.f10.f0)) ((cv_Step x).f0, (cv_Step x).f1, (cv_Step x).f2, (cv_Step x).f3, (cv_Step x).f4, (cv_Step x).f5, (cv_Step x).f6, (cv_Step x).f7, (cv_Step x).f8, (cv_Step x).f9, (cv_Step x).f10.f0) := by
  simp only [sz_Step] at hs
  unfold laws_toStep.f
  refine Ev.bind (toIntS_ev _ (by omega)) ?_
  refine Ev.bind (toBindS_ev _ (by omega)) ?_
  refine Ev.bind (toClause_ev _ (by omega)) ?_
  exact Ev.some
def el_Step (x : I_Step) : Nat := el_IntS x.f7 + el_BindS x.f9 + el_Clause x.f10
theorem eqStep_ev (x : I_Step) (hs : el_Step x ≤ maxLen) : Ev (fun k => laws_eqStep.f k (x.f0) (x.f1) (x.f2) (x.f3) (x.f4) (x.f5) (x.f6) (x.f7) (x.f8) (x.f9) (x.f10.f0) (x.f0) (x.f1) (x.f2) (x.f3) (x.f4) (x.f5) (x.f6) (x.f7) (x.f8) (x.f9) (x.f10.f0)) true := by
  simp only [el_Step] at hs
  unfold laws_eqStep.f
  refine Ev.ite_pos rfl ?_
  refine Ev.ite_pos rfl ?_
  refine Ev.ite_pos rfl ?_
  refine Ev.ite_pos rfl ?_
  refine Ev.ite_pos rfl ?_
  refine Ev.ite_neg (by simp) ?_
  refine Ev.ite_neg (by simp) ?_
  refine Ev.bind (eqIntS_ev _ (by omega)) (Ev.ite_pos rfl ?_)
  refine Ev.ite_neg (by simp) ?_
  refine Ev.bind (eqBindS_ev _ (by omega)) (Ev.ite_pos rfl ?_)
  refine Ev.bind (eqClause_ev _ (by omega)) (Ev.ite_pos rfl ?_)
  exact Ev.some
theorem el_cv_Step (x : L_Step) : el_Step (cv_Step x) ≤ sz_Step x := by
  have e0 := el_cv_IntS x.f7
  have e1 := el_cv_BindS x.f9
  have e2 := el_cv_Clause x.f10
  try simp only [id_eq] at *
  simp only [el_Step, cv_Step, sz_Step]
  omega
def sz_StepS (l : List L_Step) : Nat := l.length + (l.map sz_Step).sum
def cv_StepS (l : List L_Step) : List I_Step := l.map cv_Step
theorem szStepS_ev (l : List L_Step) (hw : l.length ≤ maxLen ∧ ∀ y ∈ l, Wf_L_Step y) (left : Int) (h0 : 0 ≤ left) (h1 : left ≤ 1048576) : Ev (fun k => laws_szStepS.f k l left) (szr (sz_StepS l) left) := by
  unfold laws_szStepS.f
  refine sz_list l hw.1 sz_Step (fun k q => laws_szStepS.l0 k l q 0) left h0 h1 fun q q0 q1 => ?_
  exact sz_loop l zL_Step hw.1 (fun k q i => laws_szStepS.l0 k l q i) (fun k x q => laws_szStep.f k (x.f0) (x.f1) (x.f2) (x.f3) (x.f4) (x.f5) (x.f6) (x.f7) (x.f8) (x.f9) (x.f10.f0) q) (fun k q i => by simp only [laws_szStepS.l0, rd_L_Step]) sz_Step (fun x hx q r0 r1 => szStep_ev x (hw.2 x hx) q r0 r1) l.length 0 q (by omega) q0 q1
theorem mem_sz_StepS {l : List L_Step} {y : L_Step} (h : y ∈ l) : sz_Step y + 1 ≤ sz_StepS l := by
  exact mem_size sz_Step h
theorem toStepS_ev (l : List L_Step) (hs : sz_StepS l ≤ 1048576) : Ev (fun k => laws_toStepS.f k l) (cv_StepS l) := by
  have hl : l.length ≤ 1048576 := by unfold sz_StepS at hs; omega
  have hm : maxLen = 9223372036854775807 := rfl
  unfold laws_toStepS.f
  refine Ev.val (to_list (B := 2199023255552) l zL_Step zI_Step (by omega) (fun k acc i => laws_toStepS.l0 k l acc i) (fun k x => laws_toStep.f k (x.f0) (x.f1) (x.f2) (x.f3) (x.f4) (x.f5) (x.f6) (x.f7) (x.f8) (x.f9) (x.f10.f0)) (fun t => (⟨t.1, t.2.1, t.2.2.1, t.2.2.2.1, t.2.2.2.2.1, t.2.2.2.2.2.1, t.2.2.2.2.2.2.1, t.2.2.2.2.2.2.2.1, t.2.2.2.2.2.2.2.2.1, t.2.2.2.2.2.2.2.2.2.1, (⟨t.2.2.2.2.2.2.2.2.2.2⟩ : I_Clause)⟩ : I_Step)) (fun k acc i => by simp only [laws_toStepS.l0, rd_L_Step]) (fun x => ((cv_Step x).f0, (cv_Step x).f1, (cv_Step x).f2, (cv_Step x).f3, (cv_Step x).f4, (cv_Step x).f5, (cv_Step x).f6, (cv_Step x).f7, (cv_Step x).f8, (cv_Step x).f9, (cv_Step x).f10.f0)) (fun x hx => toStep_ev x (by have := mem_sz_StepS hx; omega)) (by omega)) ?_
  unfold cv_StepS
  apply List.map_congr_left
  intro x _
  generalize cv_Step x = y
  obtain ⟨_, _, _, _, _, _, _, _, _, _, ⟨_⟩⟩ := y
  rfl
def el_StepS (l : List I_Step) : Nat := l.length + (l.map el_Step).sum
theorem eqStepS_ev (l : List I_Step) (hs : el_StepS l ≤ maxLen) : Ev (fun k => laws_eqStepS.f k l l) true := by
  have hl : l.length ≤ maxLen := by unfold el_StepS at hs; omega
  unfold laws_eqStepS.f
  exact eq_list l zI_Step hl (fun k i => laws_eqStepS.l0 k l l i) (fun k x => laws_eqStep.f k (x.f0) (x.f1) (x.f2) (x.f3) (x.f4) (x.f5) (x.f6) (x.f7) (x.f8) (x.f9) (x.f10.f0) (x.f0) (x.f1) (x.f2) (x.f3) (x.f4) (x.f5) (x.f6) (x.f7) (x.f8) (x.f9) (x.f10.f0)) (fun k i => by simp only [laws_eqStepS.l0, rd_I_Step]) (fun x hx => eqStep_ev x (by have := mem_size el_Step hx; unfold el_StepS at hs; omega))
theorem el_cv_StepS (l : List L_Step) : el_StepS (cv_StepS l) ≤ sz_StepS l := by
  exact el_map cv_Step el_Step sz_Step el_cv_Step l
end Go.Proofs.Ytejfjfhopapaaaa.Pure
