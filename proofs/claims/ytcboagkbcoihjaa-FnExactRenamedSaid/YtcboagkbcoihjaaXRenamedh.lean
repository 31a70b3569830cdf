/- What the harness of the laws comes to: sizes, copies, comparisons, for the mirrored types. -/
import Derived.Test.YtcboagkbcoihjaaXRenamedx
import Derived.Test.YtcboagkbcoihjaaVRenamed
namespace Go.Proofs.Ytcboagkbcoihjaa.Pure
open Go.RowKit Go.Proofs.Ytcboagkbcoihjaa.XRenamed Go.Proofs.Ytcboagkbcoihjaa.XPure Go.Proofs.YtcboagkbcoihjaaW.PrintWords Go.Proofs.YtcboagkbcoihjaaW.PrintLast
set_option linter.unusedVariables false
set_option linter.unusedSimpArgs false
def sz_Sym (x : L_Sym) : Nat := x.f0.size
def cv_Sym (x : L_Sym) : I_Sym := ⟨x.f0, x.f1, x.f2⟩
theorem szSym_ev (x : L_Sym) (hw : Wf_L_Sym x) (left : Int) (h0 : 0 ≤ left) (h1 : left ≤ 1048576) : Ev (fun _ => laws_szSym.f (x.f0) (x.f1) (x.f2) left) (szr (sz_Sym x) left) := by
  unfold laws_szSym.f
  rw [show sz_Sym x = x.f0.size + (0) from by simp only [sz_Sym]; omega]
  refine sz_str hw.1 h0 h1 fun q0 r0 s0 => ?_
  exact sz_end r0
theorem toSym_ev (x : L_Sym) (hs : sz_Sym x ≤ 1048576) : Ev (fun _ => laws_toSym.f (x.f0) (x.f1) (x.f2)) ((cv_Sym x).f0, (cv_Sym x).f1, (cv_Sym x).f2) := by
  unfold laws_toSym.f
  exact Ev.some
def el_Sym (x : I_Sym) : Nat := 0
theorem eqSym_ev (x : I_Sym) : Ev (fun _ => laws_eqSym.f (x.f0) (x.f1) (x.f2) (x.f0) (x.f1) (x.f2)) true := by
  unfold laws_eqSym.f
  refine Ev.ite_pos rfl ?_
  refine Ev.ite_pos rfl ?_
  refine Ev.ite_neg (by simp) ?_
  exact Ev.some
theorem el_cv_Sym (x : L_Sym) : el_Sym (cv_Sym x) ≤ sz_Sym x := by
  simp only [el_Sym, cv_Sym, sz_Sym]
  omega
def sz_SymS (l : List L_Sym) : Nat := l.length + (l.map sz_Sym).sum
def cv_SymS (l : List L_Sym) : List I_Sym := l.map cv_Sym
theorem szSymS_ev (l : List L_Sym) (hw : l.length ≤ maxLen ∧ ∀ y ∈ l, Wf_L_Sym y) (left : Int) (h0 : 0 ≤ left) (h1 : left ≤ 1048576) : Ev (fun k => laws_szSymS.f k l left) (szr (sz_SymS l) left) := by
  unfold laws_szSymS.f
  refine sz_list l hw.1 sz_Sym (fun k q => laws_szSymS.l0 k l q 0) left h0 h1 fun q q0 q1 => ?_
  exact sz_loop l zL_Sym hw.1 (fun k q i => laws_szSymS.l0 k l q i) (fun _ x q => laws_szSym.f (x.f0) (x.f1) (x.f2) q) (fun k q i => by simp only [laws_szSymS.l0, rd_L_Sym]) sz_Sym (fun x hx q r0 r1 => szSym_ev x (hw.2 x hx) q r0 r1) l.length 0 q (by omega) q0 q1
theorem mem_sz_SymS {l : List L_Sym} {y : L_Sym} (h : y ∈ l) : sz_Sym y + 1 ≤ sz_SymS l := by
  exact mem_size sz_Sym h
theorem toSymS_ev (l : List L_Sym) (hs : sz_SymS l ≤ 1048576) : Ev (fun k => laws_toSymS.f k l) (cv_SymS l) := by
  have hl : l.length ≤ 1048576 := by unfold sz_SymS at hs; omega
  have hm : maxLen = 9223372036854775807 := rfl
  unfold laws_toSymS.f
  refine Ev.val (to_list (B := 8796093022208) l zL_Sym zI_Sym (by omega) (fun k acc i => laws_toSymS.l0 k l acc i) (fun _ x => laws_toSym.f (x.f0) (x.f1) (x.f2)) (fun t => (⟨t.1, t.2.1, t.2.2⟩ : I_Sym)) (fun k acc i => by simp only [laws_toSymS.l0, rd_L_Sym]) (fun x => ((cv_Sym x).f0, (cv_Sym x).f1, (cv_Sym x).f2)) (fun x hx => toSym_ev x (by have := mem_sz_SymS hx; omega)) (by omega)) ?_
  unfold cv_SymS
  apply List.map_congr_left
  intro x _
  generalize cv_Sym x = y
  obtain ⟨_, _, _⟩ := y
  rfl
def el_SymS (l : List I_Sym) : Nat := l.length + (l.map el_Sym).sum
theorem eqSymS_ev (l : List I_Sym) (hs : el_SymS l ≤ maxLen) : Ev (fun k => laws_eqSymS.f k l l) true := by
  have hl : l.length ≤ maxLen := by unfold el_SymS at hs; omega
  unfold laws_eqSymS.f
  exact eq_list l zI_Sym hl (fun k i => laws_eqSymS.l0 k l l i) (fun _ x => laws_eqSym.f (x.f0) (x.f1) (x.f2) (x.f0) (x.f1) (x.f2)) (fun k i => by simp only [laws_eqSymS.l0, rd_I_Sym]) (fun x _ => eqSym_ev x)
theorem el_cv_SymS (l : List L_Sym) : el_SymS (cv_SymS l) ≤ sz_SymS l := by
  exact el_map cv_Sym el_Sym sz_Sym el_cv_Sym l
def sz_IntS (l : List Int) : Nat := l.length + (l.map (fun _ => 0)).sum
theorem szIntS_ev (l : List Int) (hw : l.length ≤ maxLen ∧ ∀ y ∈ l, (fun a => (Lit.int .i64 a).wf = true) y) (left : Int) (h0 : 0 ≤ left) (h1 : left ≤ 1048576) : Ev (fun _ => laws_szIntS.f l left) (szr (sz_IntS l) left) := by
  unfold laws_szIntS.f
  have e : sz_IntS l = l.length + 0 := by unfold sz_IntS; rw [sum_zero l (fun _ => 0) (fun _ => rfl)]
  rw [e]
  exact sz_len hw.1 h0 h1
theorem toIntS_ev (l : List Int) (hs : sz_IntS l ≤ 1048576) : Ev (fun k => laws_toIntS.f k l) l := by
  have hl : l.length ≤ 1048576 := by unfold sz_IntS at hs; omega
  have hm : maxLen = 9223372036854775807 := rfl
  unfold laws_toIntS.f
  exact to_ints (B := 35184372088832) l (by omega) (fun k acc i => laws_toIntS.l0 k l acc i) (fun k acc i => by simp only [laws_toIntS.l0, rd]) (by omega)
def el_IntS (l : List Int) : Nat := l.length + (l.map (fun _ => 0)).sum
theorem eqIntS_ev (l : List Int) (hs : el_IntS l ≤ maxLen) : Ev (fun k => laws_eqIntS.f k l l) true := by
  have hl : l.length ≤ maxLen := by unfold el_IntS at hs; omega
  unfold laws_eqIntS.f
  exact eq_ints l hl (fun k i => laws_eqIntS.l0 k l l i) (fun k i => by simp only [laws_eqIntS.l0, rd])
theorem el_cv_IntS (l : List Int) : el_IntS (id l) ≤ sz_IntS l := by
  exact Nat.le_refl _
def sz_IntSS (l : List (List Int)) : Nat := l.length + (l.map sz_IntS).sum
def cv_IntSS (l : List (List Int)) : List (List Int) := l
theorem szIntSS_ev (l : List (List Int)) (hw : l.length ≤ maxLen ∧ ∀ y ∈ l, (fun a => a.length ≤ maxLen ∧ ∀ y ∈ a, (fun a => (Lit.int .i64 a).wf = true) y) y) (left : Int) (h0 : 0 ≤ left) (h1 : left ≤ 1048576) : Ev (fun k => laws_szIntSS.f k l left) (szr (sz_IntSS l) left) := by
  unfold laws_szIntSS.f
  refine sz_list l hw.1 sz_IntS (fun k q => laws_szIntSS.l0 k l q 0) left h0 h1 fun q q0 q1 => ?_
  exact sz_loop l [] hw.1 (fun k q i => laws_szIntSS.l0 k l q i) (fun _ x q => laws_szIntS.f x q) (fun k q i => by simp only [laws_szIntSS.l0, rd_Ls_i64]) sz_IntS (fun x hx q r0 r1 => szIntS_ev x (hw.2 x hx) q r0 r1) l.length 0 q (by omega) q0 q1
theorem mem_sz_IntSS {l : List (List Int)} {y : (List Int)} (h : y ∈ l) : sz_IntS y + 1 ≤ sz_IntSS l := by
  exact mem_size sz_IntS h
theorem toIntSS_ev (l : List (List Int)) (hs : sz_IntSS l ≤ 1048576) : Ev (fun k => laws_toIntSS.f k l) (cv_IntSS l) := by
  have hl : l.length ≤ 1048576 := by unfold sz_IntSS at hs; omega
  have hm : maxLen = 9223372036854775807 := rfl
  unfold laws_toIntSS.f
  refine Ev.val (to_list (B := 11728124029610) l [] [] (by omega) (fun k acc i => laws_toIntSS.l0 k l acc i) (fun k x => laws_toIntS.f k x) (fun t => t) (fun k acc i => by simp only [laws_toIntSS.l0, rd_Ls_i64]) (fun x => x) (fun x hx => toIntS_ev x (by have := mem_sz_IntSS hx; omega)) (by omega)) ?_
  unfold cv_IntSS
  simp
def el_IntSS (l : List (List Int)) : Nat := l.length + (l.map el_IntS).sum
theorem eqIntSS_ev (l : List (List Int)) (hs : el_IntSS l ≤ maxLen) : Ev (fun k => laws_eqIntSS.f k l l) true := by
  have hl : l.length ≤ maxLen := by unfold el_IntSS at hs; omega
  unfold laws_eqIntSS.f
  exact eq_list l [] hl (fun k i => laws_eqIntSS.l0 k l l i) (fun k x => laws_eqIntS.f k x x) (fun k i => by simp only [laws_eqIntSS.l0, rd_Ls_i64]) (fun x hx => eqIntS_ev x (by have := mem_size el_IntS hx; unfold el_IntSS at hs; omega))
theorem el_cv_IntSS (l : List (List Int)) : el_IntSS (cv_IntSS l) ≤ sz_IntSS l := by
  exact Nat.le_refl _
def sz_World (x : L_World) : Nat := sz_IntSS x.f1
def cv_World (x : L_World) : I_World := ⟨x.f0, cv_IntSS x.f1⟩
theorem szWorld_ev (x : L_World) (hw : Wf_L_World x) (left : Int) (h0 : 0 ≤ left) (h1 : left ≤ 1048576) : Ev (fun k => laws_szWorld.f k (x.f0) (x.f1) left) (szr (sz_World x) left) := by
  unfold laws_szWorld.f
  rw [show sz_World x = sz_IntSS x.f1 + (0) from by simp only [sz_World]; omega]
  refine sz_then h1 (szIntSS_ev _ hw.2 _ h0 h1) fun q0 r0 s0 => ?_
  exact sz_end r0
theorem toWorld_ev (x : L_World) (hs : sz_World x ≤ 1048576) : Ev (fun k => laws_toWorld.f k (x.f0) (x.f1)) ((cv_World x).f0, (cv_World x).f1) := by
  simp only [sz_World] at hs
  unfold laws_toWorld.f
  refine Ev.bind (toIntSS_ev _ (by omega)) ?_
  exact Ev.some
def el_World (x : I_World) : Nat := el_IntSS x.f1
theorem eqWorld_ev (x : I_World) (hs : el_World x ≤ maxLen) : Ev (fun k => laws_eqWorld.f k (x.f0) (x.f1) (x.f0) (x.f1)) true := by
  simp only [el_World] at hs
  unfold laws_eqWorld.f
  refine Ev.ite_pos rfl ?_
  refine Ev.bind (eqIntSS_ev _ (by omega)) (Ev.ite_pos rfl ?_)
  exact Ev.some
theorem el_cv_World (x : L_World) : el_World (cv_World x) ≤ sz_World x := by
  have e0 := el_cv_IntSS x.f1
  simp only [el_World, cv_World, sz_World]
  omega
end Go.Proofs.Ytcboagkbcoihjaa.Pure
