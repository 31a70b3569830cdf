/- What the harness of the laws comes to: sizes, copies, comparisons, for the mirrored types. -/
import Derived.Test.YtlgoindmpejgcaaXWorldOfx
import Derived.Test.YtlgoindmpejgcaaVWorldOf
namespace Go.Proofs.Ytlgoindmpejgcaa.Pure
open Go.RowKit Go.Proofs.Ytlgoindmpejgcaa.XWorldOf Go.Proofs.Ytlgoindmpejgcaa.XPure Go.Proofs.YtlgoindmpejgcaaW.PrintWords Go.Proofs.YtlgoindmpejgcaaW.PrintLast
set_option linter.unusedVariables false
set_option linter.unusedSimpArgs false
def sz_IntS (l : List Int) : Nat := l.length + (l.map (fun _ => 0)).sum
theorem szIntS_ev (l : List Int) (hw : l.length ≤ maxLen ∧ ∀ y ∈ l, (fun a => (Lit.int .i64 a).wf = true) y) (left : Int) (h0 : 0 ≤ left) (h1 : left ≤ 1048576) : Ev (fun _ => laws_szIntS.f l left) (szr (sz_IntS l) left) := by
  unfold laws_szIntS.f
  have e : sz_IntS l = l.length + 0 := by unfold sz_IntS; rw [sum_zero l (fun _ => 0) (fun _ => rfl)]
  rw [e]
  exact sz_len hw.1 h0 h1
theorem toIntS_ev (l : List Int) (hs : sz_IntS l ≤ 1048576) : Ev (fun k => laws_toIntS.f k l) l := by
  have hl : l.length ≤ 1048576 := by unfold sz_IntS at hs; omega
  have hm : maxLen = 9223372036854775807 := rfl
  unfold laws_toIntS.f
  exact to_ints (B := 35184372088832) l (by omega) (fun k acc i => laws_toIntS.l0 k l acc i) (fun k acc i => by simp only [laws_toIntS.l0, rd]) (by omega)
def el_IntS (l : List Int) : Nat := l.length + (l.map (fun _ => 0)).sum
theorem eqIntS_ev (l : List Int) (hs : el_IntS l ≤ maxLen) : Ev (fun k => laws_eqIntS.f k l l) true := by
  have hl : l.length ≤ maxLen := by unfold el_IntS at hs; omega
  unfold laws_eqIntS.f
  exact eq_ints l hl (fun k i => laws_eqIntS.l0 k l l i) (fun k i => by simp only [laws_eqIntS.l0, rd])
theorem el_cv_IntS (l : List Int) : el_IntS (id l) ≤ sz_IntS l := by
  exact Nat.le_refl _
def sz_IntSS (l : List (List Int)) : Nat := l.length + (l.map sz_IntS).sum
def cv_IntSS (l : List (List Int)) : List (List Int) := l
theorem szIntSS_ev (l : List (List Int)) (hw : l.length ≤ maxLen ∧ ∀ y ∈ l, (fun a => a.length ≤ maxLen ∧ ∀ y ∈ a, (fun a => (Lit.int .i64 a).wf = true) y) y) (left : Int) (h0 : 0 ≤ left) (h1 : left ≤ 1048576) : Ev (fun k => laws_szIntSS.f k l left) (szr (sz_IntSS l) left) := by
  unfold laws_szIntSS.f
  refine sz_list l hw.1 sz_IntS (fun k q => laws_szIntSS.l0 k l q 0) left h0 h1 fun q q0 q1 => ?_
  exact sz_loop l [] hw.1 (fun k q i => laws_szIntSS.l0 k l q i) (fun _ x q => laws_szIntS.f x q) (fun k q i => by simp only [laws_szIntSS.l0, rd_Ls_i64]) sz_IntS (fun x hx q r0 r1 => szIntS_ev x (hw.2 x hx) q r0 r1) l.length 0 q (by omega) q0 q1
theorem mem_sz_IntSS {l : List (List Int)} {y : (List Int)} (h : y ∈ l) : sz_IntS y + 1 ≤ sz_IntSS l := by
  exact mem_size sz_IntS h
theorem toIntSS_ev (l : List (List Int)) (hs : sz_IntSS l ≤ 1048576) : Ev (fun k => laws_toIntSS.f k l) (cv_IntSS l) := by
  have hl : l.length ≤ 1048576 := by unfold sz_IntSS at hs; omega
  have hm : maxLen = 9223372036854775807 := rfl
  unfold laws_toIntSS.f
  refine Ev.val (to_list (B := 11728124029610) l [] [] (by omega) (fun k acc i => laws_toIntSS.l0 k l acc i) (fun k x => laws_toIntS.f k x) (fun t => t) (fun k acc i => by simp only [laws_toIntSS.l0, rd_Ls_i64]) (fun x => x) (fun x hx => toIntS_ev x (by have := mem_sz_IntSS hx; omega)) (by omega)) ?_
  unfold cv_IntSS
  simp
def el_IntSS (l : List (List Int)) : Nat := l.length + (l.map el_IntS).sum
theorem eqIntSS_ev (l : List (List Int)) (hs : el_IntSS l ≤ maxLen) : Ev (fun k => laws_eqIntSS.f k l l) true := by
  have hl : l.length ≤ maxLen := by unfold el_IntSS at hs; omega
  unfold laws_eqIntSS.f
  exact eq_list l [] hl (fun k i => laws_eqIntSS.l0 k l l i) (fun k x => laws_eqIntS.f k x x) (fun k i => by simp only [laws_eqIntSS.l0, rd_Ls_i64]) (fun x hx => eqIntS_ev x (by have := mem_size el_IntS hx; unfold el_IntSS at hs; omega))
theorem el_cv_IntSS (l : List (List Int)) : el_IntSS (cv_IntSS l) ≤ sz_IntSS l := by
  exact Nat.le_refl _
def sz_Model (x : L_Model) : Nat := sz_IntSS x.f0
def cv_Model (x : L_Model) : I_Model := ⟨cv_IntSS x.f0⟩
theorem szModel_ev (x : L_Model) (hw : Wf_L_Model x) (left : Int) (h0 : 0 ≤ left) (h1 : left ≤ 1048576) : Ev (fun k => laws_szModel.f k (x.f0) left) (szr (sz_Model x) left) := by
  unfold laws_szModel.f
  rw [show sz_Model x = sz_IntSS x.f0 + (0) from by simp only [sz_Model]; omega]
  refine sz_then h1 (szIntSS_ev _ hw _ h0 h1) fun q0 r0 s0 => ?_
  exact sz_end r0
theorem toModel_ev (x : L_Model) (hs : sz_Model x ≤ 1048576) : Ev (fun k => laws_toModel.f k (x.f0)) ((cv_Model x).f0) := by
  simp only [sz_Model] at hs
  unfold laws_toModel.f
  refine Ev.bind (toIntSS_ev _ (by omega)) ?_
  exact Ev.some
def el_Model (x : I_Model) : Nat := el_IntSS x.f0
theorem eqModel_ev (x : I_Model) (hs : el_Model x ≤ maxLen) : Ev (fun k => laws_eqModel.f k (x.f0) (x.f0)) true := by
  simp only [el_Model] at hs
  unfold laws_eqModel.f
  refine Ev.bind (eqIntSS_ev _ (by omega)) (Ev.ite_pos rfl ?_)
  exact Ev.some
theorem el_cv_Model (x : L_Model) : el_Model (cv_Model x) ≤ sz_Model x := by
  have e0 := el_cv_IntSS x.f0
  simp only [el_Model, cv_Model, sz_Model]
  omega
end Go.Proofs.Ytlgoindmpejgcaa.Pure
