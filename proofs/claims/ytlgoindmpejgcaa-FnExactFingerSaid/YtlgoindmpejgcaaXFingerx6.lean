-- printed by a program of this session (xprint, turned from the kit's print) for this claim
import Derived.Test.YtlgoindmpejgcaaXFingerx0
import Derived.Test.YtlgoindmpejgcaaXFingerx5
namespace Go.Proofs.Ytlgoindmpejgcaa.XFinger
open Go.RowKit Go.Proofs.Ytlgoindmpejgcaa.XOpens Go.Proofs.YtlgoindmpejgcaaW.PrintWords Go.Proofs.YtlgoindmpejgcaaW.PrintLast Go.Proofs.YtlgoindmpejgcaaW.PrintMore
attribute [local go_sem] max2_int min2_int max_two min_two max_three min_three max_four min_four   -- for this text's walks alone
set_option linter.unusedVariables false
set_option linter.unusedSimpArgs false

open Go.Proofs.Ytlgoindmpejgcaa.XOpens in
def Wf_L_Sym (x : L_Sym) : Prop := x.f0.size ≤ maxLen ∧ (Lit.int .i64 x.f1).wf = true ∧ True

open Go.Proofs.Ytlgoindmpejgcaa.XOpens in
theorem opens_L_Sym {H : Type} {enc : TypeId × Value → H} {w : World} (n : Nat) : Opens enc Try.prog w 115 k115 Wf_L_Sym n := by
  induction n using Nat.strongRecOn with
  | _ n ih =>
  intro cs x h
  obtain ⟨xs, m, rfl, _, hl, hxl, hf⟩ := DataW.trod_struct Try.underlying115 h
  rw [show Try.prog.cellsOf 115 = 3 from by kernel_rfl] at hl
  have g0 : DataW.trod enc Try.prog w 0 (fun _ => true) true m 9 (List.take (Try.prog.cellsOf 9) (List.drop 0 cs)) = xs[0]? := hf 0 _ rfl
  rw [List.getElem?_eq_getElem (show 0 < xs.length by rw [hxl]; simp)] at g0
  rw [show Try.prog.cellsOf 9 = 1 from by kernel_rfl] at g0
  obtain ⟨a0, k0_, w0⟩ := ((opens_string Try.underlying9) : Opens enc Try.prog w 9 Kd.string (fun a => a.size ≤ maxLen) m) _ _ g0
  have e0 : (cs.drop 0).take 1 = [.string a0] := k0_
  have g1 : DataW.trod enc Try.prog w 0 (fun _ => true) true m 3 (List.take (Try.prog.cellsOf 3) (List.drop 1 cs)) = xs[1]? := hf 1 _ rfl
  rw [List.getElem?_eq_getElem (show 1 < xs.length by rw [hxl]; simp)] at g1
  rw [show Try.prog.cellsOf 3 = 1 from by kernel_rfl] at g1
  obtain ⟨a1, k1_, w1⟩ := ((opens_int Try.underlying3) : Opens enc Try.prog w 3 (Kd.int .i64) (fun a => (Lit.int .i64 a).wf = true) m) _ _ g1
  have e1 : (cs.drop 1).take 1 = [.int .i64 a1] := k1_
  have g2 : DataW.trod enc Try.prog w 0 (fun _ => true) true m 4 (List.take (Try.prog.cellsOf 4) (List.drop 2 cs)) = xs[2]? := hf 2 _ rfl
  rw [List.getElem?_eq_getElem (show 2 < xs.length by rw [hxl]; simp)] at g2
  rw [show Try.prog.cellsOf 4 = 1 from by kernel_rfl] at g2
  obtain ⟨a2, k2_, w2⟩ := ((opens_bool Try.underlying4) : Opens enc Try.prog w 4 Kd.bool (fun a => True) m) _ _ g2
  have e2 : (cs.drop 2).take 1 = [.bool a2] := k2_
  have hc := (List.drop_zero (l := cs)).symm.trans ((show cs.drop 0 = (cs.drop 0).take 1 ++ cs.drop 1 from seg_split cs 0 1).trans (congrArg ((cs.drop 0).take 1 ++ ·) ((show cs.drop 1 = (cs.drop 1).take 1 ++ cs.drop 2 from seg_split cs 1 1).trans (congrArg ((cs.drop 1).take 1 ++ ·) ((show cs.drop 2 = (cs.drop 2).take 1 ++ cs.drop 3 from seg_split cs 2 1).trans (congrArg ((cs.drop 2).take 1 ++ ·) (seg_end cs 3 hl)))))))
  rw [e0, e1, e2] at hc
  simp only [List.cons_append, List.nil_append, List.append_nil] at hc
  exact ⟨⟨a0, a1, a2⟩, by rw [hc]; exact k115_mk w ⟨a0, a1, a2⟩ , ⟨w0, w1, w2⟩⟩

open Go.Proofs.Ytlgoindmpejgcaa.XOpens in
inductive Wf_L_Term : L_Term → Prop
  | mk (x : L_Term) (h0 : (Lit.int .i64 x.f0).wf = true) (h1 : (Lit.int .i64 x.f1).wf = true) (h2 : x.f2.length ≤ maxLen) (g2 : ∀ y ∈ x.f2, Wf_L_Term y) : Wf_L_Term x

open Go.Proofs.Ytlgoindmpejgcaa.XOpens in
theorem opens_L_Term {H : Type} {enc : TypeId × Value → H} {w : World} (n : Nat) : Opens enc Try.prog w 81 k81 Wf_L_Term n := by
  induction n using Nat.strongRecOn with
  | _ n ih =>
  intro cs x h
  obtain ⟨xs, m, rfl, _, hl, hxl, hf⟩ := DataW.trod_struct Try.underlying81 h
  rw [show Try.prog.cellsOf 81 = 3 from by kernel_rfl] at hl
  have g0 : DataW.trod enc Try.prog w 0 (fun _ => true) true m 3 (List.take (Try.prog.cellsOf 3) (List.drop 0 cs)) = xs[0]? := hf 0 _ rfl
  rw [List.getElem?_eq_getElem (show 0 < xs.length by rw [hxl]; simp)] at g0
  rw [show Try.prog.cellsOf 3 = 1 from by kernel_rfl] at g0
  obtain ⟨a0, k0_, w0⟩ := ((opens_int Try.underlying3) : Opens enc Try.prog w 3 (Kd.int .i64) (fun a => (Lit.int .i64 a).wf = true) m) _ _ g0
  have e0 : (cs.drop 0).take 1 = [.int .i64 a0] := k0_
  have g1 : DataW.trod enc Try.prog w 0 (fun _ => true) true m 3 (List.take (Try.prog.cellsOf 3) (List.drop 1 cs)) = xs[1]? := hf 1 _ rfl
  rw [List.getElem?_eq_getElem (show 1 < xs.length by rw [hxl]; simp)] at g1
  rw [show Try.prog.cellsOf 3 = 1 from by kernel_rfl] at g1
  obtain ⟨a1, k1_, w1⟩ := ((opens_int Try.underlying3) : Opens enc Try.prog w 3 (Kd.int .i64) (fun a => (Lit.int .i64 a).wf = true) m) _ _ g1
  have e1 : (cs.drop 1).take 1 = [.int .i64 a1] := k1_
  have g2 : DataW.trod enc Try.prog w 0 (fun _ => true) true m 79 (List.take (Try.prog.cellsOf 79) (List.drop 2 cs)) = xs[2]? := hf 2 _ rfl
  rw [List.getElem?_eq_getElem (show 2 < xs.length by rw [hxl]; simp)] at g2
  rw [show Try.prog.cellsOf 79 = 1 from by kernel_rfl] at g2
  obtain ⟨a2, k2_, w2⟩ := ((opens_slice Try.underlying79 (by kernel_rfl) (fun m_ hm_ => (ih m_ (by omega)))) : Opens enc Try.prog w 79 (Kd.slice 81 k81) (fun a => (a.length ≤ maxLen ∧ ∀ y ∈ a, Wf_L_Term y)) m) _ _ g2
  obtain ⟨A2, c2, e2, l2, q2⟩ := k2_
  have hc := (List.drop_zero (l := cs)).symm.trans ((show cs.drop 0 = (cs.drop 0).take 1 ++ cs.drop 1 from seg_split cs 0 1).trans (congrArg ((cs.drop 0).take 1 ++ ·) ((show cs.drop 1 = (cs.drop 1).take 1 ++ cs.drop 2 from seg_split cs 1 1).trans (congrArg ((cs.drop 1).take 1 ++ ·) ((show cs.drop 2 = (cs.drop 2).take 1 ++ cs.drop 3 from seg_split cs 2 1).trans (congrArg ((cs.drop 2).take 1 ++ ·) (seg_end cs 3 hl)))))))
  rw [e0, e1, e2] at hc
  simp only [List.cons_append, List.nil_append, List.append_nil] at hc
  exact ⟨⟨a0, a1, a2⟩, by rw [hc]; exact k81_mk w ⟨a0, a1, a2⟩ l2 q2, Wf_L_Term.mk _ w0 w1 w2.1 w2.2⟩

/-- THE ONE PURE STATEMENT of laws_FnExactFinger. -/
def laws_FnExactFinger.Pure : Prop := ∀ (l0 : List (L_Sym)) (a1_0 : Int) (a1_1 : Int) (l1_2 : List (L_Term)), (l0.length ≤ maxLen ∧ ∀ y ∈ l0, Wf_L_Sym y) → (Lit.int .i64 a1_0).wf = true → (Lit.int .i64 a1_1).wf = true → (l1_2.length ≤ maxLen ∧ ∀ y ∈ l1_2, Wf_L_Term y) → ∃ k, laws_FnExactFinger.f k l0 a1_0 a1_1 l1_2 = some true

end Go.Proofs.Ytlgoindmpejgcaa.XFinger
