/- What the harness of the laws comes to: sizes, copies, comparisons, for the mirrored types. -/
import Derived.Test.YtlgoindmpejgcaaXQueueTakex
import Derived.Test.YtlgoindmpejgcaaXPure
namespace Go.Proofs.Ytlgoindmpejgcaa.Pure
open Go.RowKit Go.Proofs.Ytlgoindmpejgcaa.XQueueTake Go.Proofs.Ytlgoindmpejgcaa.XPure Go.Proofs.YtlgoindmpejgcaaW.PrintWords Go.Proofs.YtlgoindmpejgcaaW.PrintLast
set_option linter.unusedVariables false
set_option linter.unusedSimpArgs false
def sz_Job (x : L_Job) : Nat := 0
def cv_Job (x : L_Job) : I_Job := ⟨x.f0, x.f1⟩
theorem toJob_ev (x : L_Job) : Ev (fun _ => laws_toJob.f (x.f0) (x.f1)) ((cv_Job x).f0, (cv_Job x).f1) := by
  unfold laws_toJob.f
  exact Ev.some
def el_Job (x : I_Job) : Nat := 0
theorem eqJob_ev (x : I_Job) : Ev (fun _ => laws_eqJob.f (x.f0) (x.f1) (x.f0) (x.f1)) true := by
  unfold laws_eqJob.f
  refine Ev.ite_pos rfl ?_
  refine Ev.ite_pos rfl ?_
  exact Ev.some
theorem el_cv_Job (x : L_Job) : el_Job (cv_Job x) ≤ sz_Job x := by
  simp only [el_Job, cv_Job, sz_Job]
  omega
def sz_JobS (l : List L_Job) : Nat := l.length + (l.map sz_Job).sum
def cv_JobS (l : List L_Job) : List I_Job := l.map cv_Job
theorem szJobS_ev (l : List L_Job) (hw : l.length ≤ maxLen ∧ ∀ y ∈ l, Wf_L_Job y) (left : Int) (h0 : 0 ≤ left) (h1 : left ≤ 1048576) : Ev (fun _ => laws_szJobS.f l left) (szr (sz_JobS l) left) := by
  unfold laws_szJobS.f
  have e : sz_JobS l = l.length + 0 := by unfold sz_JobS; rw [sum_zero l sz_Job (fun _ => rfl)]
  rw [e]
  exact sz_len hw.1 h0 h1
theorem mem_sz_JobS {l : List L_Job} {y : L_Job} (h : y ∈ l) : sz_Job y + 1 ≤ sz_JobS l := by
  exact mem_size sz_Job h
theorem toJobS_ev (l : List L_Job) (hs : sz_JobS l ≤ 1048576) : Ev (fun k => laws_toJobS.f k l) (cv_JobS l) := by
  have hl : l.length ≤ 1048576 := by unfold sz_JobS at hs; omega
  have hm : maxLen = 9223372036854775807 := rfl
  unfold laws_toJobS.f
  refine Ev.val (to_list (B := 17592186044416) l zL_Job zI_Job (by omega) (fun k acc i => laws_toJobS.l0 k l acc i) (fun _ x => laws_toJob.f (x.f0) (x.f1)) (fun t => (⟨t.1, t.2⟩ : I_Job)) (fun k acc i => by simp only [laws_toJobS.l0, rd_L_Job]) (fun x => ((cv_Job x).f0, (cv_Job x).f1)) (fun x _ => toJob_ev x) (by omega)) ?_
  unfold cv_JobS
  apply List.map_congr_left
  intro x _
  generalize cv_Job x = y
  obtain ⟨_, _⟩ := y
  rfl
def el_JobS (l : List I_Job) : Nat := l.length + (l.map el_Job).sum
theorem eqJobS_ev (l : List I_Job) (hs : el_JobS l ≤ maxLen) : Ev (fun k => laws_eqJobS.f k l l) true := by
  have hl : l.length ≤ maxLen := by unfold el_JobS at hs; omega
  unfold laws_eqJobS.f
  exact eq_list l zI_Job hl (fun k i => laws_eqJobS.l0 k l l i) (fun _ x => laws_eqJob.f (x.f0) (x.f1) (x.f0) (x.f1)) (fun k i => by simp only [laws_eqJobS.l0, rd_I_Job]) (fun x _ => eqJob_ev x)
theorem el_cv_JobS (l : List L_Job) : el_JobS (cv_JobS l) ≤ sz_JobS l := by
  exact el_map cv_Job el_Job sz_Job el_cv_Job l
end Go.Proofs.Ytlgoindmpejgcaa.Pure
