/- The program's QueueOk returns what the reference's returns, for all arguments. -/
import Derived.Test.YtlgoindmpejgcaaXQueueOkh
namespace Go.Proofs.Ytlgoindmpejgcaa.Pure
open Go.RowKit Go.Proofs.Ytlgoindmpejgcaa.XQueueOk Go.Proofs.Ytlgoindmpejgcaa.XPure Go.Proofs.YtlgoindmpejgcaaW.PrintWords Go.Proofs.YtlgoindmpejgcaaW.PrintLast Go.Proofs.YtlgoindmpejgcaaW.PrintMore
set_option linter.unusedVariables false
set_option linter.unusedSimpArgs false
def before (x y : I_Job) : Bool := if x.f0 < y.f0 then true else if x.f0 = y.f0 then decide (x.f1 < y.f1) else false
theorem specBefore_ev (x y : I_Job) : spec_JobBefore.f x.f0 x.f1 y.f0 y.f1 = some (before x y) := by
  unfold spec_JobBefore.f before
  split
  · rfl
  · split <;> rfl
theorem implBefore_ev (x y : I_Job) : impl_JobBefore.f x.f0 x.f1 y.f0 y.f1 = some (before x y) := by
  unfold impl_JobBefore.f before
  split
  · rfl
  · split <;> rfl
theorem elJobS_len {l : List I_Job} (h : el_JobS l ≤ maxLen) : l.length ≤ maxLen := by unfold el_JobS at h; omega
def par (n : Nat) : Nat := (n - 1) / 2
theorem wrap_par {n : Nat} (h1 : 1 ≤ n) (h : n ≤ maxLen) : wrap64 (Int.tdiv (wrap64 ((n : Int) - 1)) 2) = ((par n : Nat) : Int) := by
  have hm : maxLen = 9223372036854775807 := rfl
  have e : (n : Int) - 1 = ((n - 1 : Nat) : Int) := by omega
  rw [e, wrap_id (x := ((n - 1 : Nat) : Int)) (by omega) (by omega)]
  have e2 : Int.tdiv ((n - 1 : Nat) : Int) 2 = (((n - 1) / 2 : Nat) : Int) := rfl
  rw [e2, wrap_id (by omega) (by omega)]
  rfl
def qok (l : List I_Job) : Nat → Nat → Bool
  | 0, _ => decide ((l.length : Int) ≤ 60)
  | d + 1, n => if before (rd_I_Job l (n : Int)) (rd_I_Job l ((par n : Nat) : Int)) = true then false else qok l d (n + 1)
theorem specQueueOk_l (l : List I_Job) (hl : l.length ≤ maxLen) : ∀ d n : Nat, 1 ≤ n → l.length - n = d → Ev (fun k => spec_QueueOk.l0 k l (n : Int)) (qok l d n) := by
  intro d
  induction d with
  | zero =>
    intro n h1 hn
    exact Ev.step (fun k => by simp only [spec_QueueOk.l0]; rfl) (Ev.ite_neg (by omega) Ev.some)
  | succ d ih =>
    intro n h1 hn
    refine Ev.step (fun k => by simp only [spec_QueueOk.l0]; rfl) (Ev.ite_pos (by omega) (Ev.ite_pos (by omega) ?_))
    rw [wrap_par h1 (by omega), wrap_nat (by omega)]
    have hp : par n < n := by unfold par; omega
    refine Ev.ite_pos (by omega) (Ev.ite_pos (by omega) (Ev.bind (Ev.cst (specBefore_ev _ _)) ?_))
    rw [qok]
    by_cases h : before (rd_I_Job l (n : Int)) (rd_I_Job l ((par n : Nat) : Int)) = true
    · rw [if_pos h]; exact Ev.ite_pos h Ev.some
    · rw [if_neg h]; exact Ev.ite_neg h (ih _ (by omega) (by omega))
theorem implQueueOk_l (l : List I_Job) (hl : l.length ≤ maxLen) : ∀ d n : Nat, 1 ≤ n → l.length - n = d → Ev (fun k => impl_QueueOk.l0 k l (n : Int)) (qok l d n) := by
  intro d
  induction d with
  | zero =>
    intro n h1 hn
    exact Ev.step (fun k => by simp only [impl_QueueOk.l0]; rfl) (Ev.ite_neg (by omega) Ev.some)
  | succ d ih =>
    intro n h1 hn
    refine Ev.step (fun k => by simp only [impl_QueueOk.l0]; rfl) (Ev.ite_pos (by omega) (Ev.ite_pos (by omega) ?_))
    rw [wrap_par h1 (by omega), wrap_nat (by omega)]
    have hp : par n < n := by unfold par; omega
    refine Ev.ite_pos (by omega) (Ev.ite_pos (by omega) (Ev.bind (Ev.cst (implBefore_ev _ _)) ?_))
    rw [qok]
    by_cases h : before (rd_I_Job l (n : Int)) (rd_I_Job l ((par n : Nat) : Int)) = true
    · rw [if_pos h]; exact Ev.ite_pos h Ev.some
    · rw [if_neg h]; exact Ev.ite_neg h (ih _ (by omega) (by omega))
theorem specQueueOk_ev (l : List I_Job) (hl : l.length ≤ maxLen) : Ev (fun k => spec_QueueOk.f k l) (qok l (l.length - 1) 1) := by
  unfold spec_QueueOk.f
  exact specQueueOk_l l hl (l.length - 1) 1 (by omega) rfl
theorem implQueueOk_ev (l : List I_Job) (hl : l.length ≤ maxLen) : Ev (fun k => impl_QueueOk.f k l) (qok l (l.length - 1) 1) := by
  unfold impl_QueueOk.f
  exact implQueueOk_l l hl (l.length - 1) 1 (by omega) rfl
theorem FnExactQueueOk : laws_FnExactQueueOk.Pure := by
  intro l hl
  refine Ev.rounds (g := fun k => laws_FnExactQueueOk.f k l) ?_
  unfold laws_FnExactQueueOk.f
  have hm : maxLen = 9223372036854775807 := rfl
  refine law_sz (by omega) (by omega) (szJobS_ev l hl 1048576 (by omega) (by omega)) fun q1 a1 b1 S1 => ?_
  have E1 : el_JobS (cv_JobS l) ≤ maxLen := by have := el_cv_JobS l; omega
  refine Ev.nxt ?_
  simp only [laws_FnExactQueueOk.j0]
  refine Ev.bind (toJobS_ev l S1) ?_
  refine Ev.bind (specQueueOk_ev _ (elJobS_len E1)) ?_
  refine Ev.bind (toJobS_ev l S1) ?_
  refine Ev.bind (implQueueOk_ev _ (elJobS_len E1)) ?_
  refine Ev.ite_neg (by simp) ?_
  refine Ev.nxt ?_
  simp only [laws_FnExactQueueOk.j1]
  refine Ev.bind (toJobS_ev l S1) ?_
  refine Ev.bind (eqJobS_ev (cv_JobS l) E1) (Ev.ite_pos rfl ?_)
  exact Ev.some
end Go.Proofs.Ytlgoindmpejgcaa.Pure
