/- The program's Widest returns what the reference's returns, for all arguments. -/
import Derived.Test.YtlgoindmpejgcaaXWidesth
namespace Go.Proofs.Ytlgoindmpejgcaa.Pure
open Go.RowKit Go.Proofs.Ytlgoindmpejgcaa.XWidest Go.Proofs.Ytlgoindmpejgcaa.XPure Go.Proofs.YtlgoindmpejgcaaW.PrintWords Go.Proofs.YtlgoindmpejgcaaW.PrintLast Go.Proofs.YtlgoindmpejgcaaW.PrintMore
set_option linter.unusedVariables false
set_option linter.unusedSimpArgs false
def widest (l : List I_Clause) : Int := l.foldl (fun n x => mx n (x.f0.length : Int)) 0
theorem specWidest_ev (l : List I_Clause) (hl : l.length ≤ maxLen) : Ev (fun k => spec_Widest.f k l) (widest l) := by
  unfold spec_Widest.f
  exact fold_index l zI_Clause hl (fun k s i => spec_Widest.l0 k l s i) (fun _ x s => spec_l1Max.f s (x.f0.length : Int)) (fun _ s => some s)
    (fun k s i => by simp only [spec_Widest.l0, rd_I_Clause]) (fun n x => mx n (x.f0.length : Int)) (fun _ => True)
    (fun x _ s _ => ⟨Ev.cst (by unfold spec_l1Max.f mx; split <;> split <;> first | rfl | (congr 1; omega)), trivial⟩) 0 trivial _ (fun _ => Ev.some)
theorem implWidest_ev (l : List I_Clause) (hl : l.length ≤ maxLen) : Ev (fun k => impl_Widest.f k l) (widest l) := by
  unfold impl_Widest.f
  exact fold_range l zI_Clause hl (fun k s i => impl_Widest.l0 k s l (l.length : Int) i) (fun _ x s => some (mx s (x.f0.length : Int))) (fun _ s => some s)
    (fun k s i => by simp only [impl_Widest.l0, rd_I_Clause, Option.bind_some]) (fun n x => mx n (x.f0.length : Int)) (fun _ => True)
    (fun x _ s _ => ⟨Ev.some, trivial⟩) 0 trivial _ (fun _ => Ev.some)
theorem elClauseS_len {l : List I_Clause} (h : el_ClauseS l ≤ maxLen) : l.length ≤ maxLen := by unfold el_ClauseS at h; omega
theorem FnExactWidest : laws_FnExactWidest.Pure := by
  intro l hl
  refine Ev.rounds (g := fun k => laws_FnExactWidest.f k l) ?_
  unfold laws_FnExactWidest.f
  have hm : maxLen = 9223372036854775807 := rfl
  refine law_sz (by omega) (by omega) (szClauseS_ev l hl 1048576 (by omega) (by omega)) fun q1 a1 b1 S1 => ?_
  have E1 : el_ClauseS (cv_ClauseS l) ≤ maxLen := by have := el_cv_ClauseS l; omega
  refine Ev.nxt ?_
  simp only [laws_FnExactWidest.j0]
  refine Ev.bind (toClauseS_ev l S1) ?_
  refine Ev.bind (specWidest_ev _ (elClauseS_len E1)) ?_
  refine Ev.bind (toClauseS_ev l S1) ?_
  refine Ev.bind (implWidest_ev _ (elClauseS_len E1)) ?_
  refine Ev.ite_pos rfl ?_
  refine Ev.nxt ?_
  simp only [laws_FnExactWidest.j1]
  refine Ev.bind (toClauseS_ev l S1) ?_
  refine Ev.bind (eqClauseS_ev (cv_ClauseS l) E1) (Ev.ite_pos rfl ?_)
  exact Ev.some
end Go.Proofs.Ytlgoindmpejgcaa.Pure
