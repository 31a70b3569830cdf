/- The program's Widest returns what the reference's returns, for all arguments. -/
import Derived.Test.YtlgoindmpejgcaaXWidesth
namespace Go.Proofs.Ytlgoindmpejgcaa.Pure
open Go.RowKit Go.Proofs.Ytlgoindmpejgcaa.XWidest Go.Proofs.Ytlgoindmpejgcaa.XPure Go.Proofs.YtlgoindmpejgcaaW.PrintWords Go.Proofs.YtlgoindmpejgcaaW.PrintLast Go.Proofs.YtlgoindmpejgcaaW.PrintMore
set_option linter.unusedVariables false
set_option linter.unusedSimpArgs false
def widest (l : List I_Clause) : Int := l.foldl (fun n x => mx n (x.f0.length : Int)) 0
theorem specWidest_ev (l : List I_Clause) (hl : l.length ≤ maxLen) : Ev (fun k => spec_Widest.f k l) (widest l) := by
  unfold spec_Widest.f
  exact fold_index l zI_Clause hl (fun k s i => spec_Widest.l0 k l s i) (fun _ x s => spec_l1Max.f s (x.f0.length : Int)) (fun _ s => some s)
    (fun k s i => by simp only [spec_Widest.l0, rd_I_Clause]) (fun n x => mx n (x.f0.length : Int)) (fun _ => True)
    (fun x _ s _ => ⟨Ev.cst (by unfold spec_l1Max.f mx; split <;> split <;> first | rfl | (congr 1; omega)), trivial⟩) 0 trivial _ (fun _ => Ev.some)
theorem implWidest_ev (l : List I_Clause) (hl : l.length ≤ maxLen) : Ev (fun k => impl_Widest.f k l) (widest l) := by
  unfold impl_Widest.f
  exact fold_range l zI_Clause hl (fun k s i => impl_Widest.l0 k s l (l.length : Int) i) (fun _ x s => some (mx s (x.f0.length : Int))) (fun _ s => some s)
    (fun k s i => by simp only [impl_Widest.l0, rd_I_Clause, Option.bind_some]) (fun n x => mx n (x.f0.length : Int)) (fun _ => True)
    (fun x _ s _ => ⟨Ev.some, trivial⟩) 0 trivial _ (fun _ => Ev.some)
theorem FnExactWidest : laws_FnExactWidest.Pure := by
  intro l hw
  refine Ev.rounds (g := fun k => laws_FnExactWidest.f k l) ?_
  unfold laws_FnExactWidest.f
  refine law_sz (by omega) (by omega) (szClauseS_ev l hw 1048576 (by omega) (by omega)) fun q q0 q1 hs => ?_
  have hm : maxLen = 9223372036854775807 := rfl
  have he := el_cv_ClauseS l
  have hl : (cv_ClauseS l).length ≤ maxLen := by unfold el_ClauseS at he; omega
  refine Ev.bind (toClauseS_ev l hs) (Ev.bind (specWidest_ev _ hl) (Ev.bind (toClauseS_ev l hs) (Ev.bind (implWidest_ev _ hl) (Ev.ite_pos rfl ?_))))
  exact Ev.bind (toClauseS_ev l hs) (Ev.bind (eqClauseS_ev _ (by omega)) (Ev.ite_pos rfl Ev.some))
end Go.Proofs.Ytlgoindmpejgcaa.Pure
