/- The program's SystemSolve and the reference's are equal at all lists and numbers, and the list stays as it was. No conditions. -/
import Derived.Test.YteioeojpomahgaaPx20
import Derived.Test.YteioeojpomahgaaSpecSys2
import Derived.Test.YteioeojpomahgaaEvMore
import Derived.Test.YteioeojpomahgaaSliceTo
import Derived.Test.YteioeojpomahgaaSliceEq
set_option linter.unusedVariables false
set_option linter.unusedSimpArgs false
namespace Go.Proofs.Yteioeojpomahgaa.Pure
open Go.RowKit Go.Proofs.Yteioeojpomahgaa.P Go.Proofs.Yteioeojpomahgaa.Nine Go.Proofs.YteioeojpomahgaaW.PrintWords Go.Proofs.YteioeojpomahgaaW.PrintLast

theorem FnExactSystemSolve : laws_FnExactSystemSolve.Pure := by
  intro l c e _ _ _ _ _
  apply Ev.rounds
  unfold laws_FnExactSystemSolve.f
  by_cases hz : (l.length : Int) > 1048576
  · exact Ev.pos hz (Ev.now _)
  · have hT := to_ev (l := l) (by omega)
    obtain ⟨r, hs, hi, _⟩ := solve_both (l := l) (by omega) c e
    refine Ev.neg hz (Ev.bind hT (Ev.bind hs (Ev.bind hT (Ev.bind hi (Ev.pos rfl ?_)))))
    refine Ev.step (fun k => laws_FnExactSystemSolve.j0.eq_2 ..) (Ev.neg (by cases r.2 <;> decide) ?_)
    exact Ev.bind hT (Ev.bind (eq_ev (by omega)) (Ev.pos rfl (Ev.now _)))

end Go.Proofs.Yteioeojpomahgaa.Pure
