/- The program's SystemSwaps and the reference's are equal at all lists, and the list stays as it was. No conditions. -/
import Derived.Test.YteioeojpomahgaaPx21
import Derived.Test.YteioeojpomahgaaSpecSys2
import Derived.Test.YteioeojpomahgaaEvMore
import Derived.Test.YteioeojpomahgaaSliceTo
import Derived.Test.YteioeojpomahgaaSliceEq
set_option linter.unusedVariables false
set_option linter.unusedSimpArgs false
namespace Go.Proofs.Yteioeojpomahgaa.Pure
open Go.RowKit Go.Proofs.Yteioeojpomahgaa.P Go.Proofs.Yteioeojpomahgaa.Nine Go.Proofs.YteioeojpomahgaaW.PrintWords Go.Proofs.YteioeojpomahgaaW.PrintLast

theorem FnExactSystemSwaps : laws_FnExactSystemSwaps.Pure := by
  intro l _ _ _
  apply Ev.rounds
  unfold laws_FnExactSystemSwaps.f
  by_cases hz : (l.length : Int) > 1048576
  · exact Ev.pos hz (Ev.now _)
  · have hT := to_ev (l := l) (by omega)
    refine Ev.neg hz (Ev.bind hT (Ev.bind (swp_ev (by omega)) (Ev.bind hT ?_)))
    unfold impl_SystemSwaps.f
    refine Ev.some' (Ev.neg (by cases (sysI l && all3 (swpI l)) <;> decide) (Ev.bind hT (Ev.bind (eq_ev (by omega)) (Ev.pos rfl (Ev.now _)))))

end Go.Proofs.Yteioeojpomahgaa.Pure
