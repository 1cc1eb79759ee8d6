/- The program's PlaneMeet and the reference's are equal at all lists and numbers, and the list stays as it was. No conditions. -/
import Derived.Test.YtpfennpbemeikaaPx20
import Derived.Test.YtpfennpbemeikaaPlanePts
import Derived.Test.YtpfennpbemeikaaSliceTo
import Derived.Test.YtpfennpbemeikaaSliceEq
set_option linter.unusedVariables false
set_option linter.unusedSimpArgs false
namespace Go.Proofs.Ytpfennpbemeikaa.Pure
open Go.RowKit Go.Proofs.Ytpfennpbemeikaa.P Go.Proofs.Ytpfennpbemeikaa.Nine Go.Proofs.YtpfennpbemeikaaW.PrintWords Go.Proofs.YtpfennpbemeikaaW.PrintLast

theorem FnExactPlaneMeet : laws_FnExactPlaneMeet.Pure := by
  intro l p q _ _ _ _ _
  apply Ev.rounds
  unfold laws_FnExactPlaneMeet.f
  by_cases hz : (l.length : Int) > 1048576
  · exact Ev.pos hz (Ev.now _)
  · have hT := to_ev (l := l) (by omega)
    obtain ⟨r, hs, hi, _⟩ := meet_both (l := l) (by omega) p q
    refine Ev.neg hz (Ev.bind hT (Ev.bind hs (Ev.bind hT (Ev.bind hi (Ev.pos rfl ?_)))))
    refine Ev.step (fun k => laws_FnExactPlaneMeet.j0.eq_2 ..) (Ev.neg (by cases r.2 <;> decide) ?_)
    exact Ev.bind hT (Ev.bind (eq_ev (by omega)) (Ev.pos rfl (Ev.now _)))

end Go.Proofs.Ytpfennpbemeikaa.Pure
