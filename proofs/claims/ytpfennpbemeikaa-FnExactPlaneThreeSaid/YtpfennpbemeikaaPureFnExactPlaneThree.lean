/- The program's PlaneThree and the reference's are equal at all lists and numbers, and the list stays as it was. No conditions. -/
import Derived.Test.YtpfennpbemeikaaPx22
import Derived.Test.YtpfennpbemeikaaPlanePts
import Derived.Test.YtpfennpbemeikaaSliceTo
import Derived.Test.YtpfennpbemeikaaSliceEq
set_option linter.unusedVariables false
set_option linter.unusedSimpArgs false
namespace Go.Proofs.Ytpfennpbemeikaa.Pure
open Go.RowKit Go.Proofs.Ytpfennpbemeikaa.P Go.Proofs.Ytpfennpbemeikaa.Nine Go.Proofs.YtpfennpbemeikaaW.PrintWords Go.Proofs.YtpfennpbemeikaaW.PrintLast

theorem FnExactPlaneThree : laws_FnExactPlaneThree.Pure := by
  intro l p q r _ _ _ _ _ _
  apply Ev.rounds
  unfold laws_FnExactPlaneThree.f
  by_cases hz : (l.length : Int) > 1048576
  · exact Ev.pos hz (Ev.now _)
  · have hT := to_ev (l := l) (by omega)
    obtain ⟨b, hs, hi, _⟩ := three_both (l := l) (by omega) p q r
    have hb : ¬ (b != b) = true := by cases b <;> decide
    refine Ev.neg hz (Ev.bind hT (Ev.bind hs (Ev.bind hT ?_)))
    refine Ev.bind hi (Ev.neg hb (Ev.bind hT (Ev.bind (eq_ev (by omega)) (Ev.pos rfl (Ev.now _)))))

end Go.Proofs.Ytpfennpbemeikaa.Pure
