/- The program's TwinCloses and the reference's are equal at all lists, and the lists stay as they were. No conditions. -/
import Derived.Test.YtiobhhcbdcbajaaPx39
import Derived.Test.YtiobhhcbdcbajaaTwinPts
import Derived.Test.YtiobhhcbdcbajaaSliceTo
import Derived.Test.YtiobhhcbdcbajaaSliceEq
set_option linter.unusedVariables false
set_option linter.unusedSimpArgs false
namespace Go.Proofs.Ytiobhhcbdcbajaa.Pure
open Go.RowKit Go.Proofs.Ytiobhhcbdcbajaa.P Go.Proofs.Ytiobhhcbdcbajaa.Nine Go.Proofs.YtiobhhcbdcbajaaW.PrintWords Go.Proofs.YtiobhhcbdcbajaaW.PrintLast

theorem FnExactTwinCloses : laws_FnExactTwinCloses.Pure := by
  intro l xs _ _ _ _ _ _
  apply Ev.rounds
  unfold laws_FnExactTwinCloses.f
  by_cases hz : (l.length : Int) > 1048576
  · exact Ev.pos hz (Ev.now _)
  · refine Ev.neg hz ?_
    by_cases hy : (xs.length : Int) > 1048576
    · exact Ev.pos hy (Ev.now _)
    · have hT := to_ev (l := l) (by omega)
      have hX := to_ev (l := xs) (by omega)
      obtain ⟨b, hs, hi, _⟩ := twinCloses_both (l := l) (by omega) xs (by omega)
      exact Ev.neg hy (Ev.bind hT (Ev.bind hX (Ev.bind hs (Ev.bind hT (Ev.bind hX (Ev.bind hi (Ev.neg (by cases b <;> decide) (Ev.bind hT (Ev.bind (eq_ev (by omega)) (Ev.pos rfl (Ev.bind hX (Ev.bind (eq_ev (by omega)) (Ev.pos rfl (Ev.now _))))))))))))))

end Go.Proofs.Ytiobhhcbdcbajaa.Pure
