/- The program's PlanePoints and the reference's are equal at all lists and numbers, a new list each time, and the list stays as it was. No conditions. -/
import Derived.Test.YtpfennpbemeikaaPx23
import Derived.Test.YtpfennpbemeikaaPlanePts
import Derived.Test.YtpfennpbemeikaaSliceTo
import Derived.Test.YtpfennpbemeikaaSliceEq
set_option linter.unusedVariables false
set_option linter.unusedSimpArgs false
namespace Go.Proofs.Ytpfennpbemeikaa.Pure
open Go.RowKit Go.Proofs.Ytpfennpbemeikaa.P Go.Proofs.Ytpfennpbemeikaa.Nine Go.Proofs.YtpfennpbemeikaaW.PrintWords Go.Proofs.YtpfennpbemeikaaW.PrintLast

theorem FnExactPlanePoints : laws_FnExactPlanePoints.Pure := by
  intro l p _ _ _ _
  apply Ev.rounds
  unfold laws_FnExactPlanePoints.f
  by_cases hz : (l.length : Int) > 1048576
  · exact Ev.pos hz (Ev.now _)
  · have hT := to_ev (l := l) (by omega)
    obtain ⟨r, hs, hi, hr⟩ := points_both (l := l) (by omega) p
    have hn : (r.1.length : Int) ≤ 91 := by
      rcases hr with ⟨_, _, rfl⟩ | ⟨_, rfl⟩
      · have := take91_len (fun q => onI (mOf l) q p) 91
        show (((pointsI (mOf l) p).length : Nat) : Int) ≤ 91
        have e : pointsI (mOf l) p = (r91.take 91).filter (fun q => onI (mOf l) q p) := rfl
        rw [e]
        omega
      · show (0 : Int) ≤ 91
        decide
    clear hr
    obtain ⟨x, b⟩ := r
    have hb : ¬ (b != b) = true := by cases b <;> decide
    simp only at hn
    have hx : (x.length : Int) ≤ 9223372036854775806 := by omega
    refine Ev.neg hz (Ev.bind hT (Ev.bind hs (Ev.bind hT ?_)))
    rw [hi]
    refine Ev.some' (Ev.bind (eq_ev hx) (Ev.pos rfl ?_))
    refine Ev.step (fun k => laws_FnExactPlanePoints.j0.eq_2 ..) (Ev.neg hb (Ev.bind hT (Ev.bind (eq_ev (by omega)) (Ev.pos rfl (Ev.bind (mark_ev (by omega)) (Ev.neg (by show ¬ ((l.length : Int) + 1 < 0); omega) (Ev.bind (eq_ev hx) (Ev.pos rfl ?_))))))))
    refine Ev.step (fun k => laws_FnExactPlanePoints.j1.eq_2 ..) (Ev.neg hb (Ev.bind (mark_ev hx) (Ev.bind (held_ev hx) (Ev.neg (by show ¬ ((x.length : Int) + 1 < 0); omega) (Ev.pos rfl (Ev.bind hT ?_))))))
    rw [hi]
    refine Ev.some' (Ev.bind (eq_ev hx) (Ev.pos rfl ?_))
    exact Ev.step (fun k => laws_FnExactPlanePoints.j2.eq_2 ..) (Ev.neg hb (Ev.bind (held_ev hx) (Ev.neg (by show ¬ ((x.length : Int) + 1 < 0); omega) (Ev.pos rfl (Ev.now _)))))

end Go.Proofs.Ytpfennpbemeikaa.Pure
