/- The laws' own test of two lists: a list is the same as itself. Conditions: the list's length is well inside the range of an int. -/
import Derived.Test.YtiobhhcbdcbajaaEvA
import Derived.Test.YtiobhhcbdcbajaaPx3
set_option linter.unusedVariables false
set_option linter.unusedSimpArgs false
namespace Go.Proofs.Ytiobhhcbdcbajaa.Pure
open Go.RowKit Go.Proofs.Ytiobhhcbdcbajaa.P Go.Proofs.YtiobhhcbdcbajaaW.PrintWords Go.Proofs.YtiobhhcbdcbajaaW.PrintLast

theorem same_ev {l : List Int} (hl : (l.length : Int) ≤ 9223372036854775806) : Ev (fun k => laws_sameInts.f k l l) true := by
  refine Ev.pos rfl ?_
  refine loop_all (g := fun k i => laws_sameInts.l0 k l l i) (N := l.length) (p := fun _ => true) (by omega) ?_ (fun _ _ _ => rfl) ?_
  · intro i h0 h1 _ h
    refine Ev.step (fun k => laws_sameInts.l0.eq_2 ..) ?_
    refine Ev.pos h1 (Ev.pos h0 (Ev.pos h1 (Ev.pos rfl ?_)))
    rw [w1 h0 (by omega)]
    exact h
  · refine Ev.step (fun k => laws_sameInts.l0.eq_2 ..) ?_
    exact Ev.neg (by omega) (Ev.now _)

end Go.Proofs.Ytiobhhcbdcbajaa.Pure
