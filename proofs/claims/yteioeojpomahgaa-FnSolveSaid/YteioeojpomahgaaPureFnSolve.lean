/- Solutions solve and no other element does. No conditions. -/
import Derived.Test.YteioeojpomahgaaPx27
import Derived.Test.YteioeojpomahgaaSpecSys2
import Derived.Test.YteioeojpomahgaaEvMore
import Derived.Test.YteioeojpomahgaaDrawSys
set_option linter.unusedVariables false
set_option linter.unusedSimpArgs false
namespace Go.Proofs.Yteioeojpomahgaa.Pure
open Go.RowKit Go.Proofs.Yteioeojpomahgaa.P Go.Proofs.Yteioeojpomahgaa.Nine Go.Proofs.YteioeojpomahgaaW.PrintWords Go.Proofs.YteioeojpomahgaaW.PrintLast

theorem FnSolve : laws_FnSolve.Pure := by
  intro l hl _ hb
  apply Ev.rounds
  unfold laws_FnSolve.f spec_DrawSystemSolve.f
  refine of_draw (f := fun k x => (spec_l91System.f k x.1 x.2).bind fun y => (spec_l91Nine.f k x.1 y.2).bind fun z => (spec_l91Nine.f k x.1 z.2).bind fun u => some (y.1, z.1, u.1)) hl hb fun b hb' hl' => ?_
  obtain ⟨t, q, ht, hn, q0, q1⟩ := sys_draw hb' hl' 0 (by omega) (by omega)
  obtain ⟨c, hc, _⟩ := nine_ev hb' hl' q q0 (by omega)
  obtain ⟨e, he, _⟩ := nine_ev hb' hl' (q + 2) (by omega) (by omega)
  refine ⟨(t, c, e), Ev.bind ht (Ev.bind hc (Ev.bind he (Ev.now _))), ?_⟩
  obtain ⟨⟨x, m⟩, hs, hi, hx⟩ := solve_both (l := t) (by omega) c e
  have hm : ¬ (m != m) = true := by cases m <;> decide
  refine Ev.bind hi (Ev.bind hs (Ev.neg hm (Ev.pos rfl ?_)))
  cases m with
  | false => exact Ev.step (fun k => laws_FnSolve.j0.eq_2 ..) (Ev.pos rfl (Ev.pos rfl (by rw [show ((x : Int) == x) = true from beq_iff_eq.mpr rfl]; exact Ev.now _)))
  | true =>
    obtain ⟨h, c0, c1, e0, e1, x0, x1, h1, hu⟩ := hx rfl
    have hl := len81 (sysI_nines h)
    refine Ev.step (fun k => laws_FnSolve.j0.eq_2 ..) (Ev.neg Bool.false_ne_true ?_)
    refine loop_go (g := fun k i => laws_FnSolve.l0 k t c e x i) (N := 9) (by omega) ?_ ?_
    · intro i i0 i1 hg
      refine Ev.step (fun k => laws_FnSolve.l0.eq_2 ..) (Ev.pos i1 ?_)
      rw [w9c i0 (by omega) (by omega) c1, w1 i0 (by omega)]
      refine Ev.pos (by omega) (Ev.pos (by omega) (Ev.neg ?_ hg))
      have : (rd t (9 * i + c) == e) = (i == x) := by
        rw [Bool.eq_iff_iff, beq_iff_eq, beq_iff_eq]
        exact ⟨fun e' => hu i i0 (by omega) e', fun e' => by rw [e']; exact h1⟩
      rw [this]
      cases (i == x) <;> decide
    · exact Ev.step (fun k => laws_FnSolve.l0.eq_2 ..) (Ev.neg (by omega) (Ev.now _))

end Go.Proofs.Yteioeojpomahgaa.Pure
