/- What swaps and is a system shares sums from both sides. No conditions. -/
import Derived.Test.YteioeojpomahgaaPx28
import Derived.Test.YteioeojpomahgaaSpecSys2
import Derived.Test.YteioeojpomahgaaEvMore
import Derived.Test.YteioeojpomahgaaDrawSys
set_option linter.unusedVariables false
set_option linter.unusedSimpArgs false
namespace Go.Proofs.Yteioeojpomahgaa.Pure
open Go.RowKit Go.Proofs.Yteioeojpomahgaa.P Go.Proofs.Yteioeojpomahgaa.Nine Go.Proofs.YteioeojpomahgaaW.PrintWords Go.Proofs.YteioeojpomahgaaW.PrintLast

theorem FnSwaps : laws_FnSwaps.Pure := by
  intro l hl _ hb
  apply Ev.rounds
  unfold laws_FnSwaps.f spec_DrawSystemSwaps.f
  refine of_draw (f := fun k x => (spec_l91System.f k x.1 x.2).bind fun y => some y.1) hl hb fun b hb' hl' => ?_
  obtain ⟨t, ht, hn⟩ := one_draw hb' hl'
  refine ⟨t, ht, ?_⟩
  unfold impl_SystemSwaps.f
  refine Ev.some' (Ev.bind (swp_ev hn) ?_)
  cases h : sysI t && all3 (swpI t) with
  | false => exact Ev.neg (by decide) (Ev.step (fun k => laws_FnSwaps.j0.eq_2 ..) (Ev.pos rfl (Ev.now _)))
  | true =>
    rw [Bool.and_eq_true] at h
    obtain ⟨hN, S⟩ := sys_iff.mp h.1
    refine Ev.neg (by decide) (Ev.step (fun k => laws_FnSwaps.j0.eq_2 ..) (Ev.neg (by decide) ?_))
    unfold impl_SystemCentre.f impl_SystemBoth.f
    rw [h.1, if_pos rfl]
    refine Ev.some' (Ev.pos rfl (Ev.pos ?_ (Ev.some' ?_)))
    · have := filter_all (cenI t)
      rw [cen_all hN, h.2, beq_iff_eq] at this
      exact this
    · rw [Bool.true_and, (both_iff hN).mpr (S.swp_both ((swp_iff hN).mp h.2))]
      exact Ev.now _

end Go.Proofs.Yteioeojpomahgaa.Pure
