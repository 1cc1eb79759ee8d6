/- Systems of each kind are systems, and answer as their kind says. No conditions. -/
import Derived.Test.YteioeojpomahgaaPx24
import Derived.Test.YteioeojpomahgaaSpecSys2
import Derived.Test.YteioeojpomahgaaEvMore
import Derived.Test.YteioeojpomahgaaDrawSys
import Derived.Test.YteioeojpomahgaaSliceSame
set_option linter.unusedVariables false
set_option linter.unusedSimpArgs false
namespace Go.Proofs.Yteioeojpomahgaa.Pure
open Go.RowKit Go.Proofs.Yteioeojpomahgaa.P Go.Proofs.Yteioeojpomahgaa.Nine Go.Proofs.YteioeojpomahgaaW.PrintWords Go.Proofs.YteioeojpomahgaaW.PrintLast

theorem FnSystemOf_in : ∀ a ∈ ([-1, 0, 1, 2, 3, 4, 5] : List Int), ((impl_SystemOf.f 200 a).bind fun bt356 => ((spec_SystemOf.f 200 a).bind fun bt360 => (if (bt356.2 != bt360.2) = true then (laws_FnSystemOf.j0 200 a bt356.1 bt356.2 bt360.1 bt360.2 true) else ((laws_sameInts.f 200 bt356.1 bt360.1).bind fun t364 => (if t364 = true then (laws_FnSystemOf.j0 200 a bt356.1 bt356.2 bt360.1 bt360.2 (!bt356.2)) else (laws_FnSystemOf.j0 200 a bt356.1 bt356.2 bt360.1 bt360.2 true)))))) = some true := by decide +kernel
theorem FnSystemOf : laws_FnSystemOf.Pure := by
  intro l hl _ hb
  refine ⟨200, ?_⟩
  obtain ⟨b, ho, hb', hl'⟩ := open_some hl hb
  obtain ⟨r, hr, r0, r1⟩ := pick_some hb' hl' 0 7 (by omega) (by omega) (by omega) (by omega) 199
  have h := FnSystemOf_in (r - 1) (by simp only [List.mem_cons, List.not_mem_nil]; omega)
  unfold laws_FnSystemOf.f spec_DrawSystemOf.f
  by_cases hz : (l.length : Int) > 1048576
  · rw [if_pos hz]
  · rw [if_neg hz, ho]
    simp only [Option.bind_some]
    rw [hr]
    simp only [Option.bind_some]
    rw [w64 (n := r - 1) (by omega) (by omega)]
    exact h

end Go.Proofs.Yteioeojpomahgaa.Pure
