/- The program's SystemOf and the reference's are equal at all numbers. No conditions. -/
import Derived.Test.YtpkcbpjhgaeeoaaPx6
import Derived.Test.YtpkcbpjhgaeeoaaEvLoop
namespace Go.Proofs.Ytpkcbpjhgaeeoaa.Pure
open Go.RowKit Go.Proofs.Ytpkcbpjhgaeeoaa.P Go.Proofs.YtpkcbpjhgaeeoaaW.PrintWords Go.Proofs.YtpkcbpjhgaeeoaaW.PrintLast

theorem FnExactSystemOf_in : ∀ a ∈ ([0, 1, 2, 3, 4] : List Int), laws_FnExactSystemOf.f 220 a = some true := by decide +kernel
theorem FnExactSystemOf_out : laws_FnExactSystemOf.j0 20 5 [] false [] false = some true := by decide +kernel
theorem FnExactSystemOf : laws_FnExactSystemOf.Pure := by
  intro a _
  by_cases ha : 0 ≤ a ∧ a ≤ 4
  · exact ⟨220, FnExactSystemOf_in a (by simp only [List.mem_cons, List.not_mem_nil]; omega)⟩
  · refine ⟨20, ?_⟩
    have s : ∀ k, spec_SystemOf.f k a = some ([], false) := fun k => by
      unfold spec_SystemOf.f spec_l6In.f
      split
      · rw [decide_eq_false (by omega)]
        rfl
      · rfl
    have i : ∀ k, impl_SystemOf.f k a = some ([], false) := fun k => by
      unfold impl_SystemOf.f
      by_cases h : a < 0
      · rw [if_pos h]
      · rw [if_neg h, if_pos (by omega)]
    have m : laws_markIntS.f 19 [] 1 = some (1, []) := by decide +kernel
    have h : laws_heldIntS.f 19 [] 1 = some 1 := by decide +kernel
    have e : laws_eqIntS.f 19 [] [] = some true := by decide +kernel
    have e2 : laws_eqIntS.f 20 [] [] = some true := by decide +kernel
    have j : laws_FnExactSystemOf.j1 19 [] 1 false = some true := by decide +kernel
    unfold laws_FnExactSystemOf.f
    rw [s, i]
    simp only [Option.bind_some]
    rw [e2]
    simp only [Option.bind_some]
    rw [if_pos trivial, laws_FnExactSystemOf.j0]
    rw [show (false != false) = false from rfl, if_neg (by decide)]
    simp only [m, h, e, i, Option.bind_some]
    exact j

end Go.Proofs.Ytpkcbpjhgaeeoaa.Pure
