/- The program's NineTurned and the reference's are equal at all numbers. No conditions. -/
import Derived.Test.YtpkcbpjhgaeeoaaPx13
import Derived.Test.YtpkcbpjhgaeeoaaNineBase
namespace Go.Proofs.Ytpkcbpjhgaeeoaa.Pure
open Go.RowKit Go.Proofs.Ytpkcbpjhgaeeoaa.P Go.Proofs.YtpkcbpjhgaeeoaaW.PrintWords Go.Proofs.YtpkcbpjhgaeeoaaW.PrintLast

theorem FnExactNineTurned_in : ∀ a ∈ r9, laws_FnExactNineTurned.f 40 a = some true := by decide +kernel
theorem FnExactNineTurned : laws_FnExactNineTurned.Pure := by
  intro a _
  refine ⟨40, ?_⟩
  by_cases ha : 0 ≤ a ∧ a ≤ 8
  · exact FnExactNineTurned_in a (mem_r9 ha)
  · simp [laws_FnExactNineTurned.f, spec_NineTurned.f, impl_NineTurned.f, impl_NineTurned.l0, wrap64, out_spec ha, out_impl ha]

end Go.Proofs.Ytpkcbpjhgaeeoaa.Pure
