/- The program's NineMinus and the reference's are equal at all numbers. No conditions. -/
import Derived.Test.YtpkcbpjhgaeeoaaPx10
import Derived.Test.YtpkcbpjhgaeeoaaNineBase
namespace Go.Proofs.Ytpkcbpjhgaeeoaa.Pure
open Go.RowKit Go.Proofs.Ytpkcbpjhgaeeoaa.P Go.Proofs.YtpkcbpjhgaeeoaaW.PrintWords Go.Proofs.YtpkcbpjhgaeeoaaW.PrintLast

theorem FnExactNineMinus_in : ∀ a ∈ r9, laws_FnExactNineMinus.f a = some true := by decide +kernel
theorem FnExactNineMinus : laws_FnExactNineMinus.Pure := by
  intro a _
  by_cases ha : 0 ≤ a ∧ a ≤ 8
  · exact FnExactNineMinus_in a (mem_r9 ha)
  · simp [laws_FnExactNineMinus.f, spec_NineMinus.f, impl_NineMinus.f, out_spec ha, out_impl ha]

end Go.Proofs.Ytpkcbpjhgaeeoaa.Pure
