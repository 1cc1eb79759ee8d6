/- The program's NineSquare and the reference's are equal at all numbers. No conditions. -/
import Derived.Test.YtpkcbpjhgaeeoaaPx15
import Derived.Test.YtpkcbpjhgaeeoaaNineBase
namespace Go.Proofs.Ytpkcbpjhgaeeoaa.Pure
open Go.RowKit Go.Proofs.Ytpkcbpjhgaeeoaa.P Go.Proofs.YtpkcbpjhgaeeoaaW.PrintWords Go.Proofs.YtpkcbpjhgaeeoaaW.PrintLast

theorem FnExactNineSquare_in : ∀ a ∈ r9, laws_FnExactNineSquare.f 40 a = some true := by decide +kernel
theorem FnExactNineSquare : laws_FnExactNineSquare.Pure := by
  intro a _
  refine ⟨40, ?_⟩
  by_cases ha : 0 ≤ a ∧ a ≤ 8
  · exact FnExactNineSquare_in a (mem_r9 ha)
  · simp [laws_FnExactNineSquare.f, spec_NineSquare.f, impl_NineSquare.f, out_spec ha, out_impl ha]

end Go.Proofs.Ytpkcbpjhgaeeoaa.Pure
