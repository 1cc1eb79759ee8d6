/- The program's NineOrder and the reference's are equal at all numbers. No conditions. -/
import Derived.Test.YtpkcbpjhgaeeoaaPx14
import Derived.Test.YtpkcbpjhgaeeoaaNineBase
namespace Go.Proofs.Ytpkcbpjhgaeeoaa.Pure
open Go.RowKit Go.Proofs.Ytpkcbpjhgaeeoaa.P Go.Proofs.YtpkcbpjhgaeeoaaW.PrintWords Go.Proofs.YtpkcbpjhgaeeoaaW.PrintLast

theorem FnExactNineOrder_in : ∀ a ∈ r9, laws_FnExactNineOrder.f 40 a = some true := by decide +kernel
theorem FnExactNineOrder : laws_FnExactNineOrder.Pure := by
  intro a _
  refine ⟨40, ?_⟩
  by_cases ha : 0 ≤ a ∧ a ≤ 8
  · exact FnExactNineOrder_in a (mem_r9 ha)
  · simp [laws_FnExactNineOrder.f, spec_NineOrder.f, impl_NineOrder.f, spec_NineOrder.j0, impl_NineOrder.j0, out_spec ha, out_impl ha]

end Go.Proofs.Ytpkcbpjhgaeeoaa.Pure
