/- The program's NineCube and the reference's are equal at all numbers. No conditions. -/
import Derived.Test.YtpkcbpjhgaeeoaaPx12
import Derived.Test.YtpkcbpjhgaeeoaaNineBase
namespace Go.Proofs.Ytpkcbpjhgaeeoaa.Pure
open Go.RowKit Go.Proofs.Ytpkcbpjhgaeeoaa.P Go.Proofs.YtpkcbpjhgaeeoaaW.PrintWords Go.Proofs.YtpkcbpjhgaeeoaaW.PrintLast

theorem FnExactNineCube_in : ∀ a ∈ r9, laws_FnExactNineCube.f a = some true := by decide +kernel
theorem FnExactNineCube : laws_FnExactNineCube.Pure := by
  intro a _
  by_cases ha : 0 ≤ a ∧ a ≤ 8
  · exact FnExactNineCube_in a (mem_r9 ha)
  · simp [laws_FnExactNineCube.f, spec_NineCube.f, impl_NineCube.f, out_spec ha, out_impl ha]

end Go.Proofs.Ytpkcbpjhgaeeoaa.Pure
