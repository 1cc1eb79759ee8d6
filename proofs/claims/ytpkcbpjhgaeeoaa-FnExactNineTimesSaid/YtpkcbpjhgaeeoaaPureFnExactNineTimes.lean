/- The program's NineTimes and the reference's are equal at all numbers. No conditions. -/
import Derived.Test.YtpkcbpjhgaeeoaaPx11
import Derived.Test.YtpkcbpjhgaeeoaaNineBase
namespace Go.Proofs.Ytpkcbpjhgaeeoaa.Pure
open Go.RowKit Go.Proofs.Ytpkcbpjhgaeeoaa.P Go.Proofs.YtpkcbpjhgaeeoaaW.PrintWords Go.Proofs.YtpkcbpjhgaeeoaaW.PrintLast

theorem FnExactNineTimes_in : ∀ a ∈ r9, ∀ b ∈ r9, laws_FnExactNineTimes.f a b = some true := by decide +kernel
theorem FnExactNineTimes : laws_FnExactNineTimes.Pure := by
  intro a b _ _
  by_cases ha : 0 ≤ a ∧ a ≤ 8
  · by_cases hb : 0 ≤ b ∧ b ≤ 8
    · exact FnExactNineTimes_in a (mem_r9 ha) b (mem_r9 hb)
    · simp [laws_FnExactNineTimes.f, spec_NineTimes.f, impl_NineTimes.f, in_spec ha, in_impl ha, out_spec hb, out_impl hb]
  · simp [laws_FnExactNineTimes.f, spec_NineTimes.f, impl_NineTimes.f, out_spec ha, out_impl ha]

end Go.Proofs.Ytpkcbpjhgaeeoaa.Pure
