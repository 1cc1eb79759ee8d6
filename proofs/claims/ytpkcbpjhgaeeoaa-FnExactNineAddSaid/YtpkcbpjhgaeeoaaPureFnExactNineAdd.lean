/- The program's NineAdd and the reference's are equal at all numbers. No conditions. -/
import Derived.Test.YtpkcbpjhgaeeoaaPx9
import Derived.Test.YtpkcbpjhgaeeoaaNineBase
namespace Go.Proofs.Ytpkcbpjhgaeeoaa.Pure
open Go.RowKit Go.Proofs.Ytpkcbpjhgaeeoaa.P Go.Proofs.YtpkcbpjhgaeeoaaW.PrintWords Go.Proofs.YtpkcbpjhgaeeoaaW.PrintLast

theorem FnExactNineAdd_in : ∀ a ∈ r9, ∀ b ∈ r9, laws_FnExactNineAdd.f a b = some true := by decide +kernel
theorem FnExactNineAdd : laws_FnExactNineAdd.Pure := by
  intro a b _ _
  by_cases ha : 0 ≤ a ∧ a ≤ 8
  · by_cases hb : 0 ≤ b ∧ b ≤ 8
    · exact FnExactNineAdd_in a (mem_r9 ha) b (mem_r9 hb)
    · simp [laws_FnExactNineAdd.f, spec_NineAdd.f, impl_NineAdd.f, in_spec ha, in_impl ha, out_spec hb, out_impl hb]
  · simp [laws_FnExactNineAdd.f, spec_NineAdd.f, impl_NineAdd.f, out_spec ha, out_impl ha]

end Go.Proofs.Ytpkcbpjhgaeeoaa.Pure
