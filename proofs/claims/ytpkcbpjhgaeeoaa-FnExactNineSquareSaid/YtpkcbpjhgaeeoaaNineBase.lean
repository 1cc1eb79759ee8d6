/- Which numbers are elements, in the program and in the reference: those from 0 to 8. No conditions. -/
import Derived.Test.YtpkcbpjhgaeeoaaPx1
namespace Go.Proofs.Ytpkcbpjhgaeeoaa.Pure
open Go.RowKit Go.Proofs.Ytpkcbpjhgaeeoaa.P Go.Proofs.YtpkcbpjhgaeeoaaW.PrintWords Go.Proofs.YtpkcbpjhgaeeoaaW.PrintLast

def r9 : List Int := [0, 1, 2, 3, 4, 5, 6, 7, 8]
theorem mem_r9 {a : Int} (h : 0 ≤ a ∧ a ≤ 8) : a ∈ r9 := by
  simp only [r9, List.mem_cons, List.not_mem_nil, or_false]
  omega
theorem of_r9 {a : Int} (h : a ∈ r9) : 0 ≤ a ∧ a ≤ 8 := by
  simp only [r9, List.mem_cons, List.not_mem_nil, or_false] at h
  omega

theorem in_impl {a : Int} (h : 0 ≤ a ∧ a ≤ 8) : impl_isNine.f a = some true := by
  unfold impl_isNine.f
  rw [if_pos (by omega), decide_eq_true (by omega)]
theorem out_impl {a : Int} (h : ¬ (0 ≤ a ∧ a ≤ 8)) : impl_isNine.f a = some false := by
  unfold impl_isNine.f
  split
  · rw [decide_eq_false (by omega)]
  · rfl
theorem in_spec {a : Int} (h : 0 ≤ a ∧ a ≤ 8) : spec_l1In.f a = some true := by
  unfold spec_l1In.f spec_l6In.f
  rw [if_pos (by omega), decide_eq_true (by omega)]
  rfl
theorem out_spec {a : Int} (h : ¬ (0 ≤ a ∧ a ≤ 8)) : spec_l1In.f a = some false := by
  unfold spec_l1In.f spec_l6In.f
  split
  · rw [decide_eq_false (by omega)]
    rfl
  · rfl

end Go.Proofs.Ytpkcbpjhgaeeoaa.Pure
