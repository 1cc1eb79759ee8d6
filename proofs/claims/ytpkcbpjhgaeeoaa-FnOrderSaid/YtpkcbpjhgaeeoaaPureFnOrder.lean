/- Orders divide eight, at every code. No conditions. -/
import Derived.Test.YtpkcbpjhgaeeoaaPx21
import Derived.Test.YtpkcbpjhgaeeoaaNineDraw
namespace Go.Proofs.Ytpkcbpjhgaeeoaa.Pure
open Go.RowKit Go.Proofs.Ytpkcbpjhgaeeoaa.P Go.Proofs.YtpkcbpjhgaeeoaaW.PrintWords Go.Proofs.YtpkcbpjhgaeeoaaW.PrintLast

theorem FnOrder_in : ∀ a ∈ r11, ((impl_NineOrder.f 40 a).bind fun t132 => ((spec_NineOrder.f 40 a).bind fun t133 => (if t132 = t133 then (laws_FnOrder.j0 40 a t132 t133 (decide (t132 < 0))) else (laws_FnOrder.j0 40 a t132 t133 true)))) = some true := by decide +kernel
theorem FnOrder : laws_FnOrder.Pure := by
  intro l hl _ hb
  refine ⟨40, ?_⟩
  obtain ⟨b, ho, hb', hl'⟩ := open_some hl hb
  obtain ⟨a, hd, ha⟩ := nine_some hb' hl' 0 (by omega) (by omega) 39
  have h := FnOrder_in a ha
  unfold laws_FnOrder.f spec_DrawNineOrder.f
  by_cases hz : (l.length : Int) > 1048576
  · rw [if_pos hz]
  · rw [if_neg hz, ho]
    simp only [Option.bind_some]
    rw [hd]
    exact h

end Go.Proofs.Ytpkcbpjhgaeeoaa.Pure
