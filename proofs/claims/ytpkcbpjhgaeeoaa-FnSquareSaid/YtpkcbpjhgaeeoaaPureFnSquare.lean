/- Squares have orders that divide four, at every code. No conditions. -/
import Derived.Test.YtpkcbpjhgaeeoaaPx22
import Derived.Test.YtpkcbpjhgaeeoaaNineDraw
namespace Go.Proofs.Ytpkcbpjhgaeeoaa.Pure
open Go.RowKit Go.Proofs.Ytpkcbpjhgaeeoaa.P Go.Proofs.YtpkcbpjhgaeeoaaW.PrintWords Go.Proofs.YtpkcbpjhgaeeoaaW.PrintLast

theorem FnSquare_in : ∀ a ∈ r11, ((impl_NineSquare.f 40 a).bind fun t136 => ((spec_NineSquare.f 40 a).bind fun t137 => (if (t136 != t137) = true then (laws_FnSquare.j0 40 a t136 t137 true) else (laws_FnSquare.j0 40 a t136 t137 (!t136))))) = some true := by decide +kernel
theorem FnSquare : laws_FnSquare.Pure := by
  intro l hl _ hb
  refine ⟨40, ?_⟩
  obtain ⟨b, ho, hb', hl'⟩ := open_some hl hb
  obtain ⟨a, hd, ha⟩ := nine_some hb' hl' 0 (by omega) (by omega) 39
  have h := FnSquare_in a ha
  unfold laws_FnSquare.f spec_DrawNineSquare.f
  by_cases hz : (l.length : Int) > 1048576
  · rw [if_pos hz]
  · rw [if_neg hz, ho]
    simp only [Option.bind_some]
    rw [hd]
    exact h

end Go.Proofs.Ytpkcbpjhgaeeoaa.Pure
