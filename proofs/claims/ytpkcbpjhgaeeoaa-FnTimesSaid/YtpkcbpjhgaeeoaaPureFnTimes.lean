/- Products share sums, at every code. No conditions. -/
import Derived.Test.YtpkcbpjhgaeeoaaPx19
import Derived.Test.YtpkcbpjhgaeeoaaNineDraw
namespace Go.Proofs.Ytpkcbpjhgaeeoaa.Pure
open Go.RowKit Go.Proofs.Ytpkcbpjhgaeeoaa.P Go.Proofs.YtpkcbpjhgaeeoaaW.PrintWords Go.Proofs.YtpkcbpjhgaeeoaaW.PrintLast

theorem FnTimes_in : ∀ a ∈ r11, ∀ b ∈ r11, ((impl_NineTimes.f a b).bind fun t139 => ((spec_NineTimes.f a b).bind fun t140 => (if t139 = t140 then (laws_FnTimes.j0 40 a b t139 t140 (decide (t139 < 0))) else (laws_FnTimes.j0 40 a b t139 t140 true)))) = some true := by decide +kernel
theorem FnTimes : laws_FnTimes.Pure := by
  intro l hl _ hb
  refine ⟨40, ?_⟩
  obtain ⟨b, ho, hb', hl'⟩ := open_some hl hb
  obtain ⟨a, hd, ha⟩ := nine_some hb' hl' 0 (by omega) (by omega) 39
  obtain ⟨c, hd2, hc⟩ := nine_some hb' hl' (0 + 2) (by omega) (by omega) 39
  have h := FnTimes_in a ha c hc
  unfold laws_FnTimes.f spec_DrawNineTimes.f spec_l91Two.f
  by_cases hz : (l.length : Int) > 1048576
  · rw [if_pos hz]
  · rw [if_neg hz, ho]
    simp only [Option.bind_some]
    rw [hd]
    simp only [Option.bind_some]
    rw [hd2]
    exact h

end Go.Proofs.Ytpkcbpjhgaeeoaa.Pure
