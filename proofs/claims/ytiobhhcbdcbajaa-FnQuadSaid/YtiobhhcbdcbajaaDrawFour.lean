/- Drawn tables with four points or six: each draw comes to its end. Conditions: the code's bytes are bytes, its length is an int's. -/
import Derived.Test.YtiobhhcbdcbajaaKerA
import Derived.Test.YtiobhhcbdcbajaaPlaneA
import Derived.Test.YtiobhhcbdcbajaaEvA
import Derived.Test.YtiobhhcbdcbajaaPx26
set_option linter.unusedVariables false
set_option linter.unusedSimpArgs false
namespace Go.Proofs.Ytiobhhcbdcbajaa.Pure
open Go.RowKit Go.Proofs.Ytiobhhcbdcbajaa.P Go.Proofs.Ytiobhhcbdcbajaa.Nine Go.Proofs.YtiobhhcbdcbajaaW.PrintWords Go.Proofs.YtiobhhcbdcbajaaW.PrintLast

theorem point_draw {b : List Int} (hb : Bytes b) (hl : (b.length : Int) ≤ 9223372036854775807) (p : Int) (hp0 : 0 ≤ p) (hp : p ≤ 1000) : ∃ a q, Ev (fun k => spec_l91Point.f k b p) (a, q) ∧ p ≤ q ∧ q ≤ p + 3 := by
  obtain ⟨x, hx, x0, x1⟩ := pick_ev hb hl p 30 hp0 (by omega) (by omega) (by omega)
  unfold spec_l91Point.f
  by_cases h0 : x = 0
  · obtain ⟨y, hy, y0, y1⟩ := pick_ev hb hl (p + 1) 2 (by omega) (by omega) (by omega) (by omega)
    exact ⟨rd [-1, 91] y, p + 1 + 1, Ev.bind hx (Ev.pos h0 (Ev.some' (Ev.bind hy (Ev.pos y0 (Ev.pos y1 (Ev.now _)))))), by omega, by omega⟩
  · obtain ⟨y, hy, y0, y1⟩ := pick_ev hb hl (p + 1) 4 (by omega) (by omega) (by omega) (by omega)
    by_cases h1 : y = 0
    · obtain ⟨z, hz, z0, z1⟩ := pick_ev hb hl (p + 1 + 1) 10 (by omega) (by omega) (by omega) (by omega)
      exact ⟨wrap64 (81 + z), p + 1 + 1 + 1, Ev.bind hx (Ev.neg h0 (Ev.bind hy (Ev.pos h1 (Ev.bind hz (Ev.now _))))), by omega, by omega⟩
    · obtain ⟨z, hz, z0, z1⟩ := pick_ev hb hl (p + 1 + 1) 81 (by omega) (by omega) (by omega) (by omega)
      exact ⟨z, p + 1 + 1 + 1, Ev.bind hx (Ev.neg h0 (Ev.bind hy (Ev.neg h1 (Ev.bind hz (Ev.now _))))), by omega, by omega⟩
/-- The laws' shape with a draw in two steps. -/
theorem of_draw2 {α β : Type} {l : List Int} (hl : l.length ≤ maxLen) (hb : Bytes l) {f : Nat → List Int × Int → Option α} {c : α → Option β} {g : Nat → β → Option Bool}
    (h : ∀ b, Bytes b → (b.length : Int) ≤ 9223372036854775807 → ∃ a d, Ev (fun k => f k (b, 0)) a ∧ c a = some d ∧ Ev (fun k => g k d) true) :
    Ev (fun k => if (l.length : Int) > 1048576 then some true else (((spec_l6Open.f l).bind (f k)).bind c).bind (g k)) true := by
  by_cases hz : (l.length : Int) > 1048576
  · exact Ev.pos hz (Ev.now _)
  · refine Ev.neg hz ?_
    obtain ⟨b, ho, hb', hl'⟩ := open_some hl hb
    obtain ⟨a, d, hf, hc, hg⟩ := h b hb' hl'
    rw [ho]
    refine Ev.bind (Ev.bind (Ev.some' hf) ?_) hg
    rw [hc]
    exact Ev.now _
theorem quad_draw {b : List Int} (hb : Bytes b) (hl : (b.length : Int) ≤ 9223372036854775807) (p : Int) (hp0 : 0 ≤ p) (hp : p ≤ 900) : ∃ xs q, Ev (fun k => spec_l91Quad.f k b p) (xs, q) ∧ xs.length = 4 ∧ p ≤ q ∧ q ≤ p + 12 := by
  obtain ⟨x0, q0, h0, _, _⟩ := point_draw hb hl p hp0 (by omega)
  obtain ⟨x1, q1, h1, _, _⟩ := point_draw hb hl q0 (by omega) (by omega)
  obtain ⟨x2, q2, h2, _, _⟩ := point_draw hb hl q1 (by omega) (by omega)
  obtain ⟨x3, q3, h3, _, _⟩ := point_draw hb hl q2 (by omega) (by omega)
  refine ⟨[x0, x1, x2, x3], q3, ?_, rfl, by omega, by omega⟩
  unfold spec_l91Quad.f
  refine Ev.step (fun k => spec_l91Quad.l0.eq_2 ..) (Ev.pos (by decide) (Ev.bind h0 (Ev.pos (by show (0 : Nat) < _; decide) ?_)))
  rw [show wrap64 ((0 : Int) + 1) = 1 by rw [w64 (by omega) (by omega)]; rfl]
  refine Ev.step (fun k => spec_l91Quad.l0.eq_2 ..) (Ev.pos (by decide) (Ev.bind h1 (Ev.pos (by show (1 : Nat) < _; decide) ?_)))
  rw [show wrap64 ((1 : Int) + 1) = 2 by rw [w64 (by omega) (by omega)]; rfl]
  refine Ev.step (fun k => spec_l91Quad.l0.eq_2 ..) (Ev.pos (by decide) (Ev.bind h2 (Ev.pos (by show (2 : Nat) < _; decide) ?_)))
  rw [show wrap64 ((2 : Int) + 1) = 3 by rw [w64 (by omega) (by omega)]; rfl]
  refine Ev.step (fun k => spec_l91Quad.l0.eq_2 ..) (Ev.pos (by decide) (Ev.bind h3 (Ev.pos (by show (3 : Nat) < _; decide) ?_)))
  rw [show wrap64 ((3 : Int) + 1) = 4 by rw [w64 (by omega) (by omega)]; rfl]
  exact Ev.step (fun k => spec_l91Quad.l0.eq_2 ..) (Ev.neg (by decide) (Ev.now _))

end Go.Proofs.Ytiobhhcbdcbajaa.Pure
