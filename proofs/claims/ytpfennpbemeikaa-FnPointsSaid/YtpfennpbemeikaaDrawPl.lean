/- Drawn tables, points and lines: each draw comes to its end. Conditions: the code's bytes are bytes, its length is an int's, the place is at most 1000. -/
import Derived.Test.YtpfennpbemeikaaKerDraw
import Derived.Test.YtpfennpbemeikaaPlanePts
import Derived.Test.YtpfennpbemeikaaPx18
set_option linter.unusedVariables false
set_option linter.unusedSimpArgs false
namespace Go.Proofs.Ytpfennpbemeikaa.Pure
open Go.RowKit Go.Proofs.Ytpfennpbemeikaa.P Go.Proofs.Ytpfennpbemeikaa.Nine Go.Proofs.YtpfennpbemeikaaW.PrintWords Go.Proofs.YtpfennpbemeikaaW.PrintLast

theorem point_draw {b : List Int} (hb : Bytes b) (hl : (b.length : Int) ≤ 9223372036854775807) (p : Int) (hp0 : 0 ≤ p) (hp : p ≤ 1000) : ∃ a q, Ev (fun k => spec_l91Point.f k b p) (a, q) ∧ p ≤ q ∧ q ≤ p + 3 := by
  obtain ⟨x, hx, x0, x1⟩ := pick_ev hb hl p 30 hp0 (by omega) (by omega) (by omega)
  unfold spec_l91Point.f
  by_cases h0 : x = 0
  · obtain ⟨y, hy, y0, y1⟩ := pick_ev hb hl (p + 1) 2 (by omega) (by omega) (by omega) (by omega)
    exact ⟨rd [-1, 91] y, p + 1 + 1, Ev.bind hx (Ev.pos h0 (Ev.some' (Ev.bind hy (Ev.pos y0 (Ev.pos y1 (Ev.now _)))))), by omega, by omega⟩
  · obtain ⟨y, hy, y0, y1⟩ := pick_ev hb hl (p + 1) 4 (by omega) (by omega) (by omega) (by omega)
    by_cases h1 : y = 0
    · obtain ⟨z, hz, z0, z1⟩ := pick_ev hb hl (p + 1 + 1) 10 (by omega) (by omega) (by omega) (by omega)
      exact ⟨wrap64 (81 + z), p + 1 + 1 + 1, Ev.bind hx (Ev.neg h0 (Ev.bind hy (Ev.pos h1 (Ev.bind hz (Ev.now _))))), by omega, by omega⟩
    · obtain ⟨z, hz, z0, z1⟩ := pick_ev hb hl (p + 1 + 1) 81 (by omega) (by omega) (by omega) (by omega)
      exact ⟨z, p + 1 + 1 + 1, Ev.bind hx (Ev.neg h0 (Ev.bind hy (Ev.neg h1 (Ev.bind hz (Ev.now _))))), by omega, by omega⟩
/-- The laws' shape with a draw in two steps. -/
theorem of_draw2 {α β : Type} {l : List Int} (hl : l.length ≤ maxLen) (hb : Bytes l) {f : Nat → List Int × Int → Option α} {c : α → Option β} {g : Nat → β → Option Bool}
    (h : ∀ b, Bytes b → (b.length : Int) ≤ 9223372036854775807 → ∃ a d, Ev (fun k => f k (b, 0)) a ∧ c a = some d ∧ Ev (fun k => g k d) true) :
    Ev (fun k => if (l.length : Int) > 1048576 then some true else (((spec_l6Open.f l).bind (f k)).bind c).bind (g k)) true := by
  by_cases hz : (l.length : Int) > 1048576
  · exact Ev.pos hz (Ev.now _)
  · refine Ev.neg hz ?_
    obtain ⟨b, ho, hb', hl'⟩ := open_some hl hb
    obtain ⟨a, d, hf, hc, hg⟩ := h b hb' hl'
    rw [ho]
    refine Ev.bind (Ev.bind (Ev.some' hf) ?_) hg
    rw [hc]
    exact Ev.now _
/-- A flag that is set once a list has a number. -/
theorem flag_step {xs : List Int} {i a : Int} (i0 : 0 ≤ i) (i1 : i < xs.length) (h : a ∉ xs.take i.toNat) : decide (a ∈ xs.take (i + 1).toNat) = (rd xs i == a) := by
  rw [take_rd xs i0 i1, Bool.eq_iff_iff, decide_eq_true_eq, beq_iff_eq]
  simp only [List.mem_append, h, false_or, List.mem_singleton]
  exact eq_comm
theorem asc_lt {xs : List Int} (h : xs.Pairwise (· < ·)) {i j : Int} (i0 : 0 ≤ i) (hij : i < j) (hj : j < xs.length) : rd xs i < rd xs j := by
  have := List.pairwise_iff_getElem.mp h i.toNat j.toNat (by omega) (by omega) (by omega)
  unfold rd
  rw [List.getD_eq_getElem?_getD, List.getElem?_eq_getElem (show i.toNat < xs.length by omega), List.getD_eq_getElem?_getD, List.getElem?_eq_getElem (show j.toNat < xs.length by omega)]
  exact this
theorem r91_max (l : Int) (f : Int → Bool) : ((r91.filter f).length : Int) ≤ 91 := by
  have := take91_len f 91
  have e : r91.filter f = (r91.take 91).filter f := rfl
  rw [e]
  omega

end Go.Proofs.Ytpfennpbemeikaa.Pure
