/- PlaneThree of the program: three different points on one line of a system. No conditions. -/
import Derived.Test.YtiobhhcbdcbajaaPlaneA
import Derived.Test.YtiobhhcbdcbajaaPx27
set_option linter.unusedVariables false
set_option linter.unusedSimpArgs false
namespace Go.Proofs.Ytiobhhcbdcbajaa.Pure
open Go.RowKit Go.Proofs.Ytiobhhcbdcbajaa.P Go.Proofs.Ytiobhhcbdcbajaa.Nine Go.Proofs.YtiobhhcbdcbajaaW.PrintWords Go.Proofs.YtiobhhcbdcbajaaW.PrintLast

theorem dif3 {p q r : Int} : Dif [p, q, r] ↔ Rg p ∧ Rg q ∧ Rg r ∧ p ≠ q ∧ p ≠ r ∧ q ≠ r := by
  have e0 : rd [p, q, r] 0 = p := rfl
  have e1 : rd [p, q, r] 1 = q := rfl
  have e2 : rd [p, q, r] 2 = r := rfl
  constructor
  · intro h
    have h0 := h 0 (by omega) (by show (0 : Int) < 3; decide)
    have h1 := h 1 (by omega) (by show (1 : Int) < 3; decide)
    have h2 := h 2 (by omega) (by show (2 : Int) < 3; decide)
    have a := h1.2 0 (by omega) (by omega)
    have b := h2.2 0 (by omega) (by omega)
    have c := h2.2 1 (by omega) (by omega)
    rw [e0, e1] at a
    rw [e0, e2] at b
    rw [e1, e2] at c
    exact ⟨h0.1, h1.1, h2.1, a, b, c⟩
  · rintro ⟨hp, hq, hr, a, b, c⟩ i i0 i1
    have i1 : i < 3 := i1
    rcases (show i = 0 ∨ i = 1 ∨ i = 2 by omega) with rfl | rfl | rfl
    · exact ⟨hp, fun j j0 j1 => by omega⟩
    · refine ⟨hq, fun j j0 j1 => ?_⟩
      obtain rfl : j = 0 := by omega
      exact a
    · refine ⟨hr, fun j j0 j1 => ?_⟩
      rcases (show j = 0 ∨ j = 1 by omega) with rfl | rfl
      · exact b
      · exact c
theorem three_impl_both {t : List Int} (p q r : Int) :
    ∃ b : Bool, Ev (fun k => impl_PlaneThree.f k t p q r) b ∧ (b = true ↔ sysI t = true ∧ (Rg p ∧ Rg q ∧ Rg r ∧ p ≠ q ∧ p ≠ r ∧ q ≠ r) ∧ threeI (mOf t) p q r = true) := by
  unfold impl_PlaneThree.f
  rw [isSys_some]
  obtain ⟨d, hd, hdf⟩ := dif_impl (xs := [p, q, r]) (by show (3 : Int) ≤ _; decide)
  rw [dif3] at hdf
  cases hs : sysI t with
  | false => exact ⟨false, Ev.some' (Ev.neg (by decide) (Ev.now _)), by simp⟩
  | true =>
    cases d with
    | true =>
      obtain ⟨hp, hq, hr, a, b, c⟩ := hdf.mp rfl
      exact ⟨threeI (mOf t) p q r, Ev.some' (Ev.pos rfl (Ev.bind hd (Ev.pos rfl (Ev.bind (three_impl hs hp hq hr a) (Ev.now _))))), by simp [hp, hq, hr, a, b, c]⟩
    | false =>
      have hn : ¬ (Rg p ∧ Rg q ∧ Rg r ∧ p ≠ q ∧ p ≠ r ∧ q ≠ r) := fun h => by have := hdf.mpr h; cases this
      exact ⟨false, Ev.some' (Ev.pos rfl (Ev.bind hd (Ev.neg (by decide) (Ev.now _)))), ⟨fun h => (by cases h), fun h => absurd h.2.1 hn⟩⟩

end Go.Proofs.Ytiobhhcbdcbajaa.Pure
