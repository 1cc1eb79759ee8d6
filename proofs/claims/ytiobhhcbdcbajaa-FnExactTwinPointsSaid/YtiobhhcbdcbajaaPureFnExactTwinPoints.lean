/- The program's TwinPoints and the reference's are equal at all lists, a new list each time, and the lists stay as they were. No conditions. -/
import Derived.Test.YtiobhhcbdcbajaaPx40
import Derived.Test.YtiobhhcbdcbajaaTwinPts
import Derived.Test.YtiobhhcbdcbajaaSliceTo
import Derived.Test.YtiobhhcbdcbajaaSliceEq
set_option linter.unusedVariables false
set_option linter.unusedSimpArgs false
namespace Go.Proofs.Ytiobhhcbdcbajaa.Pure
open Go.RowKit Go.Proofs.Ytiobhhcbdcbajaa.P Go.Proofs.Ytiobhhcbdcbajaa.Nine Go.Proofs.YtiobhhcbdcbajaaW.PrintWords Go.Proofs.YtiobhhcbdcbajaaW.PrintLast

theorem mark_from {l : List Int} (hl : (l.length : Int) ≤ 9223372036854775806) {a : Int} (a0 : 0 ≤ a) (a1 : a + l.length ≤ 9223372036854775806) : ∃ ys, Ev (fun k => laws_markIntS.f k l a) (a + l.length, ys) := by
  have key : ∀ m n : Nat, n + m = l.length → ∀ xs : List Int, xs.length = l.length → ∃ ys, Ev (fun k => laws_markIntS.l0 k xs (a + n) n) (a + l.length, ys) := by
    intro m
    induction m with
    | zero =>
      intro n hn xs hx
      refine ⟨xs, Ev.step (fun k => laws_markIntS.l0.eq_2 ..) (Ev.neg (by omega) ?_)⟩
      rw [show (a + (n : Int)) = a + l.length by omega]
      exact Ev.now _
    | succ m ih =>
      intro n hn xs hx
      obtain ⟨ys, hy⟩ := ih (n + 1) (by omega) (xs.set n (a + n)) (by rw [List.length_set]; exact hx)
      refine ⟨ys, Ev.step (fun k => laws_markIntS.l0.eq_2 ..) (Ev.pos (by omega) (Ev.pos (by omega) ?_))⟩
      rw [w64 (n := a + (n : Int) + 1) (by omega) (by omega), w64 (n := (n : Int) + 1) (by omega) (by omega), Int.toNat_natCast]
      rw [Int.natCast_add, Int.natCast_one, ← Int.add_assoc] at hy
      exact hy
  have := key l.length 0 (by omega) l rfl
  unfold laws_markIntS.f
  simpa using this
theorem FnExactTwinPoints : laws_FnExactTwinPoints.Pure := by
  intro l xs _ _ _ _ _ _
  apply Ev.rounds
  unfold laws_FnExactTwinPoints.f
  by_cases hz : (l.length : Int) > 1048576
  · exact Ev.pos hz (Ev.now _)
  · refine Ev.neg hz ?_
    by_cases hy : (xs.length : Int) > 1048576
    · exact Ev.pos hy (Ev.now _)
    · have hT := to_ev (l := l) (by omega)
      have hX := to_ev (l := xs) (by omega)
      obtain ⟨r, hs, hi, hr⟩ := twinPoints_both (l := l) (by omega) xs (by omega)
      have hn : (r.1.length : Int) ≤ 3 := hr.1
      clear hr
      obtain ⟨x, b⟩ := r
      have hb : ¬ (b != b) = true := by cases b <;> decide
      simp only at hn
      have hx : (x.length : Int) ≤ 9223372036854775806 := by omega
      have el : Ev (fun k => laws_eqIntS.f k l l) true := eq_ev (by omega)
      have ex : Ev (fun k => laws_eqIntS.f k xs xs) true := eq_ev (by omega)
      obtain ⟨ys, hm⟩ := mark_from (l := xs) (by omega) (a := (l.length : Int) + 1) (by omega) (by omega)
      refine Ev.neg hy (Ev.bind hT (Ev.bind hX (Ev.bind hs (Ev.bind hT (Ev.bind hX (Ev.bind hi (Ev.bind (eq_ev hx) (Ev.pos rfl ?_))))))))
      refine Ev.step (fun k => laws_FnExactTwinPoints.j0.eq_2 ..) (Ev.neg hb (Ev.bind hT (Ev.bind el (Ev.pos rfl (Ev.bind hX (Ev.bind ex (Ev.pos rfl (Ev.bind (mark_ev (by omega)) (Ev.bind hm (Ev.neg (by show ¬ ((l.length : Int) + 1 + xs.length < 0); omega) (Ev.bind (eq_ev hx) (Ev.pos rfl ?_))))))))))))
      refine Ev.step (fun k => laws_FnExactTwinPoints.j1.eq_2 ..) (Ev.neg hb (Ev.bind (mark_ev hx) (Ev.bind (held_ev hx) (Ev.neg (by show ¬ ((x.length : Int) + 1 < 0); omega) (Ev.pos rfl (Ev.bind hT (Ev.bind hX (Ev.bind hi (Ev.bind (eq_ev hx) (Ev.pos rfl ?_))))))))))
      exact Ev.step (fun k => laws_FnExactTwinPoints.j2.eq_2 ..) (Ev.neg hb (Ev.bind (held_ev hx) (Ev.neg (by show ¬ ((x.length : Int) + 1 < 0); omega) (Ev.pos rfl (Ev.now _)))))

end Go.Proofs.Ytiobhhcbdcbajaa.Pure
