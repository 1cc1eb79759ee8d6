/- Lists that are compared, marked and looked up again: what the laws' helpers compute. Conditions: the list's length is well inside the range of an int. -/
import Derived.Test.YtiobhhcbdcbajaaEvLoop
import Derived.Test.YtiobhhcbdcbajaaPx2
set_option linter.unusedVariables false
set_option linter.unusedSimpArgs false
namespace Go.Proofs.Ytiobhhcbdcbajaa.Pure
open Go.RowKit Go.Proofs.Ytiobhhcbdcbajaa.P Go.Proofs.YtiobhhcbdcbajaaW.PrintWords Go.Proofs.YtiobhhcbdcbajaaW.PrintLast

/-- A list equals itself. -/
theorem eq_ev {l : List Int} (hl : (l.length : Int) ≤ 9223372036854775806) : Ev (fun k => laws_eqIntS.f k l l) true := by
  refine Ev.pos rfl ?_
  refine loop_all (g := fun k i => laws_eqIntS.l0 k l l i) (N := l.length) (p := fun _ => true) (by omega) ?_ (fun _ _ _ => rfl) ?_
  · intro i h0 h1 _ h
    refine Ev.step (fun k => laws_eqIntS.l0.eq_2 ..) ?_
    refine Ev.pos h1 (Ev.pos h0 (Ev.pos h1 (Ev.pos rfl ?_)))
    rw [w1 h0 (by omega)]
    exact h
  · refine Ev.step (fun k => laws_eqIntS.l0.eq_2 ..) ?_
    exact Ev.neg (by omega) (Ev.now _)
/-- The list of numbers that marks a list of n. -/
def marks (n : Nat) : List Int := (List.range n).map fun j : Nat => (j : Int) + 1
theorem marks_len (n : Nat) : (marks n).length = n := by simp [marks]
theorem marks_set (l : List Int) (n : Nat) (h : n < l.length) : (marks n ++ l.drop n).set n ((n : Int) + 1) = marks (n + 1) ++ l.drop (n + 1) := by
  rw [List.set_append_right _ _ (by rw [marks_len]; omega), marks_len, Nat.sub_self, List.drop_eq_getElem_cons h, List.set_cons_zero]
  simp [marks, List.range_succ]
theorem mark_ev {l : List Int} (hl : (l.length : Int) ≤ 9223372036854775806) : Ev (fun k => laws_markIntS.f k l 1) ((l.length : Int) + 1, marks l.length) := by
  have key : ∀ m n : Nat, n + m = l.length → Ev (fun k => laws_markIntS.l0 k (marks n ++ l.drop n) ((n : Int) + 1) n) ((l.length : Int) + 1, marks l.length) := by
    intro m
    induction m with
    | zero =>
      intro n hn
      have : n = l.length := by omega
      subst this
      refine Ev.step (fun k => laws_markIntS.l0.eq_2 ..) ?_
      refine Ev.neg (by simp [marks_len]) ?_
      rw [List.drop_length, List.append_nil]
      exact Ev.now _
    | succ m ih =>
      intro n hn
      have e : (marks n ++ l.drop n).length = l.length := by rw [List.length_append, marks_len, List.length_drop]; omega
      refine Ev.step (fun k => laws_markIntS.l0.eq_2 ..) ?_
      rw [e, w64 (n := (n : Int) + 1 + 1) (by omega) (by omega), w64 (n := (n : Int) + 1) (by omega) (by omega), Int.toNat_natCast, marks_set l n (by omega)]
      refine Ev.pos (by omega) (Ev.pos (by omega) ?_)
      have := ih (n + 1) (by omega)
      rw [Int.natCast_add, Int.natCast_one] at this
      exact this
  have := key l.length 0 (by omega)
  unfold laws_markIntS.f
  simpa [marks] using this
theorem rd_marks {n : Nat} {i : Int} (h0 : 0 ≤ i) (h1 : i < n) : rd (marks n) i = i + 1 := by
  unfold rd
  rw [List.getD_eq_getElem?_getD, List.getElem?_eq_getElem (show i.toNat < (marks n).length by rw [marks_len]; omega)]
  simp only [marks, List.getElem_map, List.getElem_range, Option.getD_some]
  omega
theorem held_ev {n : Nat} (hl : (n : Int) ≤ 9223372036854775806) : Ev (fun k => laws_heldIntS.f k (marks n) 1) ((n : Int) + 1) := by
  refine loop_gather (g := fun k x i => laws_heldIntS.l0 k (marks n) x i) (N := n) (acc := fun i => i + 1) (by omega) ?_ ?_
  · intro i h0 h1 h
    refine Ev.step (fun k => laws_heldIntS.l0.eq_2 ..) ?_
    rw [marks_len, w64 (n := i + 1 + 1) (by omega) (by omega), w1 h0 (by omega)]
    refine Ev.pos h1 (Ev.pos h0 (Ev.pos (rd_marks h0 h1) ?_))
    exact h
  · refine Ev.step (fun k => laws_heldIntS.l0.eq_2 ..) ?_
    rw [marks_len]
    exact Ev.neg (by omega) (Ev.now _)

end Go.Proofs.Ytiobhhcbdcbajaa.Pure
