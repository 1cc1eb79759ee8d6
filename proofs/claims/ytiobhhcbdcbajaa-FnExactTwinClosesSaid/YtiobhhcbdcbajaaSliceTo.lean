/- The copy of a list that the laws make is the list itself. Conditions: the list's length is at most 35184372088832. -/
import Derived.Test.YtiobhhcbdcbajaaEvLoop
import Derived.Test.YtiobhhcbdcbajaaPx2
set_option linter.unusedVariables false
set_option linter.unusedSimpArgs false
namespace Go.Proofs.Ytiobhhcbdcbajaa.Pure
open Go.RowKit Go.Proofs.Ytiobhhcbdcbajaa.P Go.Proofs.YtiobhhcbdcbajaaW.PrintWords Go.Proofs.YtiobhhcbdcbajaaW.PrintLast

theorem to_step (l : List Int) (n : Nat) (h : n < l.length) : (l.take n ++ List.replicate (l.length - n) 0).set n (rd l n) = l.take (n + 1) ++ List.replicate (l.length - (n + 1)) 0 := by
  have e : (l.take n).length = n := by rw [List.length_take]; omega
  rw [List.set_append_right _ _ (by omega), e, Nat.sub_self]
  obtain ⟨m, hm⟩ : ∃ m, l.length - n = m + 1 := ⟨l.length - n - 1, by omega⟩
  have hm' : l.length - (n + 1) = m := by omega
  rw [hm, hm', List.replicate_succ, List.set_cons_zero, List.take_succ_eq_append_getElem h, List.append_assoc]
  congr 2
  unfold rd
  rw [Int.toNat_natCast, List.getD_eq_getElem?_getD, List.getElem?_eq_getElem h]
  rfl
theorem to_ev {l : List Int} (hl : (l.length : Int) ≤ 35184372088832) : Ev (fun k => laws_toIntS.f k l) l := by
  refine Ev.pos (by omega) (Ev.pos (by omega) ?_)
  have key : ∀ m n : Nat, n + m = l.length → Ev (fun k => laws_toIntS.l0 k l (l.take n ++ List.replicate (l.length - n) 0) n) l := by
    intro m
    induction m with
    | zero =>
      intro n hn
      have : n = l.length := by omega
      subst this
      refine Ev.step (fun k => laws_toIntS.l0.eq_2 ..) ?_
      refine Ev.neg (by omega) ?_
      rw [List.take_length, Nat.sub_self, List.replicate_zero, List.append_nil]
      exact Ev.now _
    | succ m ih =>
      intro n hn
      have e : (l.take n ++ List.replicate (l.length - n) (0 : Int)).length = l.length := by rw [List.length_append, List.length_take, List.length_replicate]; omega
      refine Ev.step (fun k => laws_toIntS.l0.eq_2 ..) ?_
      rw [e, w64 (n := (n : Int) + 1) (by omega) (by omega), Int.toNat_natCast, to_step l n (by omega)]
      refine Ev.pos (by omega) (Ev.pos (by omega) (Ev.pos (by omega) ?_))
      have := ih (n + 1) (by omega)
      rw [Int.natCast_add, Int.natCast_one] at this
      exact this
  have := key l.length 0 (by omega)
  simpa using this

end Go.Proofs.Ytiobhhcbdcbajaa.Pure
