/- What the reference computes of a table: whether it is a system, solved products, centre and kernel, in terms of the tests that the program's own functions are told by. Conditions: the table's length is an int's, and where it says so the table is one of 81 elements. -/
import Derived.Test.YtiobhhcbdcbajaaEvLoop
import Derived.Test.YtiobhhcbdcbajaaPx4
import Derived.Test.YtiobhhcbdcbajaaPx1
import Derived.Test.YtiobhhcbdcbajaaPx5
import Derived.Test.YtiobhhcbdcbajaaPx6
set_option linter.unusedVariables false
set_option linter.unusedSimpArgs false
namespace Go.Proofs.Ytiobhhcbdcbajaa.Pure
open Go.RowKit Go.Proofs.Ytiobhhcbdcbajaa.P Go.Proofs.YtiobhhcbdcbajaaW.PrintWords Go.Proofs.YtiobhhcbdcbajaaW.PrintLast

theorem in_spec {a : Int} (h : 0 ≤ a ∧ a ≤ 8) : spec_l1In.f a = some true := by
  unfold spec_l1In.f spec_l6In.f
  rw [if_pos (by omega), decide_eq_true (by omega)]
  rfl
theorem out_spec {a : Int} (h : ¬ (0 ≤ a ∧ a ≤ 8)) : spec_l1In.f a = some false := by
  unfold spec_l1In.f spec_l6In.f
  split
  · rw [decide_eq_false (by omega)]
    rfl
  · rfl
theorem mem_rd {l : List Int} {a : Int} (h : a ∈ l) : ∃ i : Int, 0 ≤ i ∧ i < l.length ∧ rd l i = a := by
  obtain ⟨n, hn, e⟩ := List.getElem_of_mem h
  refine ⟨n, by omega, by omega, ?_⟩
  unfold rd
  rw [List.getD_eq_getElem?_getD, List.getElem?_eq_getElem (show (n : Int).toNat < l.length by omega)]
  exact e
theorem rd_of_lt {l : List Int} {i : Int} (h0 : 0 ≤ i) (h1 : i < l.length) : rd l i ∈ l := by
  unfold rd
  rw [List.getD_eq_getElem?_getD, List.getElem?_eq_getElem (show i.toNat < l.length by omega)]
  exact List.getElem_mem _
theorem len81 {l : List Int} (h : nines l 81 = true) : (l.length : Int) = 81 := (nines_iff.mp h).1

theorem table_ev {l : List Int} (hl : (l.length : Int) ≤ 9223372036854775806) : Ev (fun k => spec_l2Table.f k l) (nines l 81) := by
  have hq : (l.all fun a => decide (0 ≤ a) && decide (a < 9)) = true ↔ ∀ j : Int, 0 ≤ j → j < l.length → (decide (0 ≤ rd l j) && decide (rd l j < 9)) = true := by
    rw [List.all_eq_true]
    refine ⟨fun h j h0 h1 => h _ (rd_of_lt h0 h1), fun h a ha => ?_⟩
    obtain ⟨i, i0, i1, rfl⟩ := mem_rd ha
    exact h i i0 i1
  refine loop_if (g := fun k i => spec_l2Table.l0 k l i) (N := l.length) (p := fun j => decide (0 ≤ rd l j) && decide (rd l j < 9)) (r := ((l.length : Int) == 81)) (stop := false) (by omega) ?_ ?_ ?_ hq ?_
  · intro s i h0 h1 hp h
    simp only [Bool.and_eq_true, decide_eq_true_eq] at hp
    refine Ev.step (fun k => spec_l2Table.l0.eq_2 ..) ?_
    refine Ev.pos h1 (Ev.pos h0 ?_)
    rw [in_spec (by omega)]
    refine Ev.some' (Ev.pos rfl ?_)
    rw [w1 h0 (by omega)]
    exact h
  · intro i h0 h1 hp
    refine Ev.step (fun k => spec_l2Table.l0.eq_2 ..) ?_
    refine Ev.pos h1 (Ev.pos h0 ?_)
    rw [out_spec (by simp only [Bool.and_eq_false_iff, decide_eq_false_iff_not] at hp; omega)]
    exact Ev.some' (Ev.neg (by decide) (Ev.now _))
  · intro _
    refine Ev.step (fun k => spec_l2Table.l0.eq_2 ..) ?_
    exact Ev.neg (by omega) (Ev.now _)
  · unfold nines
    cases (l.all fun a => decide (0 ≤ a) && decide (a < 9)) with
    | true => rw [Bool.and_true, if_pos rfl]; rfl
    | false => rw [Bool.and_false]; rfl

theorem units_ev {l : List Int} (hn : nines l 81 = true) : Ev (fun k => spec_l2Units.f k l) (e9.all (unitI l)) := by
  have hl := len81 hn
  refine loop_if (g := fun k i => spec_l2Units.l0 k l i) (N := 9) (p := unitI l) (r := true) (stop := false) (by omega) ?_ ?_ ?_ (q := e9.all (unitI l)) (by rw [all9_iff]; exact ⟨fun h j h0 h1 => h j h0 (by omega), fun h j h0 h1 => h j h0 (by omega)⟩) (by cases e9.all (unitI l) <;> rfl)
  · intro s i h0 h1 hp h
    simp only [unitI, Bool.and_eq_true, decide_eq_true_eq] at hp
    obtain ⟨⟨⟨p1, p2⟩, p3⟩, p4⟩ := hp
    refine Ev.step (fun k => spec_l2Units.l0.eq_2 ..) ?_
    rw [w9 h0 (by omega), w9a h0 (by omega), w64 (n := 9 * i + 1) (by omega) (by omega), w1 h0 (by omega)]
    refine Ev.pos h1 (Ev.pos h0 (Ev.pos (by omega) (Ev.pos p1 (Ev.pos (by omega) (Ev.pos (by omega) (Ev.pos p2 (Ev.pos (by omega) (Ev.pos (by omega) (Ev.pos p3 (Ev.pos (by omega) (Ev.pos (by omega) (Ev.pos p4 ?_))))))))))))
    exact h
  · intro i h0 h1 hp
    refine Ev.step (fun k => spec_l2Units.l0.eq_2 ..) ?_
    rw [w9 h0 (by omega), w9a h0 (by omega), w64 (n := 9 * i + 1) (by omega) (by omega)]
    refine Ev.pos h1 (Ev.pos h0 (Ev.pos (by omega) ?_))
    by_cases p1 : rd l i = 0
    · refine Ev.pos p1 (Ev.pos (by omega) (Ev.pos (by omega) ?_))
      by_cases p2 : rd l (9 * i) = 0
      · refine Ev.pos p2 (Ev.pos (by omega) (Ev.pos (by omega) ?_))
        by_cases p3 : rd l (9 + i) = i
        · refine Ev.pos p3 (Ev.pos (by omega) (Ev.pos (by omega) ?_))
          by_cases p4 : rd l (9 * i + 1) = i
          · simp [unitI, p1, p2, p3, p4] at hp
          · exact Ev.neg p4 (Ev.now _)
        · exact Ev.neg p3 (Ev.now _)
      · exact Ev.neg p2 (Ev.now _)
    · exact Ev.neg p1 (Ev.now _)
  · intro _
    refine Ev.step (fun k => spec_l2Units.l0.eq_2 ..) ?_
    exact Ev.neg (by omega) (Ev.now _)

theorem solves_some {l : List Int} (hn : nines l 81 = true) {c d : Int} (c0 : 0 ≤ c) (c1 : c ≤ 8) (d0 : 0 ≤ d) (d1 : d ≤ 8) : spec_l2Solves.f l c d = some (once (lessI l c d)) := by
  unfold spec_l2Solves.f
  rw [if_pos ⟨hn, c0, c1, d0, d1⟩]
theorem solve_ev {l : List Int} (hn : nines l 81 = true) : Ev (fun k => spec_SystemIn.l0 k l 0) (solveI l) := by
  refine loop_if (g := fun k i => spec_SystemIn.l0 k l i) (N := 9) (p := fun c => e9.all fun d => !(decide (d < c)) || once (lessI l c d)) (r := true) (stop := false) (by omega) ?_ ?_ ?_ (q := solveI l) (by unfold solveI; rw [all9_iff]; exact ⟨fun h j h0 h1 => h j h0 (by omega), fun h j h0 h1 => h j h0 (by omega)⟩) (by cases solveI l <;> rfl)
  · intro s c c0 c1 hp h
    have hp := all9_iff.mp hp
    refine Ev.step (fun k => spec_SystemIn.l0.eq_2 ..) ?_
    refine Ev.pos c1 ?_
    refine loop_all (g := fun k i => spec_SystemIn.l1 k l c i) (N := c) (p := fun d => once (lessI l c d)) c0 ?_ (fun d d0 d1 => by have := hp d d0 (by omega); rw [decide_eq_true d1] at this; exact this) ?_
    · intro d d0 d1 hd h
      refine Ev.step (fun k => spec_SystemIn.l1.eq_2 ..) ?_
      refine Ev.pos d1 ?_
      rw [solves_some hn c0 (by omega) d0 (by omega), hd]
      refine Ev.some' (Ev.pos rfl ?_)
      rw [w1 d0 (by omega)]
      exact h
    · refine Ev.step (fun k => spec_SystemIn.l1.eq_2 ..) ?_
      refine Ev.neg (by omega) ?_
      rw [w1 c0 (by omega)]
      exact h
  · intro c c0 c1 hp
    refine Ev.step (fun k => spec_SystemIn.l0.eq_2 ..) ?_
    refine Ev.pos c1 ?_
    have : ∃ d, 0 ≤ d ∧ d < c ∧ once (lessI l c d) = false := Classical.byContradiction fun hn' => by
      have : (e9.all fun d => !(decide (d < c)) || once (lessI l c d)) = true := all9_iff.mpr fun d d0 d1 => by
        by_cases hd : d < c
        · cases ho : once (lessI l c d) with
          | true => simp
          | false => exact absurd ⟨d, d0, hd, ho⟩ hn'
        · simp [hd]
      rw [this] at hp
      cases hp
    obtain ⟨d, d0, d1, hd⟩ := this
    refine loop_stop (g := fun k i => spec_SystemIn.l1 k l c i) (N := c) (p := fun d => once (lessI l c d)) ?_ ?_ d0 d1 hd
    · intro d d0 d1 hd h
      refine Ev.step (fun k => spec_SystemIn.l1.eq_2 ..) ?_
      refine Ev.pos d1 ?_
      rw [solves_some hn c0 (by omega) d0 (by omega), hd]
      refine Ev.some' (Ev.pos rfl ?_)
      rw [w1 d0 (by omega)]
      exact h
    · intro d d0 d1 hd
      refine Ev.step (fun k => spec_SystemIn.l1.eq_2 ..) ?_
      refine Ev.pos d1 ?_
      rw [solves_some hn c0 (by omega) d0 (by omega), hd]
      exact Ev.some' (Ev.neg (by decide) (Ev.now _))
  · intro _
    refine Ev.step (fun k => spec_SystemIn.l0.eq_2 ..) ?_
    exact Ev.neg (by omega) (Ev.now _)
/-- The reference's SystemIn tells what the program's tells. -/
theorem sysIn_ev {l : List Int} (hl : (l.length : Int) ≤ 9223372036854775806) : Ev (fun k => spec_SystemIn.f k l) (sysI l) := by
  have no : Ev (fun k => spec_SystemIn.j0 k l true) false := Ev.step (fun k => spec_SystemIn.j0.eq_2 ..) (Ev.pos rfl (Ev.now _))
  unfold spec_SystemIn.f
  refine Ev.bind (table_ev hl) ?_
  unfold sysI
  cases hn : nines l 81 with
  | false => exact Ev.neg (by decide) no
  | true =>
    refine Ev.pos rfl (Ev.bind (units_ev hn) ?_)
    cases hu : e9.all (unitI l) with
    | false => exact Ev.neg (by decide) no
    | true =>
      refine Ev.pos rfl ?_
      rw [show spec_l2Shares.f l = some (all3 (shareI l)) by unfold spec_l2Shares.f; rw [if_pos hn]]
      refine Ev.some' ?_
      cases hs : all3 (shareI l) with
      | false => exact no
      | true =>
        refine Ev.step (fun k => spec_SystemIn.j0.eq_2 ..) (Ev.neg (by decide) ?_)
        exact solve_ev hn

end Go.Proofs.Ytiobhhcbdcbajaa.Pure
