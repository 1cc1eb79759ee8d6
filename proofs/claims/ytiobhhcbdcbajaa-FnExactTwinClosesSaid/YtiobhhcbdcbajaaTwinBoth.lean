/- Pairs of triangles: the program and the reference tell the same. Conditions: the table's length is an int's. -/
import Derived.Test.YtiobhhcbdcbajaaClosing
import Derived.Test.YtiobhhcbdcbajaaPx16
import Derived.Test.YtiobhhcbdcbajaaPx28
import Derived.Test.YtiobhhcbdcbajaaPx29
import Derived.Test.YtiobhhcbdcbajaaPx30
set_option linter.unusedVariables false
set_option linter.unusedSimpArgs false
namespace Go.Proofs.Ytiobhhcbdcbajaa.Pure
open Go.RowKit Go.Proofs.Ytiobhhcbdcbajaa.P Go.Proofs.Ytiobhhcbdcbajaa.Nine Go.Proofs.YtiobhhcbdcbajaaW.PrintWords Go.Proofs.YtiobhhcbdcbajaaW.PrintLast

/-- A centre and two triangles, three different lines through the centre. -/
def TwinP (m : Fin 9 → Fin 9 → Fin 9) (xs : List Int) : Prop :=
  (xs.length : Int) = 7 ∧ Dif xs ∧ threeI m (rd xs 1) (rd xs 2) (rd xs 3) = false ∧ threeI m (rd xs 4) (rd xs 5) (rd xs 6) = false ∧ (threeI m (rd xs 0) (rd xs 1) (rd xs 4) = true ∧ threeI m (rd xs 0) (rd xs 2) (rd xs 5) = true ∧ threeI m (rd xs 0) (rd xs 3) (rd xs 6) = true) ∧ joinI m (rd xs 0) (rd xs 1) ≠ joinI m (rd xs 0) (rd xs 2) ∧ joinI m (rd xs 0) (rd xs 1) ≠ joinI m (rd xs 0) (rd xs 3) ∧ joinI m (rd xs 0) (rd xs 2) ≠ joinI m (rd xs 0) (rd xs 3)
theorem no_iff {P : Prop} (h : ¬ P) : (false = true ↔ P) := ⟨fun z => (by cases z), fun z => absurd z h⟩
theorem twinIn_impl {l : List Int} (h : sysI l = true) (xs : List Int) : ∃ b : Bool, Ev (fun k => impl_plane_isTwin.f k l xs) b ∧ (b = true ↔ TwinP (mOf l) xs) := by
  unfold impl_plane_isTwin.f
  by_cases h7 : (xs.length : Int) = 7
  · obtain ⟨d, hd, hdf⟩ := dif_impl (xs := xs) (by omega)
    cases d with
    | false => exact ⟨false, Ev.pos h7 (Ev.bind hd (Ev.neg (by decide) (Ev.now _))), no_iff fun z => by have := hdf.mpr z.2.1; cases this⟩
    | true =>
      have D := hdf.mp rfl
      have R : ∀ i : Int, 0 ≤ i → i < 7 → Rg (rd xs i) := fun i i0 i1 => (D i i0 (by omega)).1
      have N : ∀ i j : Int, 0 ≤ i → i < 7 → 0 ≤ j → j < 7 → i ≠ j → rd xs i ≠ rd xs j := fun i j i0 i1 j0 j1 hne => dif_at D i0 j0 (by omega) (by omega) hne
      have S := sysI_s h
      have t1 := three_impl h (R 1 (by omega) (by omega)) (R 2 (by omega) (by omega)) (R 3 (by omega) (by omega)) (N 1 2 (by omega) (by omega) (by omega) (by omega) (by omega))
      have t2 := three_impl h (R 4 (by omega) (by omega)) (R 5 (by omega) (by omega)) (R 6 (by omega) (by omega)) (N 4 5 (by omega) (by omega) (by omega) (by omega) (by omega))
      cases e1 : threeI (mOf l) (rd xs 1) (rd xs 2) (rd xs 3) with
      | true =>
        rw [e1] at t1
        exact ⟨false, Ev.pos h7 (Ev.bind hd (Ev.pos rfl (Ev.bind t1 (Ev.pos rfl (Ev.now _))))), no_iff fun z => by have := z.2.2.1; rw [e1] at this; cases this⟩
      | false =>
        rw [e1] at t1
        cases e2 : threeI (mOf l) (rd xs 4) (rd xs 5) (rd xs 6) with
        | true =>
          rw [e2] at t2
          exact ⟨false, Ev.pos h7 (Ev.bind hd (Ev.pos rfl (Ev.bind t1 (Ev.neg (by decide) (Ev.bind t2 (Ev.pos rfl (Ev.now _))))))), no_iff fun z => by have := z.2.2.2.1; rw [e2] at this; cases this⟩
        | false =>
          rw [e2] at t2
          -- one round: the line, the point on it, and the lines before
          have st : ∀ (i : Int) (ys : List Int), 1 ≤ i → i ≤ 3 → (ys.length : Int) ≤ 9 → ∀ s, (threeI (mOf l) (rd xs 0) (rd xs i) (rd xs (i + 3)) = true → joinI (mOf l) (rd xs 0) (rd xs i) ∉ ys → Ev (fun k => impl_plane_isTwin.l0 k l xs (ys ++ [joinI (mOf l) (rd xs 0) (rd xs i)]) (i + 1)) s) → (¬ (threeI (mOf l) (rd xs 0) (rd xs i) (rd xs (i + 3)) = true ∧ joinI (mOf l) (rd xs 0) (rd xs i) ∉ ys) → s = false) → Ev (fun k => impl_plane_isTwin.l0 k l xs ys i) s := fun i ys i0 i1 hy s hgo hno => by
            have J := S.join_spec (R 0 (by omega) (by omega)) (R i (by omega) (by omega)) (N 0 i (by omega) (by omega) (by omega) (by omega) (by omega))
            refine Ev.step (fun k => impl_plane_isTwin.l0.eq_2 ..) (Ev.pos i1 (Ev.bind (join_impl (sysI_n h) (R 0 (by omega) (by omega)) (R i (by omega) (by omega))) ?_))
            rw [on_impl (sysI_n h) (R (i + 3) (by omega) (by omega)) J.1]
            refine Ev.some' ?_
            cases e : onI (mOf l) (rd xs (i + 3)) (joinI (mOf l) (rd xs 0) (rd xs i)) with
            | false =>
              rw [hno fun z => by have := z.1; unfold threeI at this; rw [e] at this; cases this]
              exact Ev.neg (by decide) (Ev.now _)
            | true =>
              refine Ev.pos rfl (Ev.bind (contains_ev (by omega) _) ?_)
              by_cases hm : joinI (mOf l) (rd xs 0) (rd xs i) ∈ ys
              · rw [hno fun z => z.2 hm]
                exact Ev.pos (decide_eq_true hm) (Ev.now _)
              · exact Ev.neg (by rw [decide_eq_false hm]; decide) (hgo e hm)
          by_cases hp : (threeI (mOf l) (rd xs 0) (rd xs 1) (rd xs 4) = true ∧ threeI (mOf l) (rd xs 0) (rd xs 2) (rd xs 5) = true ∧ threeI (mOf l) (rd xs 0) (rd xs 3) (rd xs 6) = true) ∧ joinI (mOf l) (rd xs 0) (rd xs 1) ≠ joinI (mOf l) (rd xs 0) (rd xs 2) ∧ joinI (mOf l) (rd xs 0) (rd xs 1) ≠ joinI (mOf l) (rd xs 0) (rd xs 3) ∧ joinI (mOf l) (rd xs 0) (rd xs 2) ≠ joinI (mOf l) (rd xs 0) (rd xs 3)
          · refine ⟨true, Ev.pos h7 (Ev.bind hd (Ev.pos rfl (Ev.bind t1 (Ev.neg (by decide) (Ev.bind t2 (Ev.neg (by decide) ?_)))))), ⟨fun _ => ⟨h7, D, e1, e2, hp⟩, fun _ => rfl⟩⟩
            refine st 1 [] (by omega) (by omega) (by decide) true (fun _ _ => ?_) (fun z => absurd ⟨hp.1.1, by simp⟩ z)
            refine st 2 [_] (by omega) (by omega) (by show (1 : Int) ≤ 9; decide) true (fun _ _ => ?_) (fun z => absurd ⟨hp.1.2.1, by simpa using Ne.symm hp.2.1⟩ z)
            refine st 3 [_, _] (by omega) (by omega) (by show (2 : Int) ≤ 9; decide) true (fun _ _ => ?_) (fun z => absurd ⟨hp.1.2.2, by simpa using ⟨Ne.symm hp.2.2.1, Ne.symm hp.2.2.2⟩⟩ z)
            exact Ev.step (fun k => impl_plane_isTwin.l0.eq_2 ..) (Ev.neg (by decide) (Ev.now _))
          · refine ⟨false, Ev.pos h7 (Ev.bind hd (Ev.pos rfl (Ev.bind t1 (Ev.neg (by decide) (Ev.bind t2 (Ev.neg (by decide) ?_)))))), no_iff fun z => hp z.2.2.2.2⟩
            refine st 1 [] (by omega) (by omega) (by decide) false (fun a1 _ => ?_) (fun _ => rfl)
            refine st 2 [_] (by omega) (by omega) (by show (1 : Int) ≤ 9; decide) false (fun a2 b2 => ?_) (fun _ => rfl)
            refine st 3 [_, _] (by omega) (by omega) (by show (2 : Int) ≤ 9; decide) false (fun a3 b3 => ?_) (fun _ => rfl)
            simp only [List.nil_append, List.mem_singleton] at b2
            simp only [List.nil_append, List.cons_append, List.mem_cons, List.not_mem_nil, or_false, not_or] at b3
            exact absurd ⟨⟨a1, a2, a3⟩, fun e => b2 e.symm, fun e => b3.1 e.symm, fun e => b3.2 e.symm⟩ hp
  · exact ⟨false, Ev.neg h7 (Ev.now _), no_iff fun z => h7 z.1⟩
theorem twinIn_both {l : List Int} (hl : (l.length : Int) ≤ 9223372036854775806) (xs : List Int) (hx : (xs.length : Int) ≤ 9223372036854775806) :
    ∃ b : Bool, Ev (fun k => spec_TwinIn.f k l xs) b ∧ Ev (fun k => impl_TwinIn.f k l xs) b ∧ (b = true ↔ sysI l = true ∧ TwinP (mOf l) xs) := by
  unfold spec_TwinIn.f impl_TwinIn.f
  rw [isSys_some]
  cases hs : sysI l with
  | false => exact ⟨false, Ev.bind (sysIn_ev hl) (by rw [hs]; exact Ev.neg (by decide) (Ev.now _)), Ev.some' (Ev.neg (by decide) (Ev.now _)), by simp⟩
  | true =>
    obtain ⟨b, hb, hbi⟩ := twinIn_impl hs xs
    refine ⟨b, Ev.bind (sysIn_ev hl) (Ev.pos hs ?_), Ev.some' (Ev.pos rfl (Ev.bind hb (Ev.now _))), by rw [hbi]; simp⟩
    have isf : ¬ TwinP (mOf l) xs → b = false := fun z => Bool.eq_false_iff.mpr fun e => z (hbi.mp e)
    by_cases h7 : (xs.length : Int) = 7
    · refine Ev.pos h7 ?_
      obtain ⟨d, hd, hdf⟩ := dif_spec (xs := xs) hx
      refine Ev.bind hd ?_
      cases d with
      | false =>
        rw [isf fun z => by have := hdf.mpr z.2.1; cases this]
        exact Ev.neg (by decide) (Ev.now _)
      | true =>
        have D := hdf.mp rfl
        have R : ∀ i : Int, 0 ≤ i → i < 7 → Rg (rd xs i) := fun i i0 i1 => (D i i0 (by omega)).1
        have N : ∀ i j : Int, 0 ≤ i → i < 7 → 0 ≤ j → j < 7 → i ≠ j → rd xs i ≠ rd xs j := fun i j i0 i1 j0 j1 hne => dif_at D i0 j0 (by omega) (by omega) hne
        refine Ev.pos rfl ?_
        have st : ∀ (i : Int), 1 ≤ i → i ≤ 3 → ∀ s, (threeI (mOf l) (rd xs 0) (rd xs i) (rd xs (i + 3)) = true → Ev (fun k => spec_TwinIn.l0 k l xs (i + 1)) s) → (threeI (mOf l) (rd xs 0) (rd xs i) (rd xs (i + 3)) = false → s = false) → Ev (fun k => spec_TwinIn.l0 k l xs i) s := fun i i0 i1 s hgo hno => by
          refine Ev.step (fun k => spec_TwinIn.l0.eq_2 ..) (Ev.pos i1 (Ev.bind (three_ev hs (R 0 (by omega) (by omega)) (R i (by omega) (by omega)) (R (i + 3) (by omega) (by omega)) (N 0 i (by omega) (by omega) (by omega) (by omega) (by omega))) ?_))
          cases e : threeI (mOf l) (rd xs 0) (rd xs i) (rd xs (i + 3)) with
          | true => exact Ev.pos rfl (hgo e)
          | false =>
            rw [hno e]
            exact Ev.neg (by decide) (Ev.now _)
        refine st 1 (by omega) (by omega) b (fun a1 => ?_) (fun e => isf fun z => by have := z.2.2.2.2.1.1; rw [show (4 : Int) = 1 + 3 from rfl, e] at this; cases this)
        refine st 2 (by omega) (by omega) b (fun a2 => ?_) (fun e => isf fun z => by have := z.2.2.2.2.1.2.1; rw [show (5 : Int) = 2 + 3 from rfl] at this; have e' : threeI (mOf l) (rd xs 0) (rd xs 2) (rd xs (2 + 3)) = false := e; rw [e'] at this; cases this)
        refine st 3 (by omega) (by omega) b (fun a3 => ?_) (fun e => isf fun z => by have := z.2.2.2.2.1.2.2; rw [show (6 : Int) = 3 + 3 from rfl] at this; have e' : threeI (mOf l) (rd xs 0) (rd xs 3) (rd xs (3 + 3)) = false := e; rw [e'] at this; cases this)
        have j : ∀ i : Int, 1 ≤ i → i ≤ 3 → Ev (fun k => spec_l3Join.f k l (rd xs 0) (rd xs i)) (joinI (mOf l) (rd xs 0) (rd xs i)) := fun i i0 i1 => join_ev hs (R 0 (by omega) (by omega)) (R i (by omega) (by omega)) (N 0 i (by omega) (by omega) (by omega) (by omega) (by omega))
        refine Ev.step (fun k => spec_TwinIn.l0.eq_2 ..) (Ev.neg (by decide) ?_)
        unfold spec_TwinIn.tail
        refine Ev.bind (j 1 (by omega) (by omega)) (Ev.bind (j 2 (by omega) (by omega)) (Ev.bind (j 3 (by omega) (by omega)) ?_))
        by_cases c1 : joinI (mOf l) (rd xs 0) (rd xs 1) = joinI (mOf l) (rd xs 0) (rd xs 2)
        · rw [isf fun z => z.2.2.2.2.2.1 c1]
          exact Ev.pos c1 (Ev.now _)
        · refine Ev.neg c1 ?_
          by_cases c2 : joinI (mOf l) (rd xs 0) (rd xs 1) = joinI (mOf l) (rd xs 0) (rd xs 3)
          · rw [isf fun z => z.2.2.2.2.2.2.1 c2]
            exact Ev.pos c2 (Ev.now _)
          · refine Ev.neg c2 ?_
            by_cases c3 : joinI (mOf l) (rd xs 0) (rd xs 2) = joinI (mOf l) (rd xs 0) (rd xs 3)
            · rw [isf fun z => z.2.2.2.2.2.2.2 c3]
              exact Ev.pos c3 (Ev.now _)
            · refine Ev.neg c3 ?_
              refine Ev.bind (three_ev hs (R 1 (by omega) (by omega)) (R 2 (by omega) (by omega)) (R 3 (by omega) (by omega)) (N 1 2 (by omega) (by omega) (by omega) (by omega) (by omega))) ?_
              cases e1 : threeI (mOf l) (rd xs 1) (rd xs 2) (rd xs 3) with
              | true =>
                rw [isf fun z => by have := z.2.2.1; rw [e1] at this; cases this]
                exact Ev.pos rfl (Ev.now _)
              | false =>
                refine Ev.neg (by decide) (Ev.bind (three_ev hs (R 4 (by omega) (by omega)) (R 5 (by omega) (by omega)) (R 6 (by omega) (by omega)) (N 4 5 (by omega) (by omega) (by omega) (by omega) (by omega))) ?_)
                cases e2 : threeI (mOf l) (rd xs 4) (rd xs 5) (rd xs 6) with
                | true =>
                  rw [isf fun z => by have := z.2.2.2.1; rw [e2] at this; cases this]
                  exact Ev.now _
                | false =>
                  rw [hbi.mpr ⟨h7, D, e1, e2, ⟨a1, a2, a3⟩, c1, c2, c3⟩]
                  exact Ev.now _
    · rw [isf fun z => h7 z.1]
      exact Ev.neg h7 (Ev.now _)

end Go.Proofs.Ytiobhhcbdcbajaa.Pure
