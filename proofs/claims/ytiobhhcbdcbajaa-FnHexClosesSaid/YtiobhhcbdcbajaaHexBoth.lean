/- Hexagons: the program and the reference tell the same. Conditions: the table's length is an int's. -/
import Derived.Test.YtiobhhcbdcbajaaClosing
import Derived.Test.YtiobhhcbdcbajaaPx16
import Derived.Test.YtiobhhcbdcbajaaPx17
import Derived.Test.YtiobhhcbdcbajaaPx18
import Derived.Test.YtiobhhcbdcbajaaPx19
set_option linter.unusedVariables false
set_option linter.unusedSimpArgs false
namespace Go.Proofs.Ytiobhhcbdcbajaa.Pure
open Go.RowKit Go.Proofs.Ytiobhhcbdcbajaa.P Go.Proofs.Ytiobhhcbdcbajaa.Nine Go.Proofs.YtiobhhcbdcbajaaW.PrintWords Go.Proofs.YtiobhhcbdcbajaaW.PrintLast

/-- Six points, three on one line and three on another, none on both. -/
def HexP (m : Fin 9 → Fin 9 → Fin 9) (xs : List Int) : Prop :=
  (xs.length : Int) = 6 ∧ Dif xs ∧ threeI m (rd xs 0) (rd xs 1) (rd xs 2) = true ∧ threeI m (rd xs 3) (rd xs 4) (rd xs 5) = true ∧ joinI m (rd xs 0) (rd xs 1) ≠ joinI m (rd xs 3) (rd xs 4) ∧ ∀ i : Int, 0 ≤ i → i < 6 → rd xs i ≠ meetI m (joinI m (rd xs 0) (rd xs 1)) (joinI m (rd xs 3) (rd xs 4))
theorem hexIn_impl {l : List Int} (h : sysI l = true) (xs : List Int) : ∃ b : Bool, Ev (fun k => impl_plane_isHex.f k l xs) b ∧ (b = true ↔ HexP (mOf l) xs) := by
  unfold impl_plane_isHex.f
  have fl : ∀ {P : Prop}, ¬ P → (false = true ↔ P) := fun hn => ⟨fun z => (by cases z), fun z => absurd z hn⟩
  by_cases h6 : (xs.length : Int) = 6
  · obtain ⟨d, hd, hdf⟩ := dif_impl (xs := xs) (by omega)
    cases d with
    | false => exact ⟨false, Ev.pos h6 (Ev.bind hd (Ev.neg (by decide) (Ev.now _))), fl fun z => by have := hdf.mpr z.2.1; cases this⟩
    | true =>
      have D := hdf.mp rfl
      have R : ∀ i : Int, 0 ≤ i → i < 6 → Rg (rd xs i) := fun i i0 i1 => (D i i0 (by omega)).1
      have N : ∀ i j : Int, 0 ≤ i → i < 6 → 0 ≤ j → j < 6 → i ≠ j → rd xs i ≠ rd xs j := fun i j i0 i1 j0 j1 hne => dif_at D i0 j0 (by omega) (by omega) hne
      have S := sysI_s h
      have u := S.join_spec (R 0 (by omega) (by omega)) (R 1 (by omega) (by omega)) (N 0 1 (by omega) (by omega) (by omega) (by omega) (by omega))
      have v := S.join_spec (R 3 (by omega) (by omega)) (R 4 (by omega) (by omega)) (N 3 4 (by omega) (by omega) (by omega) (by omega) (by omega))
      have t1 := three_impl h (R 0 (by omega) (by omega)) (R 1 (by omega) (by omega)) (R 2 (by omega) (by omega)) (N 0 1 (by omega) (by omega) (by omega) (by omega) (by omega))
      have t2 := three_impl h (R 3 (by omega) (by omega)) (R 4 (by omega) (by omega)) (R 5 (by omega) (by omega)) (N 3 4 (by omega) (by omega) (by omega) (by omega) (by omega))
      have j1 := join_impl (sysI_n h) (R 0 (by omega) (by omega)) (R 1 (by omega) (by omega))
      have j2 := join_impl (sysI_n h) (R 3 (by omega) (by omega)) (R 4 (by omega) (by omega))
      cases e1 : threeI (mOf l) (rd xs 0) (rd xs 1) (rd xs 2) with
      | false =>
        rw [e1] at t1
        exact ⟨false, Ev.pos h6 (Ev.bind hd (Ev.pos rfl (Ev.bind t1 (Ev.neg (by decide) (Ev.now _))))), fl fun z => by have := z.2.2.1; rw [e1] at this; cases this⟩
      | true =>
        rw [e1] at t1
        cases e2 : threeI (mOf l) (rd xs 3) (rd xs 4) (rd xs 5) with
        | false =>
          rw [e2] at t2
          exact ⟨false, Ev.pos h6 (Ev.bind hd (Ev.pos rfl (Ev.bind t1 (Ev.pos rfl (Ev.bind t2 (Ev.neg (by decide) (Ev.now _))))))), fl fun z => by have := z.2.2.2.1; rw [e2] at this; cases this⟩
        | true =>
          rw [e2] at t2
          by_cases e : joinI (mOf l) (rd xs 0) (rd xs 1) = joinI (mOf l) (rd xs 3) (rd xs 4)
          · exact ⟨false, Ev.pos h6 (Ev.bind hd (Ev.pos rfl (Ev.bind t1 (Ev.pos rfl (Ev.bind t2 (Ev.pos rfl (Ev.bind j1 (Ev.bind j2 (Ev.pos e (Ev.now _)))))))))), fl fun z => absurd e z.2.2.2.2.1⟩
          · refine ⟨!decide (meetI (mOf l) (joinI (mOf l) (rd xs 0) (rd xs 1)) (joinI (mOf l) (rd xs 3) (rd xs 4)) ∈ xs), Ev.pos h6 (Ev.bind hd (Ev.pos rfl (Ev.bind t1 (Ev.pos rfl (Ev.bind t2 (Ev.pos rfl (Ev.bind j1 (Ev.bind j2 (Ev.neg e (Ev.bind (meet_impl (sysI_n h) u.1 v.1) (Ev.bind (contains_ev (by omega) _) (Ev.now _)))))))))))), ?_⟩
            rw [Bool.not_eq_true', decide_eq_false_iff_not]
            constructor
            · intro hm
              exact ⟨h6, D, e1, e2, e, fun i i0 i1 ei => hm (ei ▸ rd_of_lt i0 (by omega))⟩
            · intro z hm
              obtain ⟨i, i0, i1, ei⟩ := mem_rd hm
              exact z.2.2.2.2.2 i i0 (by omega) ei
  · exact ⟨false, Ev.neg h6 (Ev.now _), fl fun z => h6 z.1⟩
theorem hexIn_both {l : List Int} (hl : (l.length : Int) ≤ 9223372036854775806) (xs : List Int) (hx : (xs.length : Int) ≤ 9223372036854775806) :
    ∃ b : Bool, Ev (fun k => spec_HexIn.f k l xs) b ∧ Ev (fun k => impl_HexIn.f k l xs) b ∧ (b = true ↔ sysI l = true ∧ HexP (mOf l) xs) := by
  unfold spec_HexIn.f impl_HexIn.f
  rw [isSys_some]
  have no0 : Ev (fun k => spec_HexIn.j0 k l xs true) false := Ev.step (fun k => spec_HexIn.j0.eq_2 ..) (Ev.pos rfl (Ev.now _))
  have no1 : Ev (fun k => spec_HexIn.j1 k l xs true) false := Ev.step (fun k => spec_HexIn.j1.eq_2 ..) (Ev.pos rfl (Ev.now _))
  cases hs : sysI l with
  | false => exact ⟨false, Ev.bind (sysIn_ev hl) (by rw [hs]; exact Ev.neg (by decide) no0), Ev.some' (Ev.neg (by decide) (Ev.now _)), by simp⟩
  | true =>
    obtain ⟨b, hb, hbi⟩ := hexIn_impl hs xs
    refine ⟨b, Ev.bind (sysIn_ev hl) (Ev.pos hs ?_), Ev.some' (Ev.pos rfl (Ev.bind hb (Ev.now _))), by rw [hbi]; simp⟩
    have isf : ¬ HexP (mOf l) xs → b = false := fun z => Bool.eq_false_iff.mpr fun e => z (hbi.mp e)
    by_cases h6 : (xs.length : Int) = 6
    · refine Ev.pos h6 ?_
      obtain ⟨d, hd, hdf⟩ := dif_spec (xs := xs) hx
      refine Ev.bind hd ?_
      cases d with
      | false =>
        rw [isf fun z => by have := hdf.mpr z.2.1; cases this]
        exact no0
      | true =>
        have D := hdf.mp rfl
        have R : ∀ i : Int, 0 ≤ i → i < 6 → Rg (rd xs i) := fun i i0 i1 => (D i i0 (by omega)).1
        have N : ∀ i j : Int, 0 ≤ i → i < 6 → 0 ≤ j → j < 6 → i ≠ j → rd xs i ≠ rd xs j := fun i j i0 i1 j0 j1 hne => dif_at D i0 j0 (by omega) (by omega) hne
        have S := sysI_s hs
        have u := S.join_spec (R 0 (by omega) (by omega)) (R 1 (by omega) (by omega)) (N 0 1 (by omega) (by omega) (by omega) (by omega) (by omega))
        have v := S.join_spec (R 3 (by omega) (by omega)) (R 4 (by omega) (by omega)) (N 3 4 (by omega) (by omega) (by omega) (by omega) (by omega))
        have t1 := three_ev hs (R 0 (by omega) (by omega)) (R 1 (by omega) (by omega)) (R 2 (by omega) (by omega)) (N 0 1 (by omega) (by omega) (by omega) (by omega) (by omega))
        have t2 := three_ev hs (R 3 (by omega) (by omega)) (R 4 (by omega) (by omega)) (R 5 (by omega) (by omega)) (N 3 4 (by omega) (by omega) (by omega) (by omega) (by omega))
        have j1 := join_ev hs (R 0 (by omega) (by omega)) (R 1 (by omega) (by omega)) (N 0 1 (by omega) (by omega) (by omega) (by omega) (by omega))
        have j2 := join_ev hs (R 3 (by omega) (by omega)) (R 4 (by omega) (by omega)) (N 3 4 (by omega) (by omega) (by omega) (by omega) (by omega))
        refine Ev.step (fun k => spec_HexIn.j0.eq_2 ..) (Ev.neg (by decide) (Ev.pos (by omega) (Ev.pos (by omega) (Ev.pos (by omega) (Ev.bind t1 ?_)))))
        cases e1 : threeI (mOf l) (rd xs 0) (rd xs 1) (rd xs 2) with
        | false =>
          rw [isf fun z => by have := z.2.2.1; rw [e1] at this; cases this]
          exact Ev.neg (by decide) no1
        | true =>
          refine Ev.pos rfl (Ev.pos (by omega) (Ev.pos (by omega) (Ev.pos (by omega) (Ev.bind t2 ?_))))
          cases e2 : threeI (mOf l) (rd xs 3) (rd xs 4) (rd xs 5) with
          | false =>
            rw [isf fun z => by have := z.2.2.2.1; rw [e2] at this; cases this]
            exact no1
          | true =>
            refine Ev.step (fun k => spec_HexIn.j1.eq_2 ..) (Ev.neg (by decide) (Ev.pos (by omega) (Ev.pos (by omega) (Ev.bind j1 (Ev.pos (by omega) (Ev.pos (by omega) (Ev.bind j2 ?_)))))))
            by_cases e : joinI (mOf l) (rd xs 0) (rd xs 1) = joinI (mOf l) (rd xs 3) (rd xs 4)
            · rw [isf fun z => absurd e z.2.2.2.2.1]
              exact Ev.pos e (Ev.now _)
            · refine Ev.neg e (Ev.bind (meet_ev hs u.1 v.1) ?_)
              obtain ⟨c, hc, hci⟩ := loopP (g := fun k i => spec_HexIn.l0 k xs (meetI (mOf l) (joinI (mOf l) (rd xs 0) (rd xs 1)) (joinI (mOf l) (rd xs 3) (rd xs 4))) i) (N := 6) (P := fun i => rd xs i ≠ meetI (mOf l) (joinI (mOf l) (rd xs 0) (rd xs 1)) (joinI (mOf l) (rd xs 3) (rd xs 4))) (by omega)
                (fun s i i0 i1 _ hp hg => by
                  refine Ev.step (fun k => spec_HexIn.l0.eq_2 ..) ?_
                  rw [w1 (i := i) i0 (by omega)]
                  exact Ev.pos i1 (Ev.pos i0 (Ev.pos (by omega) (Ev.neg hp hg))))
                (fun i i0 i1 _ hp => by
                  refine Ev.step (fun k => spec_HexIn.l0.eq_2 ..) ?_
                  exact Ev.pos i1 (Ev.pos i0 (Ev.pos (by omega) (Ev.pos (Classical.byContradiction hp) (Ev.now _)))))
                (fun _ => Ev.step (fun k => spec_HexIn.l0.eq_2 ..) (Ev.neg (by omega) (Ev.now _)))
              obtain rfl : c = b := by
                rw [Bool.eq_iff_iff, hci, hbi]
                exact ⟨fun z => ⟨h6, D, e1, e2, e, z⟩, fun z => z.2.2.2.2.2⟩
              exact hc
    · rw [isf fun z => h6 z.1]
      exact Ev.neg h6 no0
theorem hexCloses_both {l : List Int} (hl : (l.length : Int) ≤ 9223372036854775806) (xs : List Int) (hx : (xs.length : Int) ≤ 9223372036854775806) :
    ∃ b : Bool, Ev (fun k => spec_HexCloses.f k l xs) b ∧ Ev (fun k => impl_HexCloses.f k l xs) b ∧ (b = true ↔ (sysI l = true ∧ HexP (mOf l) xs) ∧ closesI (mOf l) (crossI (mOf l) (rd xs 0) (rd xs 4) (rd xs 1) (rd xs 3)) (crossI (mOf l) (rd xs 0) (rd xs 5) (rd xs 2) (rd xs 3)) (crossI (mOf l) (rd xs 1) (rd xs 5) (rd xs 2) (rd xs 4)) = true) := by
  obtain ⟨b, hs, _, hb⟩ := hexIn_both hl xs hx
  have no : Ev (fun k => impl_HexCloses.j0 k l xs true) false := Ev.step (fun k => impl_HexCloses.j0.eq_2 ..) (Ev.pos rfl (Ev.now _))
  unfold spec_HexCloses.f impl_HexCloses.f
  rw [isSys_some]
  cases b with
  | false =>
    refine ⟨false, Ev.bind hs (Ev.neg (by decide) (Ev.now _)), ?_, ⟨fun z => (by cases z), fun z => (by have := hb.mpr z.1; cases this)⟩⟩
    cases h : sysI l with
    | false => exact Ev.some' (Ev.neg (by decide) no)
    | true =>
      obtain ⟨c, hc, hci⟩ := hexIn_impl h xs
      have ec : c = false := Bool.eq_false_iff.mpr fun e => by have := hb.mpr ⟨h, hci.mp e⟩; cases this
      subst ec
      exact Ev.some' (Ev.pos rfl (Ev.bind hc no))
  | true =>
    obtain ⟨h, hp⟩ := hb.mp rfl
    obtain ⟨c, hc, hci⟩ := hexIn_impl h xs
    have ec : c = true := hci.mpr hp
    subst ec
    have h6 := hp.1
    have D := hp.2.1
    have R : ∀ i : Int, 0 ≤ i → i < 6 → Rg (rd xs i) := fun i i0 i1 => (D i i0 (by omega)).1
    have N : ∀ i j : Int, 0 ≤ i → i < 6 → 0 ≤ j → j < 6 → i ≠ j → rd xs i ≠ rd xs j := fun i j i0 i1 j0 j1 hne => dif_at D i0 j0 (by omega) (by omega) hne
    have S := sysI_s h
    have cr : ∀ i j p q : Int, 0 ≤ i ∧ i < 6 → 0 ≤ j ∧ j < 6 → 0 ≤ p ∧ p < 6 → 0 ≤ q ∧ q < 6 → i ≠ j → p ≠ q → Rg (crossI (mOf l) (rd xs i) (rd xs j) (rd xs p) (rd xs q)) ∧ Ev (fun k => impl_plane_crossing.f k l (rd xs i) (rd xs j) (rd xs p) (rd xs q)) (crossI (mOf l) (rd xs i) (rd xs j) (rd xs p) (rd xs q)) ∧ Ev (fun k => spec_l4Cross.f k l (rd xs i) (rd xs j) (rd xs p) (rd xs q)) (crossI (mOf l) (rd xs i) (rd xs j) (rd xs p) (rd xs q)) := fun i j p q hi hj hp' hq ij pq =>
      ⟨(S.cross_on (R i hi.1 hi.2) (R j hj.1 hj.2) (R p hp'.1 hp'.2) (R q hq.1 hq.2) (N i j hi.1 hi.2 hj.1 hj.2 ij) (N p q hp'.1 hp'.2 hq.1 hq.2 pq)).1, cross_impl h (R i hi.1 hi.2) (R j hj.1 hj.2) (R p hp'.1 hp'.2) (R q hq.1 hq.2) (N i j hi.1 hi.2 hj.1 hj.2 ij) (N p q hp'.1 hp'.2 hq.1 hq.2 pq), cross_spec h (R i hi.1 hi.2) (R j hj.1 hj.2) (R p hp'.1 hp'.2) (R q hq.1 hq.2) (N i j hi.1 hi.2 hj.1 hj.2 ij) (N p q hp'.1 hp'.2 hq.1 hq.2 pq)⟩
    have a := cr 0 4 1 3 (by omega) (by omega) (by omega) (by omega) (by omega) (by omega)
    have b := cr 0 5 2 3 (by omega) (by omega) (by omega) (by omega) (by omega) (by omega)
    have c := cr 1 5 2 4 (by omega) (by omega) (by omega) (by omega) (by omega) (by omega)
    refine ⟨closesI (mOf l) (crossI (mOf l) (rd xs 0) (rd xs 4) (rd xs 1) (rd xs 3)) (crossI (mOf l) (rd xs 0) (rd xs 5) (rd xs 2) (rd xs 3)) (crossI (mOf l) (rd xs 1) (rd xs 5) (rd xs 2) (rd xs 4)), Ev.bind hs (Ev.pos rfl (Ev.pos (by omega) (Ev.pos (by omega) (Ev.pos (by omega) (Ev.pos (by omega) (Ev.bind a.2.2 (Ev.pos (by omega) (Ev.pos (by omega) (Ev.bind b.2.2 (Ev.bind c.2.2 (Ev.bind (row_spec h a.1 b.1 c.1) (Ev.now _)))))))))))), ?_, ⟨fun z => ⟨⟨h, hp⟩, z⟩, fun z => z.2⟩⟩
    refine Ev.some' (Ev.pos h (Ev.bind hc ?_))
    exact Ev.step (fun k => impl_HexCloses.j0.eq_2 ..) (Ev.neg (by decide) (Ev.pos (by omega) (Ev.pos (by omega) (Ev.pos (by omega) (Ev.pos (by omega) (Ev.bind a.2.1 (Ev.pos (by omega) (Ev.pos (by omega) (Ev.bind b.2.1 (Ev.bind c.2.1 (Ev.bind (closes_impl h a.1 b.1 c.1) (Ev.now _))))))))))))

end Go.Proofs.Ytiobhhcbdcbajaa.Pure
