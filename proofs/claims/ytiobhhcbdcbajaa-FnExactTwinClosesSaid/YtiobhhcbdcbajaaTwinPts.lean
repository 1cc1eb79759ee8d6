/- The three common points of a pair of triangles, and whether it closes: the program and the reference tell the same. Conditions: the lists' lengths are an int's. -/
import Derived.Test.YtiobhhcbdcbajaaTwinBoth
import Derived.Test.YtiobhhcbdcbajaaPx29
import Derived.Test.YtiobhhcbdcbajaaPx30
set_option linter.unusedVariables false
set_option linter.unusedSimpArgs false
namespace Go.Proofs.Ytiobhhcbdcbajaa.Pure
open Go.RowKit Go.Proofs.Ytiobhhcbdcbajaa.P Go.Proofs.Ytiobhhcbdcbajaa.Nine Go.Proofs.YtiobhhcbdcbajaaW.PrintWords Go.Proofs.YtiobhhcbdcbajaaW.PrintLast

def twinL (m : Fin 9 → Fin 9 → Fin 9) (xs : List Int) : List Int := [crossI m (rd xs 1) (rd xs 2) (rd xs 4) (rd xs 5), crossI m (rd xs 1) (rd xs 3) (rd xs 4) (rd xs 6), crossI m (rd xs 2) (rd xs 3) (rd xs 5) (rd xs 6)]
theorem twin_cross {l : List Int} (h : sysI l = true) {xs : List Int} (hp : TwinP (mOf l) xs) : ∀ i j p q : Int, 0 ≤ i ∧ i < 7 → 0 ≤ j ∧ j < 7 → 0 ≤ p ∧ p < 7 → 0 ≤ q ∧ q < 7 → i ≠ j → p ≠ q → Rg (crossI (mOf l) (rd xs i) (rd xs j) (rd xs p) (rd xs q)) ∧ Ev (fun k => impl_plane_crossing.f k l (rd xs i) (rd xs j) (rd xs p) (rd xs q)) (crossI (mOf l) (rd xs i) (rd xs j) (rd xs p) (rd xs q)) ∧ Ev (fun k => spec_l4Cross.f k l (rd xs i) (rd xs j) (rd xs p) (rd xs q)) (crossI (mOf l) (rd xs i) (rd xs j) (rd xs p) (rd xs q)) := fun i j p q hi hj hp' hq ij pq => by
  have h7 := hp.1
  have D := hp.2.1
  have R : ∀ i : Int, 0 ≤ i → i < 7 → Rg (rd xs i) := fun i i0 i1 => (D i i0 (by omega)).1
  have N : ∀ i j : Int, 0 ≤ i → i < 7 → 0 ≤ j → j < 7 → i ≠ j → rd xs i ≠ rd xs j := fun i j i0 i1 j0 j1 hne => dif_at D i0 j0 (by omega) (by omega) hne
  have S := sysI_s h
  exact ⟨(S.cross_on (R i hi.1 hi.2) (R j hj.1 hj.2) (R p hp'.1 hp'.2) (R q hq.1 hq.2) (N i j hi.1 hi.2 hj.1 hj.2 ij) (N p q hp'.1 hp'.2 hq.1 hq.2 pq)).1, cross_impl h (R i hi.1 hi.2) (R j hj.1 hj.2) (R p hp'.1 hp'.2) (R q hq.1 hq.2) (N i j hi.1 hi.2 hj.1 hj.2 ij) (N p q hp'.1 hp'.2 hq.1 hq.2 pq), cross_spec h (R i hi.1 hi.2) (R j hj.1 hj.2) (R p hp'.1 hp'.2) (R q hq.1 hq.2) (N i j hi.1 hi.2 hj.1 hj.2 ij) (N p q hp'.1 hp'.2 hq.1 hq.2 pq)⟩
theorem twinPts_impl {l : List Int} (h : sysI l = true) {xs : List Int} (hp : TwinP (mOf l) xs) : Ev (fun k => impl_plane_twinPoints.f k l xs) (twinL (mOf l) xs) := by
  have h7 := hp.1
  have c := twin_cross h hp
  unfold impl_plane_twinPoints.f
  exact Ev.pos (by omega) (Ev.pos (by omega) (Ev.pos (by omega) (Ev.pos (by omega) (Ev.bind (c 1 2 4 5 (by omega) (by omega) (by omega) (by omega) (by omega) (by omega)).2.1 (Ev.pos (by omega) (Ev.pos (by omega) (Ev.bind (c 1 3 4 6 (by omega) (by omega) (by omega) (by omega) (by omega) (by omega)).2.1 (Ev.bind (c 2 3 5 6 (by omega) (by omega) (by omega) (by omega) (by omega) (by omega)).2.1 (Ev.now _)))))))))
theorem twinPts_spec {l : List Int} (h : sysI l = true) {xs : List Int} (hp : TwinP (mOf l) xs) : Ev (fun k => spec_l4Twin.f k l xs) (twinL (mOf l) xs) := by
  have h7 := hp.1
  have c := twin_cross h hp
  unfold spec_l4Twin.f
  exact Ev.pos (by omega) (Ev.pos (by omega) (Ev.pos (by omega) (Ev.pos (by omega) (Ev.bind (c 1 2 4 5 (by omega) (by omega) (by omega) (by omega) (by omega) (by omega)).2.2 (Ev.pos (by omega) (Ev.pos (by omega) (Ev.bind (c 1 3 4 6 (by omega) (by omega) (by omega) (by omega) (by omega) (by omega)).2.2 (Ev.bind (c 2 3 5 6 (by omega) (by omega) (by omega) (by omega) (by omega) (by omega)).2.2 (Ev.now _)))))))))
theorem twinPoints_both {l : List Int} (hl : (l.length : Int) ≤ 9223372036854775806) (xs : List Int) (hx : (xs.length : Int) ≤ 9223372036854775806) :
    ∃ r : List Int × Bool, Ev (fun k => spec_TwinPoints.f k l xs) r ∧ Ev (fun k => impl_TwinPoints.f k l xs) r ∧ ((r.1.length : Int) ≤ 3 ∧ ((sysI l = true ∧ TwinP (mOf l) xs ∧ r = (twinL (mOf l) xs, true)) ∨ (¬ (sysI l = true ∧ TwinP (mOf l) xs) ∧ r = ([], false)))) := by
  obtain ⟨b, hs, _, hb⟩ := twinIn_both hl xs hx
  unfold spec_TwinPoints.f impl_TwinPoints.f
  rw [isSys_some]
  cases b with
  | true =>
    obtain ⟨h, hp⟩ := hb.mp rfl
    obtain ⟨c, hc, hci⟩ := twinIn_impl h xs
    have ec : c = true := hci.mpr hp
    subst ec
    exact ⟨(twinL (mOf l) xs, true), Ev.bind hs (Ev.pos rfl (Ev.bind (twinPts_spec h hp) (Ev.now _))), Ev.some' (Ev.pos h (Ev.bind hc (Ev.pos rfl (Ev.bind (twinPts_impl h hp) (Ev.now _))))), by show (3 : Int) ≤ 3; decide, .inl ⟨h, hp, rfl⟩⟩
  | false =>
    refine ⟨([], false), Ev.bind hs (Ev.neg (by decide) (Ev.now _)), ?_, by show (0 : Int) ≤ 3; decide, .inr ⟨fun z => (by have := hb.mpr z; cases this), rfl⟩⟩
    cases h : sysI l with
    | false => exact Ev.some' (Ev.neg (by decide) (Ev.now _))
    | true =>
      obtain ⟨c, hc, hci⟩ := twinIn_impl h xs
      have ec : c = false := Bool.eq_false_iff.mpr fun e => by have := hb.mpr ⟨h, hci.mp e⟩; cases this
      subst ec
      exact Ev.some' (Ev.pos rfl (Ev.bind hc (Ev.neg (by decide) (Ev.now _))))
theorem twinCloses_both {l : List Int} (hl : (l.length : Int) ≤ 9223372036854775806) (xs : List Int) (hx : (xs.length : Int) ≤ 9223372036854775806) :
    ∃ b : Bool, Ev (fun k => spec_TwinCloses.f k l xs) b ∧ Ev (fun k => impl_TwinCloses.f k l xs) b ∧ True := by
  obtain ⟨r, hs, _, _, hr⟩ := twinPoints_both hl xs hx
  unfold spec_TwinCloses.f impl_TwinCloses.f
  rw [isSys_some]
  rcases hr with ⟨h, hp, e⟩ | ⟨hn, e⟩
  · subst e
    obtain ⟨c, hc, hci⟩ := twinIn_impl h xs
    have ec : c = true := hci.mpr hp
    subst ec
    have k := twin_cross h hp
    have a := (k 1 2 4 5 (by omega) (by omega) (by omega) (by omega) (by omega) (by omega)).1
    have b := (k 1 3 4 6 (by omega) (by omega) (by omega) (by omega) (by omega) (by omega)).1
    have d := (k 2 3 5 6 (by omega) (by omega) (by omega) (by omega) (by omega) (by omega)).1
    exact ⟨_, Ev.bind hs (Ev.pos rfl (Ev.pos (by show (0 : Int) < 3; decide) (Ev.pos (by show (1 : Int) < 3; decide) (Ev.pos (by show (2 : Int) < 3; decide) (Ev.bind (row_spec h a b d) (Ev.now _)))))), Ev.some' (Ev.pos h (Ev.bind hc (Ev.pos rfl (Ev.bind (twinPts_impl h hp) (Ev.bind (closes_impl h a b d) (Ev.now _)))))), trivial⟩
  · subst e
    refine ⟨false, Ev.bind hs (Ev.neg Bool.false_ne_true (Ev.now _)), ?_, trivial⟩
    cases h : sysI l with
    | false => exact Ev.some' (Ev.neg (by decide) (Ev.now _))
    | true =>
      obtain ⟨c, hc, hci⟩ := twinIn_impl h xs
      have ec : c = false := Bool.eq_false_iff.mpr fun e => hn ⟨h, hci.mp e⟩
      subst ec
      exact Ev.some' (Ev.pos rfl (Ev.bind hc (Ev.neg (by decide) (Ev.now _))))

end Go.Proofs.Ytiobhhcbdcbajaa.Pure
