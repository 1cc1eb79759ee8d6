/- Points of which no three are on one line: the program and the reference tell the same. Conditions: the table is a system, the list has at most 1000 numbers. -/
import Derived.Test.YtiobhhcbdcbajaaPlaneA
import Derived.Test.YtiobhhcbdcbajaaEvA
import Derived.Test.YtiobhhcbdcbajaaPx24
import Derived.Test.YtiobhhcbdcbajaaPx22
set_option linter.unusedVariables false
set_option linter.unusedSimpArgs false
namespace Go.Proofs.Ytiobhhcbdcbajaa.Pure
open Go.RowKit Go.Proofs.Ytiobhhcbdcbajaa.P Go.Proofs.Ytiobhhcbdcbajaa.Nine Go.Proofs.YtiobhhcbdcbajaaW.PrintWords Go.Proofs.YtiobhhcbdcbajaaW.PrintLast

/-- All are points, different, and no three of them are on one line. -/
def Apart (m : Fin 9 → Fin 9 → Fin 9) (xs : List Int) : Prop := Dif xs ∧ ∀ i j h : Int, 0 ≤ h → h < j → j < i → i < xs.length → threeI m (rd xs i) (rd xs j) (rd xs h) = false
theorem dif_ne {xs : List Int} (h : Dif xs) {i j : Int} (j0 : 0 ≤ j) (ji : j < i) (i1 : i < xs.length) : rd xs i ≠ rd xs j := fun e => (h i (by omega) i1).2 j j0 ji e.symm
theorem apart_impl {l xs : List Int} (h : sysI l = true) (hx : (xs.length : Int) ≤ 1000) : ∃ b : Bool, Ev (fun k => impl_plane_apart.f k l xs) b ∧ (b = true ↔ Apart (mOf l) xs) := by
  have S := sysI_s h
  have hn := sysI_n h
  obtain ⟨d, hd, hdf⟩ := dif_impl (xs := xs) (by omega)
  unfold impl_plane_apart.f
  cases d with
  | false =>
    refine ⟨false, Ev.pos hn (Ev.bind hd (Ev.neg (by decide) (Ev.now _))), ?_⟩
    constructor
    · intro h'; cases h'
    · intro h'
      have := hdf.mpr h'.1
      cases this
  | true =>
    have D := hdf.mp rfl
    have hall : (xs.all fun a => decide (0 ≤ a) && decide (a < 91)) = true := List.all_eq_true.mpr fun a ha => by
      obtain ⟨i, i0, i1, e⟩ := mem_rd ha
      have hr := (D i i0 i1).1
      rw [e] at hr
      rw [Bool.and_eq_true, decide_eq_true_eq, decide_eq_true_eq]
      exact ⟨hr.1, by have := hr.2; omega⟩
    -- one round of the inner loop
    have hit : ∀ i j : Int, 0 ≤ j → j < i → i < xs.length → (((xs.take j.toNat).any fun r => onB l r (joinI (mOf l) (rd xs i) (rd xs j))) = true ↔ ∃ h, 0 ≤ h ∧ h < j ∧ threeI (mOf l) (rd xs i) (rd xs j) (rd xs h) = true) := fun i j j0 ji i1 => by
      have J := S.join_spec (D i (by omega) i1).1 (D j j0 (by omega)).1 (dif_ne D j0 ji i1)
      rw [List.any_eq_true]
      constructor
      · rintro ⟨a, ha, ho⟩
        obtain ⟨h', h0, h1, e⟩ := (mem_take_rd j0 (by omega)).mp ha
        subst e
        rw [onB_onI hn (D h' h0 (by omega)).1 J.1] at ho
        exact ⟨h', h0, h1, ho⟩
      · rintro ⟨h', h0, h1, ho⟩
        exact ⟨_, (mem_take_rd j0 (by omega)).mpr ⟨h', h0, h1, rfl⟩, by rw [onB_onI hn (D h' h0 (by omega)).1 J.1]; exact ho⟩
    have l1step : ∀ i j : Int, 0 ≤ j → j < i → i < xs.length → ∀ s, (∀ h, 0 ≤ h → h < j → threeI (mOf l) (rd xs i) (rd xs j) (rd xs h) = false) → Ev (fun k => impl_plane_apart.l1 k l xs i (j + 1)) s → Ev (fun k => impl_plane_apart.l1 k l xs i j) s := fun i j j0 ji i1 s hp hg => by
      have J := S.join_spec (D i (by omega) i1).1 (D j j0 (by omega)).1 (dif_ne D j0 ji i1)
      refine Ev.step (fun k => impl_plane_apart.l1.eq_2 ..) (Ev.pos ji (Ev.bind (join_impl hn (D i (by omega) i1).1 (D j j0 (by omega)).1) (Ev.pos J.1.1 (Ev.pos (by have := J.1.2; omega) (Ev.neg ?_ hg)))))
      rw [hit i j j0 ji i1]
      rintro ⟨h', h0, h1, e⟩
      rw [hp h' h0 h1] at e
      cases e
    have l1stop : ∀ i j : Int, 0 ≤ j → j < i → i < xs.length → (¬ ∀ h, 0 ≤ h → h < j → threeI (mOf l) (rd xs i) (rd xs j) (rd xs h) = false) → Ev (fun k => impl_plane_apart.l1 k l xs i j) false := fun i j j0 ji i1 hp => by
      have J := S.join_spec (D i (by omega) i1).1 (D j j0 (by omega)).1 (dif_ne D j0 ji i1)
      refine Ev.step (fun k => impl_plane_apart.l1.eq_2 ..) (Ev.pos ji (Ev.bind (join_impl hn (D i (by omega) i1).1 (D j j0 (by omega)).1) (Ev.pos J.1.1 (Ev.pos (by have := J.1.2; omega) (Ev.pos ?_ (Ev.now _))))))
      rw [hit i j j0 ji i1]
      exact Classical.byContradiction fun hn' => hp fun h' h0 h1 => Bool.eq_false_iff.mpr fun e => hn' ⟨h', h0, h1, e⟩
    obtain ⟨b, hb, hbi⟩ := loopP (g := fun k i => impl_plane_apart.l0 k l xs i) (N := xs.length) (P := fun i => ∀ j, 0 ≤ j → j < i → ∀ h, 0 ≤ h → h < j → threeI (mOf l) (rd xs i) (rd xs j) (rd xs h) = false) (by omega)
      (fun s i i0 i1 _ hp hg => by
        refine Ev.step (fun k => impl_plane_apart.l0.eq_2 ..) (Ev.pos i1 ?_)
        refine loopP_all (g := fun k j => impl_plane_apart.l1 k l xs i j) (N := i) (P := fun j => ∀ h, 0 ≤ h → h < j → threeI (mOf l) (rd xs i) (rd xs j) (rd xs h) = false) i0 (fun j j0 j1 _ hp hg => l1step i j j0 j1 i1 s hp hg) (fun j j0 j1 => hp j j0 j1) ?_
        exact Ev.step (fun k => impl_plane_apart.l1.eq_2 ..) (Ev.neg (by omega) hg))
      (fun i i0 i1 _ hp => by
        refine Ev.step (fun k => impl_plane_apart.l0.eq_2 ..) (Ev.pos i1 ?_)
        exact loopP_stop (g := fun k j => impl_plane_apart.l1 k l xs i j) (N := i) (P := fun j => ∀ h, 0 ≤ h → h < j → threeI (mOf l) (rd xs i) (rd xs j) (rd xs h) = false) (fun j j0 j1 _ hp hg => l1step i j j0 j1 i1 false hp hg) (fun j j0 j1 _ hp => l1stop i j j0 j1 i1 hp) hp)
      (fun _ => Ev.step (fun k => impl_plane_apart.l0.eq_2 ..) (Ev.neg (by omega) (Ev.now _)))
    refine ⟨b, Ev.pos hn (Ev.bind hd (Ev.pos rfl (Ev.pos hall (Ev.pos hx hb)))), ?_⟩
    rw [hbi]
    exact ⟨fun z => ⟨D, fun i j h' h0 h1 h2 h3 => z i (by omega) h3 j (by omega) h2 h' h0 h1⟩, fun z i i0 i1 j j0 j1 h' h0 h1 => z.2 i j h' h0 h1 j1 i1⟩
theorem apart_spec {l xs : List Int} (h : sysI l = true) (hx : (xs.length : Int) ≤ 1000) : ∃ b : Bool, Ev (fun k => spec_l3Apart.f k l xs) b ∧ (b = true ↔ Apart (mOf l) xs) := by
  have P1 : ∀ i j : Int, ∀ s, 0 ≤ j → j < i → i < xs.length → Rg (rd xs i) → (∀ h, 0 ≤ h → h < i → Rg (rd xs h)) → (rd xs j ≠ rd xs i ∧ ∀ h, 0 ≤ h → h < j → threeI (mOf l) (rd xs i) (rd xs j) (rd xs h) = false) → Ev (fun k => spec_l3Apart.l1 k l xs i (j + 1)) s → Ev (fun k => spec_l3Apart.l1 k l xs i j) s := fun i j s j0 ji i1 ri rh hp hg => by
    refine Ev.step (fun k => spec_l3Apart.l1.eq_2 ..) (Ev.pos ji (Ev.pos j0 (Ev.pos (by omega) (Ev.pos (by omega) (Ev.pos i1 (Ev.neg hp.1 ?_))))))
    refine loopP_all (g := fun k h => spec_l3Apart.l2 k l xs i j h) (N := j) (P := fun h => threeI (mOf l) (rd xs i) (rd xs j) (rd xs h) = false) j0 ?_ hp.2 ?_
    · intro h' h0 h1 _ ht hg'
      refine Ev.step (fun k => spec_l3Apart.l2.eq_2 ..) ?_
      rw [w1 (i := h') h0 (by omega)]
      refine Ev.pos h1 (Ev.pos (by omega) (Ev.pos i1 (Ev.pos j0 (Ev.pos (by omega) (Ev.pos h0 (Ev.pos (by omega) (Ev.bind (three_ev h ri (rh j j0 ji) (rh h' h0 (by omega)) (fun e => hp.1 e.symm)) (Ev.neg (by rw [ht]; decide) hg'))))))))
    · refine Ev.step (fun k => spec_l3Apart.l2.eq_2 ..) (Ev.neg (by omega) ?_)
      rw [w1 (i := j) j0 (by omega)]
      exact hg
  have N1 : ∀ i j : Int, 0 ≤ j → j < i → i < xs.length → Rg (rd xs i) → (∀ h, 0 ≤ h → h < i → Rg (rd xs h)) → ¬ (rd xs j ≠ rd xs i ∧ ∀ h, 0 ≤ h → h < j → threeI (mOf l) (rd xs i) (rd xs j) (rd xs h) = false) → Ev (fun k => spec_l3Apart.l1 k l xs i j) false := fun i j j0 ji i1 ri rh hp => by
    refine Ev.step (fun k => spec_l3Apart.l1.eq_2 ..) (Ev.pos ji (Ev.pos j0 (Ev.pos (by omega) (Ev.pos (by omega) (Ev.pos i1 ?_)))))
    by_cases he : rd xs j = rd xs i
    · exact Ev.pos he (Ev.now _)
    · refine Ev.neg he ?_
      refine loopP_stop (g := fun k h => spec_l3Apart.l2 k l xs i j h) (N := j) (P := fun h => threeI (mOf l) (rd xs i) (rd xs j) (rd xs h) = false) ?_ ?_ (fun z => hp ⟨he, z⟩)
      · intro h' h0 h1 _ ht hg'
        refine Ev.step (fun k => spec_l3Apart.l2.eq_2 ..) ?_
        rw [w1 (i := h') h0 (by omega)]
        refine Ev.pos h1 (Ev.pos (by omega) (Ev.pos i1 (Ev.pos j0 (Ev.pos (by omega) (Ev.pos h0 (Ev.pos (by omega) (Ev.bind (three_ev h ri (rh j j0 ji) (rh h' h0 (by omega)) (fun e => he e.symm)) (Ev.neg (by rw [ht]; decide) hg'))))))))
      · intro h' h0 h1 _ ht
        refine Ev.step (fun k => spec_l3Apart.l2.eq_2 ..) ?_
        exact Ev.pos h1 (Ev.pos (by omega) (Ev.pos i1 (Ev.pos j0 (Ev.pos (by omega) (Ev.pos h0 (Ev.pos (by omega) (Ev.bind (three_ev h ri (rh j j0 ji) (rh h' h0 (by omega)) (fun e => he e.symm)) (Ev.pos (by simpa using ht) (Ev.now _)))))))))
  obtain ⟨b, hb, hbi⟩ := loopP (g := fun k i => spec_l3Apart.l0 k l xs i) (N := xs.length) (P := fun i => Rg (rd xs i) ∧ ∀ j, 0 ≤ j → j < i → (rd xs j ≠ rd xs i ∧ ∀ h, 0 ≤ h → h < j → threeI (mOf l) (rd xs i) (rd xs j) (rd xs h) = false)) (by omega)
    (fun s i i0 i1 he hp hg => by
      refine Ev.step (fun k => spec_l3Apart.l0.eq_2 ..) (Ev.pos i1 (Ev.pos i0 ?_))
      rw [l3In_some, decide_eq_true hp.1]
      refine Ev.some' (Ev.pos rfl ?_)
      refine loopP_all (g := fun k j => spec_l3Apart.l1 k l xs i j) (N := i) (P := fun j => rd xs j ≠ rd xs i ∧ ∀ h, 0 ≤ h → h < j → threeI (mOf l) (rd xs i) (rd xs j) (rd xs h) = false) i0 (fun j j0 j1 _ hp' hg' => P1 i j s j0 j1 i1 hp.1 (fun h' h0 h1 => (he h' h0 h1).1) hp' hg') (fun j j0 j1 => hp.2 j j0 j1) ?_
      refine Ev.step (fun k => spec_l3Apart.l1.eq_2 ..) (Ev.neg (by omega) ?_)
      rw [w1 (i := i) i0 (by omega)]
      exact hg)
    (fun i i0 i1 he hp => by
      refine Ev.step (fun k => spec_l3Apart.l0.eq_2 ..) (Ev.pos i1 (Ev.pos i0 ?_))
      rw [l3In_some]
      by_cases hr : Rg (rd xs i)
      · rw [decide_eq_true hr]
        refine Ev.some' (Ev.pos rfl ?_)
        exact loopP_stop (g := fun k j => spec_l3Apart.l1 k l xs i j) (N := i) (P := fun j => rd xs j ≠ rd xs i ∧ ∀ h, 0 ≤ h → h < j → threeI (mOf l) (rd xs i) (rd xs j) (rd xs h) = false) (fun j j0 j1 _ hp' hg' => P1 i j false j0 j1 i1 hr (fun h' h0 h1 => (he h' h0 h1).1) hp' hg') (fun j j0 j1 _ hp' => N1 i j j0 j1 i1 hr (fun h' h0 h1 => (he h' h0 h1).1) hp') (fun z => hp ⟨hr, z⟩)
      · rw [decide_eq_false hr]
        exact Ev.some' (Ev.neg (by decide) (Ev.now _)))
    (fun _ => Ev.step (fun k => spec_l3Apart.l0.eq_2 ..) (Ev.neg (by omega) (Ev.now _)))
  refine ⟨b, hb, ?_⟩
  rw [hbi]
  constructor
  · intro z
    exact ⟨fun i i0 i1 => ⟨(z i i0 i1).1, fun j j0 j1 => ((z i i0 i1).2 j j0 j1).1⟩, fun i j h' h0 h1 h2 h3 => ((z i (by omega) h3).2 j (by omega) h2).2 h' h0 h1⟩
  · intro z i i0 i1
    exact ⟨(z.1 i i0 i1).1, fun j j0 j1 => ⟨(z.1 i i0 i1).2 j j0 j1, fun h' h0 h1 => z.2 i j h' h0 h1 j1 i1⟩⟩

end Go.Proofs.Ytiobhhcbdcbajaa.Pure
