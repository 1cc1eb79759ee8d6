/- Quadrangles: the program and the reference tell the same. Conditions: the table's length is an int's. -/
import Derived.Test.YtiobhhcbdcbajaaClosing
import Derived.Test.YtiobhhcbdcbajaaPlaneApart
import Derived.Test.YtiobhhcbdcbajaaPx22
import Derived.Test.YtiobhhcbdcbajaaPx23
import Derived.Test.YtiobhhcbdcbajaaPx24
import Derived.Test.YtiobhhcbdcbajaaPx25
set_option linter.unusedVariables false
set_option linter.unusedSimpArgs false
namespace Go.Proofs.Ytiobhhcbdcbajaa.Pure
open Go.RowKit Go.Proofs.Ytiobhhcbdcbajaa.P Go.Proofs.Ytiobhhcbdcbajaa.Nine Go.Proofs.YtiobhhcbdcbajaaW.PrintWords Go.Proofs.YtiobhhcbdcbajaaW.PrintLast

theorem apart_tri {m : Fin 9 → Fin 9 → Fin 9} (S : Nine.Sys m) {xs : List Int} (h : Apart m xs) {i j k : Int} (k0 : 0 ≤ k) (kj : k < j) (ji : j < i) (i1 : i < xs.length) : Tri m (rd xs k) (rd xs j) (rd xs i) := fun l hl ⟨a, b, c⟩ => by
  have ri := (h.1 i (by omega) i1).1
  have rj := (h.1 j (by omega) (by omega)).1
  have rk := (h.1 k k0 (by omega)).1
  have := (S.three_iff ri rj rk (dif_ne h.1 (by omega) ji i1) (dif_ne h.1 k0 (by omega) i1) (dif_ne h.1 k0 kj (by omega))).mpr ⟨l, hl, c, b, a⟩
  rw [h.2 i j k k0 kj ji i1] at this
  cases this
/-- Four numbers apart are a quadrangle. -/
theorem apart_quad {m : Fin 9 → Fin 9 → Fin 9} (S : Nine.Sys m) {xs : List Int} (h : Apart m xs) (h4 : (xs.length : Int) = 4) : Quad m (rd xs 0) (rd xs 1) (rd xs 2) (rd xs 3) :=
  ⟨(h.1 0 (by omega) (by omega)).1, (h.1 1 (by omega) (by omega)).1, (h.1 2 (by omega) (by omega)).1, (h.1 3 (by omega) (by omega)).1,
   dif_at h.1 (by omega) (by omega) (by omega) (by omega) (by omega), dif_at h.1 (by omega) (by omega) (by omega) (by omega) (by omega), dif_at h.1 (by omega) (by omega) (by omega) (by omega) (by omega),
   dif_at h.1 (by omega) (by omega) (by omega) (by omega) (by omega), dif_at h.1 (by omega) (by omega) (by omega) (by omega) (by omega), dif_at h.1 (by omega) (by omega) (by omega) (by omega) (by omega),
   apart_tri S h (by omega) (by omega) (by omega) (by omega), apart_tri S h (by omega) (by omega) (by omega) (by omega), apart_tri S h (by omega) (by omega) (by omega) (by omega), apart_tri S h (by omega) (by omega) (by omega) (by omega)⟩
/-- The three diagonal points. -/
def diag (m : Fin 9 → Fin 9 → Fin 9) (xs : List Int) : List Int := [crossI m (rd xs 0) (rd xs 1) (rd xs 2) (rd xs 3), crossI m (rd xs 0) (rd xs 2) (rd xs 1) (rd xs 3), crossI m (rd xs 0) (rd xs 3) (rd xs 1) (rd xs 2)]
theorem quadPts {l : List Int} (h : sysI l = true) {xs : List Int} (h4 : (xs.length : Int) = 4) (hq : Quad (mOf l) (rd xs 0) (rd xs 1) (rd xs 2) (rd xs 3)) : Ev (fun k => impl_plane_quadPoints.f k l xs) (diag (mOf l) xs) := by
  unfold impl_plane_quadPoints.f
  exact Ev.pos (by omega) (Ev.pos (by omega) (Ev.pos (by omega) (Ev.pos (by omega) (Ev.bind (cross_impl h hq.hp hq.hq hq.hr hq.hs hq.pq hq.rs) (Ev.bind (cross_impl h hq.hp hq.hr hq.hq hq.hs hq.pr hq.qs) (Ev.bind (cross_impl h hq.hp hq.hs hq.hq hq.hr hq.ps hq.qr) (Ev.now _)))))))
theorem quadPoints_both' {l : List Int} (hl : (l.length : Int) ≤ 9223372036854775806) (xs : List Int) :
    ∃ r : List Int × Bool, Ev (fun k => spec_QuadPoints.f k l xs) r ∧ Ev (fun k => impl_QuadPoints.f k l xs) r ∧ ((sysI l = true ∧ (xs.length : Int) = 4 ∧ Apart (mOf l) xs ∧ r = (diag (mOf l) xs, true) ∧ Ev (fun k => impl_QuadLine.f k l xs) (closesI (mOf l) (rd (diag (mOf l) xs) 0) (rd (diag (mOf l) xs) 1) (rd (diag (mOf l) xs) 2))) ∨ (¬ (sysI l = true ∧ (xs.length : Int) = 4 ∧ Apart (mOf l) xs) ∧ r = ([], false) ∧ Ev (fun k => impl_QuadLine.f k l xs) false)) := by
  have no : Ev (fun k => spec_QuadPoints.j0 k l xs true) ([], false) := Ev.step (fun k => spec_QuadPoints.j0.eq_2 ..) (Ev.pos rfl (Ev.now _))
  unfold spec_QuadPoints.f impl_QuadPoints.f impl_QuadLine.f
  rw [isSys_some]
  by_cases h4 : (xs.length : Int) = 4
  · cases h : sysI l with
    | false =>
      refine ⟨([], false), Ev.pos h4 (Ev.bind (a := false) ?_ no), Ev.some' (Ev.neg (by decide) (Ev.now _)), .inr ⟨by simp, rfl, Ev.some' (Ev.neg (by decide) (Ev.now _))⟩⟩
      unfold spec_PlaneApart.f
      exact Ev.bind (sysIn_ev hl) (by rw [h]; exact Ev.neg (by decide) (Ev.now _))
    | true =>
      obtain ⟨b, hb, hbi⟩ := apart_impl (xs := xs) h (by omega)
      obtain ⟨c, hc, hci⟩ := apart_spec (xs := xs) h (by omega)
      have e : c = b := by rw [Bool.eq_iff_iff, hbi, hci]
      subst e
      have hsp : Ev (fun k => spec_PlaneApart.f k l xs) c := by
        unfold spec_PlaneApart.f
        refine Ev.bind (sysIn_ev hl) (Ev.pos h ?_)
        rw [show spec_l6In.f (xs.length : Int) 3 20 = some true by unfold spec_l6In.f; rw [if_pos (by omega), decide_eq_true (by omega)]]
        exact Ev.some' (Ev.pos rfl (Ev.bind hc (Ev.now _)))
      have hq' : Ev (fun k => impl_plane_isQuad.f k l xs) c := by
        unfold impl_plane_isQuad.f
        exact Ev.pos h4 (Ev.bind hb (Ev.now _))
      cases c with
      | false =>
        exact ⟨([], false), Ev.pos h4 (Ev.bind hsp no), Ev.some' (Ev.pos rfl (Ev.bind hq' (Ev.neg (by decide) (Ev.now _)))), .inr ⟨fun z => (by have := hbi.mpr z.2.2; cases this), rfl, Ev.some' (Ev.pos rfl (Ev.bind hq' (Ev.neg (by decide) (Ev.now _))))⟩⟩
      | true =>
        have hap := hbi.mp rfl
        have S := sysI_s h
        have hq := apart_quad S hap h4
        have d := S.quad_diag hq
        refine ⟨(diag (mOf l) xs, true), Ev.pos h4 (Ev.bind hsp ?_), Ev.some' (Ev.pos rfl (Ev.bind hq' (Ev.pos rfl (Ev.bind (quadPts h h4 hq) (Ev.now _))))), .inl ⟨rfl, h4, hap, rfl, Ev.some' (Ev.pos rfl (Ev.bind hq' (Ev.pos rfl (Ev.bind (quadPts h h4 hq) (Ev.bind (closes_impl h (S.cross_on hq.hp hq.hq hq.hr hq.hs hq.pq hq.rs).1 (S.cross_on hq.hp hq.hr hq.hq hq.hs hq.pr hq.qs).1 (S.cross_on hq.hp hq.hs hq.hq hq.hr hq.ps hq.qr).1) (Ev.now _))))))⟩⟩
        exact Ev.step (fun k => spec_QuadPoints.j0.eq_2 ..) (Ev.neg (by decide) (Ev.pos (by omega) (Ev.pos (by omega) (Ev.pos (by omega) (Ev.pos (by omega) (Ev.bind (cross_spec h hq.hp hq.hq hq.hr hq.hs hq.pq hq.rs) (Ev.bind (cross_spec h hq.hp hq.hr hq.hq hq.hs hq.pr hq.qs) (Ev.bind (cross_spec h hq.hp hq.hs hq.hq hq.hr hq.ps hq.qr) (Ev.now _)))))))))
  · have hq' : Ev (fun k => impl_plane_isQuad.f k l xs) false := by
      unfold impl_plane_isQuad.f
      exact Ev.neg h4 (Ev.now _)
    refine ⟨([], false), Ev.neg h4 no, ?_, .inr ⟨fun z => h4 z.2.1, rfl, ?_⟩⟩
    · cases h : sysI l with
      | false => exact Ev.some' (Ev.neg (by decide) (Ev.now _))
      | true => exact Ev.some' (Ev.pos rfl (Ev.bind hq' (Ev.neg (by decide) (Ev.now _))))
    · cases h : sysI l with
      | false => exact Ev.some' (Ev.neg (by decide) (Ev.now _))
      | true => exact Ev.some' (Ev.pos rfl (Ev.bind hq' (Ev.neg (by decide) (Ev.now _))))
theorem quadPoints_both {l : List Int} (hl : (l.length : Int) ≤ 9223372036854775806) (xs : List Int) (_ : (xs.length : Int) ≤ 9223372036854775806) :
    ∃ r : List Int × Bool, Ev (fun k => spec_QuadPoints.f k l xs) r ∧ Ev (fun k => impl_QuadPoints.f k l xs) r ∧ ((r.1.length : Int) ≤ 3 ∧ ((sysI l = true ∧ (xs.length : Int) = 4 ∧ Apart (mOf l) xs ∧ r = (diag (mOf l) xs, true)) ∨ (¬ (sysI l = true ∧ (xs.length : Int) = 4 ∧ Apart (mOf l) xs) ∧ r = ([], false)))) := by
  obtain ⟨r, hs, hi, hr⟩ := quadPoints_both' hl xs
  refine ⟨r, hs, hi, ?_, hr.imp (fun z => ⟨z.1, z.2.1, z.2.2.1, z.2.2.2.1⟩) (fun z => ⟨z.1, z.2.1⟩)⟩
  rcases hr with ⟨_, _, _, e, _⟩ | ⟨_, e, _⟩
  · rw [e]; show (3 : Int) ≤ 3; decide
  · rw [e]; show (0 : Int) ≤ 3; decide
theorem quadLine_both {l : List Int} (hl : (l.length : Int) ≤ 9223372036854775806) (xs : List Int) (_ : (xs.length : Int) ≤ 9223372036854775806) :
    ∃ b : Bool, Ev (fun k => spec_QuadLine.f k l xs) b ∧ Ev (fun k => impl_QuadLine.f k l xs) b ∧ (b = true ↔ (sysI l = true ∧ (xs.length : Int) = 4 ∧ Apart (mOf l) xs) ∧ closesI (mOf l) (rd (diag (mOf l) xs) 0) (rd (diag (mOf l) xs) 1) (rd (diag (mOf l) xs) 2) = true) := by
  obtain ⟨r, hs, _, hr⟩ := quadPoints_both' hl xs
  unfold spec_QuadLine.f
  rcases hr with ⟨h, h4, hap, e, hL⟩ | ⟨hn, e, hL⟩
  · subst e
    have S := sysI_s h
    have hq := apart_quad S hap h4
    refine ⟨_, Ev.bind hs (Ev.pos rfl (Ev.pos (by show (0 : Int) < 3; decide) (Ev.pos (by show (1 : Int) < 3; decide) (Ev.pos (by show (2 : Int) < 3; decide) (Ev.bind (row_spec h (S.cross_on hq.hp hq.hq hq.hr hq.hs hq.pq hq.rs).1 (S.cross_on hq.hp hq.hr hq.hq hq.hs hq.pr hq.qs).1 (S.cross_on hq.hp hq.hs hq.hq hq.hr hq.ps hq.qr).1) (Ev.now _)))))), hL, ⟨fun z => ⟨⟨h, h4, hap⟩, z⟩, fun z => z.2⟩⟩
  · subst e
    exact ⟨false, Ev.bind hs (Ev.neg Bool.false_ne_true (Ev.now _)), hL, ⟨fun z => (by cases z), fun z => absurd z.1 hn⟩⟩

end Go.Proofs.Ytiobhhcbdcbajaa.Pure
