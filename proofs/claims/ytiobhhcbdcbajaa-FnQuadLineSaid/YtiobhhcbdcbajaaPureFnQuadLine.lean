/- Over fields no quadrangle has its three points on one line. No conditions. -/
import Derived.Test.YtiobhhcbdcbajaaPx32
import Derived.Test.YtiobhhcbdcbajaaQuadBoth
import Derived.Test.YtiobhhcbdcbajaaDrawFour
import Derived.Test.YtiobhhcbdcbajaaThreeBoth
set_option linter.unusedVariables false
set_option linter.unusedSimpArgs false
namespace Go.Proofs.Ytiobhhcbdcbajaa.Pure
open Go.RowKit Go.Proofs.Ytiobhhcbdcbajaa.P Go.Proofs.Ytiobhhcbdcbajaa.Nine Go.Proofs.YtiobhhcbdcbajaaW.PrintWords Go.Proofs.YtiobhhcbdcbajaaW.PrintLast

theorem field_of {t : List Int} (h : sysI t = true) : ∃ f : Bool, laws_field.f t = some f ∧ (f = true ↔ Fld (mOf t)) := by
  have hn := sysI_n h
  unfold laws_field.f impl_SystemBoth.f impl_SystemBrackets.f
  rw [h, Bool.true_and, Bool.true_and]
  refine ⟨all3 (bothI t) && all3 (brkI t), ?_, ?_⟩
  · cases all3 (bothI t) <;> rfl
  · rw [Bool.and_eq_true, both_iff hn, brk_iff hn]
    exact ⟨fun z => ⟨sysI_s h, z.1, z.2⟩, fun z => ⟨z.both, z.brk⟩⟩
theorem FnQuadLine_tail {t xs : List Int} (hn : (t.length : Int) ≤ 9223372036854775806) (h4 : xs.length = 4) : Ev (fun k => (impl_QuadLine.f k t xs).bind fun t414 => ((spec_QuadLine.f k t xs).bind fun t415 => (if (t414 != t415) = true then (laws_FnQuadLine.j0 k t xs t414 t415 true) else (laws_FnQuadLine.j0 k t xs t414 t415 (!t414))))) true := by
  obtain ⟨b, hs, hi, hb⟩ := quadLine_both hn xs (by omega)
  refine Ev.bind hi (Ev.bind hs (Ev.neg (by cases b <;> decide) ?_))
  cases b with
  | false => exact Ev.step (fun k => laws_FnQuadLine.j0.eq_2 ..) (Ev.pos rfl (Ev.now _))
  | true =>
    obtain ⟨⟨h, h4', hap⟩, hc⟩ := hb.mp rfl
    have S := sysI_s h
    have hq := apart_quad S hap h4'
    have dg := S.quad_diag hq
    obtain ⟨r, _, hr, _, hr'⟩ := quadPoints_both hn xs (by omega)
    have er : r = (diag (mOf t) xs, true) := hr'.elim (fun z => z.2.2.2) (fun z => absurd ⟨h, h4', hap⟩ z.1)
    subst er
    have r0 := (S.cross_on hq.hp hq.hq hq.hr hq.hs hq.pq hq.rs).1
    have r1 := (S.cross_on hq.hp hq.hr hq.hq hq.hs hq.pr hq.qs).1
    have r2 := (S.cross_on hq.hp hq.hs hq.hq hq.hr hq.ps hq.qr).1
    have ht : threeI (mOf t) (rd (diag (mOf t) xs) 0) (rd (diag (mOf t) xs) 1) (rd (diag (mOf t) xs) 2) = true := by
      have e : closesI (mOf t) (crossI (mOf t) (rd xs 0) (rd xs 1) (rd xs 2) (rd xs 3)) (crossI (mOf t) (rd xs 0) (rd xs 2) (rd xs 1) (rd xs 3)) (crossI (mOf t) (rd xs 0) (rd xs 3) (rd xs 1) (rd xs 2)) = true := hc
      unfold closesI at e
      rw [decide_eq_false dg.2.1, decide_eq_false dg.2.2.1, decide_eq_false dg.2.2.2, Bool.false_or, Bool.false_or, Bool.false_or] at e
      exact e
    obtain ⟨f, hf, hfi⟩ := field_of h
    have ef : f = false := Bool.eq_false_iff.mpr fun e => by
      have := (hfi.mp e).quad hq
      have ht' : threeI (mOf t) (crossI (mOf t) (rd xs 0) (rd xs 1) (rd xs 2) (rd xs 3)) (crossI (mOf t) (rd xs 0) (rd xs 2) (rd xs 1) (rd xs 3)) (crossI (mOf t) (rd xs 0) (rd xs 3) (rd xs 1) (rd xs 2)) = true := ht
      rw [ht'] at this
      cases this
    subst ef
    obtain ⟨c, hc', hcc⟩ := three_impl_both (t := t) (rd (diag (mOf t) xs) 0) (rd (diag (mOf t) xs) 1) (rd (diag (mOf t) xs) 2)
    have ec : c = true := hcc.mpr ⟨h, ⟨r0, r1, r2, dg.2.1, dg.2.2.1, dg.2.2.2⟩, ht⟩
    subst ec
    refine Ev.step (fun k => laws_FnQuadLine.j0.eq_2 ..) (Ev.neg (by decide) (Ev.bind hr (Ev.pos rfl ?_)))
    rw [hf]
    exact Ev.some' (Ev.neg (by decide) (Ev.pos (by show (0 : Int) < 3; decide) (Ev.pos (by show (1 : Int) < 3; decide) (Ev.pos (by show (2 : Int) < 3; decide) (Ev.bind hc' (Ev.now _))))))
theorem FnQuadLine : laws_FnQuadLine.Pure := by
  intro l hl _ hb
  apply Ev.rounds
  unfold laws_FnQuadLine.f spec_DrawQuadLine.f spec_l91Four.f
  refine of_draw2 (f := fun k x => (spec_l91System.f k x.1 x.2).bind fun bt313 => ((spec_l91Quad.f k x.1 bt313.2).bind fun bt317 => (some (bt313.1, bt317.1)))) (c := fun z => some (z.1, z.2)) hl hb fun b hb' hl' => ?_
  obtain ⟨t, q0, ht, hn, _, _⟩ := sys_draw hb' hl' 0 (by omega) (by omega)
  obtain ⟨xs, q1, hx, h4, _, _⟩ := quad_draw hb' hl' q0 (by omega) (by omega)
  have hn' : (t.length : Int) ≤ 9223372036854775806 := by omega
  exact ⟨(t, xs), (t, xs), Ev.bind ht (Ev.bind hx (Ev.now _)), rfl, FnQuadLine_tail hn' h4⟩

end Go.Proofs.Ytiobhhcbdcbajaa.Pure
