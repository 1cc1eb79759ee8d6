/- Quadrangles have three diagonal points, none of them of the four. No conditions. -/
import Derived.Test.YtiobhhcbdcbajaaPx41
import Derived.Test.YtiobhhcbdcbajaaQuadBoth
import Derived.Test.YtiobhhcbdcbajaaDrawFour
import Derived.Test.YtiobhhcbdcbajaaSliceSame
set_option linter.unusedVariables false
set_option linter.unusedSimpArgs false
namespace Go.Proofs.Ytiobhhcbdcbajaa.Pure
open Go.RowKit Go.Proofs.Ytiobhhcbdcbajaa.P Go.Proofs.Ytiobhhcbdcbajaa.Nine Go.Proofs.YtiobhhcbdcbajaaW.PrintWords Go.Proofs.YtiobhhcbdcbajaaW.PrintLast

theorem FnQuad_rows {m : Fin 9 → Fin 9 → Fin 9} {xs : List Int} (h4 : (xs.length : Int) = 4) (S : Nine.Sys m) (hap : Apart m xs) : Ev (fun k => laws_FnQuad.l0 k xs (diag m xs) 0) true := by
  have hq := apart_quad S hap h4
  have dg := S.quad_diag hq
  have dl : ((diag m xs).length : Int) = 3 := rfl
  refine loop_go (g := fun k i => laws_FnQuad.l0 k xs (diag m xs) i) (N := 3) (by omega) ?_ ?_
  · intro i i0 i1 hgo
    refine Ev.step (fun k => laws_FnQuad.l0.eq_2 ..) (Ev.pos i1 ?_)
    refine loop_go (g := fun k j => laws_FnQuad.l1 k xs (diag m xs) i j) (N := 4) (by omega) ?_ ?_
    · intro j j0 j1 hg
      refine Ev.step (fun k => laws_FnQuad.l1.eq_2 ..) ?_
      rw [w1 (i := j) j0 (by omega)]
      refine Ev.pos j1 (Ev.pos i0 (Ev.pos (by omega) (Ev.pos j0 (Ev.pos (by omega) (Ev.neg ?_ hg)))))
      refine dg.1 (rd (diag m xs) i) ?_ (rd xs j) ?_
      · rcases (show i = 0 ∨ i = 1 ∨ i = 2 by omega) with rfl | rfl | rfl
        · exact List.mem_cons_self
        · exact List.mem_cons_of_mem _ List.mem_cons_self
        · exact List.mem_cons_of_mem _ (List.mem_cons_of_mem _ List.mem_cons_self)
      · rcases (show j = 0 ∨ j = 1 ∨ j = 2 ∨ j = 3 by omega) with rfl | rfl | rfl | rfl <;> simp
    · refine Ev.step (fun k => laws_FnQuad.l1.eq_2 ..) (Ev.neg (by omega) ?_)
      rw [w1 (i := i) i0 (by omega)]
      exact hgo
  · have e : ((rd (diag m xs) 1) != (rd (diag m xs) 2)) = true := bne_iff_ne.mpr dg.2.2.2
    refine Ev.step (fun k => laws_FnQuad.l0.eq_2 ..) (Ev.neg (by omega) (Ev.pos dl (Ev.pos (by omega) (Ev.pos (by omega) (Ev.neg dg.2.1 (Ev.pos (by omega) (Ev.neg dg.2.2.1 ?_)))))))
    rw [e]
    exact Ev.now _
theorem FnQuad_tail {t xs : List Int} (hn : (t.length : Int) ≤ 9223372036854775806) (h4 : xs.length = 4) : Ev (fun k => (impl_QuadPoints.f k t xs).bind fun bt762 => ((spec_QuadPoints.f k t xs).bind fun bt766 => (if (bt762.2 != bt766.2) = true then (laws_FnQuad.j0 k xs bt762.1 bt762.2 bt766.1 bt766.2 true) else ((laws_sameInts.f k bt762.1 bt766.1).bind fun t770 => (if t770 = true then (laws_FnQuad.j0 k xs bt762.1 bt762.2 bt766.1 bt766.2 (!bt762.2)) else (laws_FnQuad.j0 k xs bt762.1 bt762.2 bt766.1 bt766.2 true)))))) true := by
  obtain ⟨r, hs, hi, h3, hr⟩ := quadPoints_both hn xs (by omega)
  have hx : (r.1.length : Int) ≤ 9223372036854775806 := by omega
  refine Ev.bind hi (Ev.bind hs (Ev.neg (by cases r.2 <;> decide) (Ev.bind (same_ev hx) (Ev.pos rfl ?_))))
  rcases hr with ⟨h, h4', hap, rfl⟩ | ⟨_, rfl⟩
  · exact Ev.step (fun k => laws_FnQuad.j0.eq_2 ..) (Ev.neg Bool.false_ne_true (FnQuad_rows h4' (sysI_s h) hap))
  · exact Ev.step (fun k => laws_FnQuad.j0.eq_2 ..) (Ev.pos rfl (Ev.pos rfl (Ev.bind (same_ev (by show (0 : Int) ≤ _; omega)) (Ev.now _))))
theorem FnQuad : laws_FnQuad.Pure := by
  intro l hl _ hb
  apply Ev.rounds
  unfold laws_FnQuad.f spec_DrawQuadPoints.f spec_l91Four.f
  refine of_draw2 (f := fun k x => (spec_l91System.f k x.1 x.2).bind fun bt313 => ((spec_l91Quad.f k x.1 bt313.2).bind fun bt317 => (some (bt313.1, bt317.1)))) (c := fun z => some (z.1, z.2)) hl hb fun b hb' hl' => ?_
  obtain ⟨t, q0, ht, hn, _, _⟩ := sys_draw hb' hl' 0 (by omega) (by omega)
  obtain ⟨xs, q1, hx, h4, _, _⟩ := quad_draw hb' hl' q0 (by omega) (by omega)
  have hn' : (t.length : Int) ≤ 9223372036854775806 := by omega
  exact ⟨(t, xs), (t, xs), Ev.bind ht (Ev.bind hx (Ev.now _)), rfl, FnQuad_tail hn' h4⟩

end Go.Proofs.Ytiobhhcbdcbajaa.Pure
