/- Lines have ten points. No conditions. -/
import Derived.Test.YtpfennpbemeikaaPx31
import Derived.Test.YtpfennpbemeikaaDrawPl
import Derived.Test.YtpfennpbemeikaaSliceSame
set_option linter.unusedVariables false
set_option linter.unusedSimpArgs false
namespace Go.Proofs.Ytpfennpbemeikaa.Pure
open Go.RowKit Go.Proofs.Ytpfennpbemeikaa.P Go.Proofs.Ytpfennpbemeikaa.Nine Go.Proofs.YtpfennpbemeikaaW.PrintWords Go.Proofs.YtpfennpbemeikaaW.PrintLast

theorem FnPoints_rows {t : List Int} (hn : (t.length : Int) ≤ 9223372036854775806) (h : sysI t = true) {p : Int} (hp : Rg p) : Ev (fun k => laws_FnPoints.l0 k t p (pointsI (mOf t) p) 1) true := by
  have S := sysI_s h
  have hl := pointsI_len (mOf t) hp
  have ha := pointsI_asc (mOf t) p
  have mm : ∀ i : Int, 0 ≤ i ∧ i < 10 → Rg (rd (pointsI (mOf t) p) i) ∧ onI (mOf t) (rd (pointsI (mOf t) p) i) p = true := fun i hi => mem_pointsI.mp (mem_of_rd hi.1 (by omega))
  have meets : ∀ i j : Int, 0 ≤ i → i < j → j < 10 → Ev (fun k => impl_PlaneJoin.f k t (rd (pointsI (mOf t) p) i) (rd (pointsI (mOf t) p) j)) (p, true) := fun i j i0 ij j1 => by
    have ne : rd (pointsI (mOf t) p) i ≠ rd (pointsI (mOf t) p) j := by have := asc_lt ha i0 ij (by omega); omega
    have mi := mm i ⟨i0, by omega⟩
    have mj := mm j ⟨by omega, j1⟩
    obtain ⟨r, _, hr, hr'⟩ := join_both hn (rd (pointsI (mOf t) p) i) (rd (pointsI (mOf t) p) j)
    have e : r = (joinI (mOf t) (rd (pointsI (mOf t) p) i) (rd (pointsI (mOf t) p) j), true) := hr'.elim (fun x => x.2.2.2.2) (fun x => absurd ⟨h, mi.1, mj.1, ne⟩ x.1)
    rw [S.join_eq mi.1 mj.1 ne hp mi.2 mj.2] at e
    subst e
    exact hr
  refine loop_go (g := fun k i => laws_FnPoints.l0 k t p (pointsI (mOf t) p) i) (N := 10) (by omega) ?_ ?_
  · intro i i0 i1 hg
    refine Ev.step (fun k => laws_FnPoints.l0.eq_2 ..) ?_
    rw [w64 (n := i - 1) (by omega) (by omega), w1 (i := i) (by omega) (by omega)]
    have := asc_lt ha (i := i - 1) (j := i) (by omega) (by omega) (by omega)
    exact Ev.pos (by omega) (Ev.pos (by omega) (Ev.pos (by omega) (Ev.pos (by omega) (Ev.neg (by omega) hg))))
  · refine Ev.step (fun k => laws_FnPoints.l0.eq_2 ..) (Ev.neg (by omega) (Ev.pos (by omega) (Ev.pos (by omega) (Ev.pos (by omega) (Ev.bind (meets 0 1 (by omega) (by omega) (by omega)) (Ev.pos (by omega) (Ev.pos (by omega) (Ev.bind (meets 2 9 (by omega) (by omega) (by omega)) (Ev.pos rfl (Ev.pos rfl (Ev.pos rfl ?_)))))))))))
    rw [show (p == p) = true from beq_iff_eq.mpr rfl]
    exact Ev.now _
theorem FnPoints_tail {t : List Int} (hn : (t.length : Int) ≤ 9223372036854775806) (p : Int) : Ev (fun k => (impl_PlanePoints.f t p).bind fun bt539 => ((spec_PlanePoints.f k t p).bind fun bt543 => (if (bt539.2 != bt543.2) = true then (laws_FnPoints.j0 k t p bt539.1 bt539.2 bt543.1 bt543.2 true) else ((laws_sameInts.f k bt539.1 bt543.1).bind fun t547 => (if t547 = true then (laws_FnPoints.j0 k t p bt539.1 bt539.2 bt543.1 bt543.2 (!bt539.2)) else (laws_FnPoints.j0 k t p bt539.1 bt539.2 bt543.1 bt543.2 true)))))) true := by
  obtain ⟨r, hs, hi, hr⟩ := points_both hn p
  have hx : (r.1.length : Int) ≤ 9223372036854775806 := by
    rcases hr with ⟨_, _, e⟩ | ⟨_, e⟩
    · rw [e]
      have := r91_max 0 (fun z => onI (mOf t) z p)
      have : ((pointsI (mOf t) p).length : Int) ≤ 91 := this
      show ((pointsI (mOf t) p).length : Int) ≤ _
      omega
    · rw [e]
      show (0 : Int) ≤ _
      omega
  rw [hi]
  refine Ev.some' (Ev.bind hs (Ev.neg (by cases r.2 <;> decide) (Ev.bind (same_ev hx) (Ev.pos rfl ?_))))
  rcases hr with ⟨h, hp, rfl⟩ | ⟨_, rfl⟩
  · exact Ev.step (fun k => laws_FnPoints.j0.eq_2 ..) (Ev.neg Bool.false_ne_true (FnPoints_rows hn h hp))
  · exact Ev.step (fun k => laws_FnPoints.j0.eq_2 ..) (Ev.pos rfl (Ev.pos rfl (Ev.bind (same_ev (by show (0 : Int) ≤ _; omega)) (Ev.now _))))
theorem FnPoints : laws_FnPoints.Pure := by
  intro l hl _ hb
  apply Ev.rounds
  unfold laws_FnPoints.f spec_DrawPlanePoints.f spec_l91One.f
  refine of_draw2 (f := fun k x => (spec_l91System.f k x.1 x.2).bind fun bt523 => ((spec_l91Point.f k x.1 bt523.2).bind fun bt527 => (some (bt523.1, bt527.1)))) (c := fun bt529 => some (bt529.1, bt529.2)) hl hb fun b hb' hl' => ?_
  obtain ⟨t, q0, ht, hn, _, _⟩ := sys_draw hb' hl' 0 (by omega) (by omega)
  obtain ⟨p, q1, hp, _, _⟩ := point_draw hb' hl' q0 (by omega) (by omega)
  have hn' : (t.length : Int) ≤ 9223372036854775806 := by omega
  refine ⟨(t, p), (t, p), Ev.bind ht (Ev.bind hp (Ev.now _)), rfl, ?_⟩
  exact FnPoints_tail hn' p

end Go.Proofs.Ytpfennpbemeikaa.Pure
