/- Points of a line have it among their lines. No conditions. -/
import Derived.Test.YtpfennpbemeikaaPx25
import Derived.Test.YtpfennpbemeikaaDrawPl
set_option linter.unusedVariables false
set_option linter.unusedSimpArgs false
namespace Go.Proofs.Ytpfennpbemeikaa.Pure
open Go.RowKit Go.Proofs.Ytpfennpbemeikaa.P Go.Proofs.Ytpfennpbemeikaa.Nine Go.Proofs.YtpfennpbemeikaaW.PrintWords Go.Proofs.YtpfennpbemeikaaW.PrintLast

theorem FnOn_one (p q : Int) (xs ys : List Int) (u v s : Bool) (hl : (xs.length : Int) ≤ 91) (hs : Ev (fun k => laws_FnOn.l1 k q u ys v (decide (p ∈ xs)) false 0) s) : Ev (fun k => laws_FnOn.l0 k p q xs u ys v false false 0) s := by
  refine loop_from (g := fun k (x : Bool) i => laws_FnOn.l0 k p q xs u ys v x false i) (N := xs.length) (acc := fun i => decide (p ∈ xs.take i.toNat)) (s := 0) (by omega) ?_ ?_
  · intro i i0 i1 hg
    refine Ev.step (fun k => laws_FnOn.l0.eq_2 ..) (Ev.pos i1 ?_)
    rw [w1 i0 (by omega)]
    by_cases h : p ∈ xs.take i.toNat
    · rw [decide_eq_true (by rw [take_rd xs i0 i1]; exact List.mem_append_left _ h)] at hg
      rw [decide_eq_true h]
      exact Ev.pos rfl hg
    · rw [decide_eq_false h]
      rw [flag_step i0 i1 h] at hg
      exact Ev.neg (by decide) (Ev.pos i0 hg)
  · refine Ev.step (fun k => laws_FnOn.l0.eq_2 ..) (Ev.neg (by omega) ?_)
    simp only [Int.toNat_natCast, List.take_length]
    exact hs
theorem FnOn_other (q : Int) (ys : List Int) (u v a s : Bool) (hl : (ys.length : Int) ≤ 91) (hs : (if u = true then (if v = true then (if a = true then decide (q ∈ ys) else false) else false) else false) = s) : Ev (fun k => laws_FnOn.l1 k q u ys v a false 0) s := by
  refine loop_from (g := fun k (x : Bool) i => laws_FnOn.l1 k q u ys v a x i) (N := ys.length) (acc := fun i => decide (q ∈ ys.take i.toNat)) (s := 0) (by omega) ?_ ?_
  · intro i i0 i1 hg
    refine Ev.step (fun k => laws_FnOn.l1.eq_2 ..) (Ev.pos i1 ?_)
    rw [w1 i0 (by omega)]
    by_cases h : q ∈ ys.take i.toNat
    · rw [decide_eq_true (by rw [take_rd ys i0 i1]; exact List.mem_append_left _ h)] at hg
      rw [decide_eq_true h]
      exact Ev.pos rfl hg
    · rw [decide_eq_false h]
      rw [flag_step i0 i1 h] at hg
      exact Ev.neg (by decide) (Ev.pos i0 hg)
  · refine Ev.step (fun k => laws_FnOn.l1.eq_2 ..) (Ev.neg (by omega) ?_)
    simp only [Int.toNat_natCast, List.take_length]
    subst hs
    cases u <;> cases v <;> cases a <;> exact Ev.now _
theorem FnOn_tail {t : List Int} (hn : (t.length : Int) ≤ 9223372036854775806) (p q : Int) : Ev (fun k => (impl_PlaneOn.f t p q).bind fun t449 => ((spec_PlaneOn.f k t p q).bind fun t450 => (if (t449 != t450) = true then (laws_FnOn.j0 k t p q t449 t450 true) else (laws_FnOn.j0 k t p q t449 t450 (!t449))))) true := by
  obtain ⟨b, hs, hi, hb⟩ := on_both hn p q
  rw [hi]
  refine Ev.some' (Ev.bind hs (Ev.neg (by cases b <;> decide) ?_))
  cases b with
  | false => exact Ev.step (fun k => laws_FnOn.j0.eq_2 ..) (Ev.pos rfl (Ev.now _))
  | true =>
    obtain ⟨h, hp, hq, ho⟩ := hb.mp rfl
    obtain ⟨r, _, hr, hr'⟩ := points_both hn q
    obtain ⟨s, _, hs', hs''⟩ := lines_both hn p
    have e1 : r = (pointsI (mOf t) q, true) := hr'.elim (fun x => x.2.2) (fun x => absurd ⟨h, hq⟩ x.1)
    have e2 : s = (linesI (mOf t) p, true) := hs''.elim (fun x => x.2.2) (fun x => absurd ⟨h, hp⟩ x.1)
    subst e1
    subst e2
    refine Ev.step (fun k => laws_FnOn.j0.eq_2 ..) (Ev.neg (by decide) ?_)
    rw [hr, hs']
    refine Ev.some' (Ev.some' (FnOn_one _ _ _ _ _ _ _ (show ((pointsI (mOf t) q).length : Int) ≤ 91 from r91_max 0 _) (FnOn_other _ _ _ _ _ _ (show ((linesI (mOf t) p).length : Int) ≤ 91 from r91_max 0 _) ?_)))
    simp only [decide_eq_true (mem_pointsI.mpr ⟨hp, ho⟩), decide_eq_true (mem_linesI.mpr ⟨hq, ho⟩), if_true]
theorem FnOn : laws_FnOn.Pure := by
  intro l hl _ hb
  apply Ev.rounds
  unfold laws_FnOn.f spec_DrawPlaneOn.f
  refine of_draw (f := fun k x => (spec_l91System.f k x.1 x.2).bind fun bt427 => ((spec_l91Point.f k x.1 bt427.2).bind fun bt431 => ((spec_PlaneLines.f k bt427.1 bt431.1).bind fun bt433 => (if bt433.2 = true then ((spec_l6Rd_pick.f k x.1 bt431.2 2).bind fun bt437 => (spec_DrawPlaneOn.j0 k bt427.1 bt431.1 bt433.1 (bt437.1 == 0) x.1 bt437.2)) else (spec_DrawPlaneOn.j0 k bt427.1 bt431.1 bt433.1 false x.1 bt431.2))))) hl hb fun b hb' hl' => ?_
  obtain ⟨t, q0, ht, hn, _, _⟩ := sys_draw hb' hl' 0 (by omega) (by omega)
  obtain ⟨p, q1, hp, _, _⟩ := point_draw hb' hl' q0 (by omega) (by omega)
  have hn' : (t.length : Int) ≤ 9223372036854775806 := by omega
  obtain ⟨r, hr, _, hr'⟩ := lines_both hn' p
  have other : ∀ x q2, q1 ≤ q2 → q2 ≤ q1 + 1 → ∃ y, Ev (fun k => spec_DrawPlaneOn.j0 k t p x false b q2) (t, p, y) := fun x q2 h0 h1 => by
    obtain ⟨y, _, hy, _⟩ := point_draw hb' hl' q2 (by omega) (by omega)
    exact ⟨y, Ev.step (fun k => spec_DrawPlaneOn.j0.eq_2 ..) (Ev.neg (by decide) (Ev.bind hy (Ev.now _)))⟩
  obtain ⟨y, hy⟩ : ∃ y, Ev (fun k => if r.2 = true then ((spec_l6Rd_pick.f k b q1 2).bind fun bt437 => (spec_DrawPlaneOn.j0 k t p r.1 (bt437.1 == 0) b bt437.2)) else (spec_DrawPlaneOn.j0 k t p r.1 false b q1)) (t, p, y) := by
    rcases hr' with ⟨h, hpr, e⟩ | ⟨_, e⟩
    · subst e
      obtain ⟨c, hc, c0, c1⟩ := pick_ev hb' hl' q1 2 (by omega) (by omega) (by omega) (by omega)
      by_cases hc0 : c = 0
      · obtain ⟨d, hd, d0, d1⟩ := pick_ev hb' hl' (q1 + 1) 10 (by omega) (by omega) (by omega) (by omega)
        have h10 := linesI_len (mOf t) hpr
        refine ⟨rd (linesI (mOf t) p) d, Ev.pos rfl (Ev.bind hc ?_)⟩
        rw [show (c == 0) = true from beq_iff_eq.mpr hc0]
        exact Ev.step (fun k => spec_DrawPlaneOn.j0.eq_2 ..) (Ev.pos rfl (Ev.bind hd (Ev.pos d0 (Ev.pos (by show d < ((linesI (mOf t) p).length : Int); omega) (Ev.now _)))))
      · obtain ⟨y, hy⟩ := other (linesI (mOf t) p) (q1 + 1) (by omega) (by omega)
        refine ⟨y, Ev.pos rfl (Ev.bind hc ?_)⟩
        rw [show (c == 0) = false from beq_eq_false_iff_ne.mpr hc0]
        exact hy
    · subst e
      obtain ⟨y, hy⟩ := other [] q1 (by omega) (by omega)
      exact ⟨y, Ev.neg Bool.false_ne_true hy⟩
  refine ⟨(t, p, y), Ev.bind ht (Ev.bind hp (Ev.bind hr hy)), ?_⟩
  exact FnOn_tail hn' p y

end Go.Proofs.Ytpfennpbemeikaa.Pure
