/- Points on one line are so in any order. No conditions. -/
import Derived.Test.YtpfennpbemeikaaPx30
import Derived.Test.YtpfennpbemeikaaDrawPl
set_option linter.unusedVariables false
set_option linter.unusedSimpArgs false
namespace Go.Proofs.Ytpfennpbemeikaa.Pure
open Go.RowKit Go.Proofs.Ytpfennpbemeikaa.P Go.Proofs.Ytpfennpbemeikaa.Nine Go.Proofs.YtpfennpbemeikaaW.PrintWords Go.Proofs.YtpfennpbemeikaaW.PrintLast

theorem FnThree_tail {t : List Int} (hn : (t.length : Int) ≤ 9223372036854775806) (p q r : Int) : Ev (fun k => (impl_PlaneThree.f k t p q r).bind fun t618 => ((spec_PlaneThree.f k t p q r).bind fun t619 => (if (t618 != t619) = true then (laws_FnThree.j0 k t p q r t618 t619 true) else (laws_FnThree.j0 k t p q r t618 t619 (!t618))))) true := by
  obtain ⟨b, hs, hi, hb⟩ := three_both hn p q r
  refine Ev.bind hi (Ev.bind hs (Ev.neg (by cases b <;> decide) ?_))
  cases b with
  | false => exact Ev.step (fun k => laws_FnThree.j0.eq_2 ..) (Ev.pos rfl (Ev.now _))
  | true =>
    obtain ⟨h, ⟨hp, hq, hr, pq, pr, qr⟩, ht⟩ := hb.mp rfl
    obtain ⟨e, t1, t2⟩ := (sysI_s h).three_join hp hq hr pq pr qr ht
    obtain ⟨a, _, ha, ha'⟩ := join_both hn p q
    have ea : a = (joinI (mOf t) p q, true) := ha'.elim (fun x => x.2.2.2.2) (fun x => absurd ⟨h, hp, hq, pq⟩ x.1)
    obtain ⟨c, _, hc, hc'⟩ := join_both hn q r
    have ec : c = (joinI (mOf t) p q, true) := by
      rw [← e]
      exact hc'.elim (fun x => x.2.2.2.2) (fun x => absurd ⟨h, hq, hr, qr⟩ x.1)
    obtain ⟨u, _, hu, hu'⟩ := three_both hn r q p
    have eu : u = true := hu'.mpr ⟨h, ⟨hr, hq, hp, qr.symm, pr.symm, pq.symm⟩, t1⟩
    obtain ⟨v, _, hv, hv'⟩ := three_both hn q r p
    have ev : v = true := hv'.mpr ⟨h, ⟨hq, hr, hp, qr, pq.symm, pr.symm⟩, t2⟩
    subst ea
    subst ec
    subst eu
    subst ev
    exact Ev.step (fun k => laws_FnThree.j0.eq_2 ..) (Ev.neg (by decide) (Ev.bind ha (Ev.bind hc (Ev.pos rfl (Ev.pos rfl (Ev.pos rfl (Ev.bind hu (Ev.pos rfl (Ev.bind hv (Ev.now _))))))))))
theorem FnThree : laws_FnThree.Pure := by
  intro l hl _ hb
  apply Ev.rounds
  unfold laws_FnThree.f spec_DrawPlaneThree.f
  refine of_draw (f := fun k x => (spec_l91System.f k x.1 x.2).bind fun bt596 => ((spec_l91Point.f k x.1 bt596.2).bind fun bt600 => ((spec_l91Point.f k x.1 bt600.2).bind fun bt602 => ((spec_PlaneJoin.f k bt596.1 bt600.1 bt602.1).bind fun bt604 => (if bt604.2 = true then ((spec_l6Rd_pick.f k x.1 bt602.2 2).bind fun bt606 => (spec_DrawPlaneThree.j0 k bt596.1 bt600.1 bt602.1 bt604.1 (bt606.1 == 0) x.1 bt606.2)) else (spec_DrawPlaneThree.j0 k bt596.1 bt600.1 bt602.1 bt604.1 false x.1 bt602.2)))))) hl hb fun b hb' hl' => ?_
  obtain ⟨t, q0, ht, hn, _, _⟩ := sys_draw hb' hl' 0 (by omega) (by omega)
  obtain ⟨p, q1, hp, _, _⟩ := point_draw hb' hl' q0 (by omega) (by omega)
  obtain ⟨q, q2, hq, _, _⟩ := point_draw hb' hl' q1 (by omega) (by omega)
  have hn' : (t.length : Int) ≤ 9223372036854775806 := by omega
  obtain ⟨j, hj, _, hj'⟩ := join_both hn' p q
  have other : ∀ x z, q2 ≤ z → z ≤ q2 + 1 → ∃ y, Ev (fun k => spec_DrawPlaneThree.j0 k t p q x false b z) (t, p, q, y) := fun x z h0 h1 => by
    obtain ⟨y, _, hy, _⟩ := point_draw hb' hl' z (by omega) (by omega)
    exact ⟨y, Ev.step (fun k => spec_DrawPlaneThree.j0.eq_2 ..) (Ev.neg (by decide) (Ev.bind hy (Ev.now _)))⟩
  obtain ⟨y, hy⟩ : ∃ y, Ev (fun k => if j.2 = true then ((spec_l6Rd_pick.f k b q2 2).bind fun bt606 => (spec_DrawPlaneThree.j0 k t p q j.1 (bt606.1 == 0) b bt606.2)) else (spec_DrawPlaneThree.j0 k t p q j.1 false b q2)) (t, p, q, y) := by
    rcases hj' with ⟨h, hpr, hqr, hne, e⟩ | ⟨_, e⟩
    · subst e
      have J := (sysI_s h).join_spec hpr hqr hne
      obtain ⟨c, hc, c0, c1⟩ := pick_ev hb' hl' q2 2 (by omega) (by omega) (by omega) (by omega)
      by_cases hc0 : c = 0
      · have h10 := pointsI_len (mOf t) J.1
        obtain ⟨d, hd, d0, d1⟩ := pick_ev hb' hl' (q2 + 1) ((pointsI (mOf t) (joinI (mOf t) p q)).length : Int) (by omega) (by omega) (by omega) (by omega)
        refine ⟨rd (pointsI (mOf t) (joinI (mOf t) p q)) d, Ev.pos rfl (Ev.bind hc ?_)⟩
        rw [show (c == 0) = true from beq_iff_eq.mpr hc0]
        refine Ev.step (fun k => spec_DrawPlaneThree.j0.eq_2 ..) (Ev.pos rfl (Ev.bind (a := (rd (pointsI (mOf t) (joinI (mOf t) p q)) d, q2 + 1 + 1)) ?_ (Ev.now _)))
        unfold spec_l91On.f
        exact Ev.bind (l3Points_ev (sysI_n h) J.1) (Ev.neg (by rw [h10]; decide) (Ev.bind hd (Ev.pos d0 (Ev.pos d1 (Ev.now _)))))
      · obtain ⟨y, hy⟩ := other (joinI (mOf t) p q) (q2 + 1) (by omega) (by omega)
        refine ⟨y, Ev.pos rfl (Ev.bind hc ?_)⟩
        rw [show (c == 0) = false from beq_eq_false_iff_ne.mpr hc0]
        exact hy
    · subst e
      obtain ⟨y, hy⟩ := other 0 q2 (by omega) (by omega)
      exact ⟨y, Ev.neg Bool.false_ne_true hy⟩
  refine ⟨(t, p, q, y), Ev.bind ht (Ev.bind hp (Ev.bind hq (Ev.bind hj hy))), ?_⟩
  exact FnThree_tail hn' p q y

end Go.Proofs.Ytpfennpbemeikaa.Pure
