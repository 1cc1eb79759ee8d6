/- Two lines have just one common point. No conditions. -/
import Derived.Test.YtpfennpbemeikaaPx27
import Derived.Test.YtpfennpbemeikaaDrawPl
set_option linter.unusedVariables false
set_option linter.unusedSimpArgs false
namespace Go.Proofs.Ytpfennpbemeikaa.Pure
open Go.RowKit Go.Proofs.Ytpfennpbemeikaa.P Go.Proofs.Ytpfennpbemeikaa.Nine Go.Proofs.YtpfennpbemeikaaW.PrintWords Go.Proofs.YtpfennpbemeikaaW.PrintLast

theorem FnMeet_count {t : List Int} (hn : (t.length : Int) ≤ 9223372036854775806) (h : sysI t = true) {p q : Int} (hp : Rg p) (hq : Rg q) (hne : p ≠ q) : Ev (fun k => laws_FnMeet.l0 k t p q (meetI (mOf t) p q) (meetI (mOf t) p q) true (pointsI (mOf t) p) true 0 0) true := by
  have S := sysI_s h
  have J := S.meet_spec hp hq
  have hm := r91_max 0 (fun z => onI (mOf t) z p)
  have hm : ((pointsI (mOf t) p).length : Int) ≤ 91 := hm
  have on : ∀ x y, Rg x → Rg y → impl_PlaneOn.f t y x = some (onI (mOf t) y x) := fun x y hx hy => by
    obtain ⟨b, _, hi, hb⟩ := on_both hn y x
    rw [hi]
    congr 1
    rw [Bool.eq_iff_iff, hb]
    exact ⟨fun z => z.2.2.2, fun z => ⟨h, hy, hx, z⟩⟩
  have hacc : ∀ i : Int, 0 ≤ i → i < ((pointsI (mOf t) p).length : Int) → (((((pointsI (mOf t) p).take (i + 1).toNat).filter fun z => onI (mOf t) z q).length : Nat) : Int) = (if (onI (mOf t) (rd (pointsI (mOf t) p) i) q) = true then (((((pointsI (mOf t) p).take i.toNat).filter fun z => onI (mOf t) z q).length : Nat) : Int) + 1 else (((((pointsI (mOf t) p).take i.toNat).filter fun z => onI (mOf t) z q).length : Nat) : Int)) := fun i i0 i1 => by
    rw [take_rd _ i0 i1, List.filter_append]
    cases hc : (onI (mOf t) (rd (pointsI (mOf t) p) i) q) with
    | true => simp [hc]
    | false => simp [hc]
  refine loop_from (g := fun k (x : Int) i => laws_FnMeet.l0 k t p q (meetI (mOf t) p q) (meetI (mOf t) p q) true (pointsI (mOf t) p) true x i) (N := (pointsI (mOf t) p).length) (acc := fun i => (((((pointsI (mOf t) p).take i.toNat).filter fun z => onI (mOf t) z q).length : Nat) : Int)) (s := 0) (by omega) ?_ ?_
  · intro i i0 i1 hg
    have hz := (mem_pointsI.mp (mem_of_rd i0 i1)).1
    have hle : ((((pointsI (mOf t) p).take i.toNat).filter fun z => onI (mOf t) z q).length : Nat) ≤ 91 := by
      have a := List.length_filter_le (fun z => onI (mOf t) z q) ((pointsI (mOf t) p).take i.toNat)
      rw [List.length_take] at a
      omega
    refine Ev.step (fun k => laws_FnMeet.l0.eq_2 ..) (Ev.pos i1 (Ev.pos i0 ?_))
    rw [on q _ hq hz, w1 (i := i) i0 (by omega), w64 (n := (((((pointsI (mOf t) p).take i.toNat).filter fun z => onI (mOf t) z q).length : Nat) : Int) + 1) (by omega) (by omega)]
    rw [hacc i i0 i1] at hg
    cases hc : (onI (mOf t) (rd (pointsI (mOf t) p) i) q) with
    | true =>
      rw [hc, if_pos rfl] at hg
      exact Ev.some' (Ev.pos rfl hg)
    | false =>
      rw [hc, if_neg (by decide)] at hg
      exact Ev.some' (Ev.neg (by decide) hg)
  · refine Ev.step (fun k => laws_FnMeet.l0.eq_2 ..) (Ev.neg (by omega) (Ev.pos rfl (Ev.pos rfl (Ev.pos rfl ?_))))
    simp only [Int.toNat_natCast, List.take_length]
    rw [S.meet_count hp hq hne, on p _ hp J.1, on q _ hq J.1, J.2.1, J.2.2]
    exact Ev.pos rfl (Ev.some' (Ev.pos rfl (Ev.some' (Ev.now _))))
theorem FnMeet_tail {t : List Int} (hn : (t.length : Int) ≤ 9223372036854775806) (p q : Int) : Ev (fun k => (impl_PlaneMeet.f k t p q).bind fun bt482 => ((spec_PlaneMeet.f k t p q).bind fun bt484 => (if (bt482.2 != bt484.2) = true then (laws_FnMeet.j0 k t p q bt482.1 bt482.2 bt484.1 bt484.2 true) else (if bt482.1 = bt484.1 then (laws_FnMeet.j0 k t p q bt482.1 bt482.2 bt484.1 bt484.2 (!bt482.2)) else (laws_FnMeet.j0 k t p q bt482.1 bt482.2 bt484.1 bt484.2 true))))) true := by
  obtain ⟨r, hs, hi, hr⟩ := meet_both hn p q
  refine Ev.bind hi (Ev.bind hs (Ev.neg (by cases r.2 <;> decide) (Ev.pos rfl ?_)))
  rcases hr with ⟨h, hp, hq, hne, rfl⟩ | ⟨_, rfl⟩
  · refine Ev.step (fun k => laws_FnMeet.j0.eq_2 ..) (Ev.neg Bool.false_ne_true ?_)
    obtain ⟨r2, _, hi2, hr2⟩ := meet_both hn q p
    have e : r2 = (meetI (mOf t) p q, true) := by
      rw [meetI_comm]
      exact hr2.elim (fun x => x.2.2.2.2) (fun x => absurd ⟨h, hq, hp, fun e => hne e.symm⟩ x.1)
    subst e
    obtain ⟨s, _, hs', hs''⟩ := points_both hn p
    have e2 : s = (pointsI (mOf t) p, true) := hs''.elim (fun x => x.2.2) (fun x => absurd ⟨h, hp⟩ x.1)
    subst e2
    rw [hs']
    exact Ev.bind hi2 (Ev.some' (FnMeet_count hn h hp hq hne))
  · exact Ev.step (fun k => laws_FnMeet.j0.eq_2 ..) (Ev.pos rfl (Ev.pos rfl (Ev.now _)))
theorem FnMeet : laws_FnMeet.Pure := by
  intro l hl _ hb
  apply Ev.rounds
  unfold laws_FnMeet.f spec_DrawPlaneMeet.f spec_l91Pair.f
  refine of_draw2 (f := fun k x => (spec_l91System.f k x.1 x.2).bind fun bt464 => ((spec_l91Point.f k x.1 bt464.2).bind fun bt468 => ((spec_l91Point.f k x.1 bt468.2).bind fun bt470 => (some (bt464.1, bt468.1, bt470.1))))) (c := fun bt472 => some (bt472.1, bt472.2.1, bt472.2.2)) hl hb fun b hb' hl' => ?_
  obtain ⟨t, q0, ht, hn, _, _⟩ := sys_draw hb' hl' 0 (by omega) (by omega)
  obtain ⟨p, q1, hp, _, _⟩ := point_draw hb' hl' q0 (by omega) (by omega)
  obtain ⟨q, q2, hq, _, _⟩ := point_draw hb' hl' q1 (by omega) (by omega)
  have hn' : (t.length : Int) ≤ 9223372036854775806 := by omega
  refine ⟨(t, p, q), (t, p, q), Ev.bind ht (Ev.bind hp (Ev.bind hq (Ev.now _))), rfl, ?_⟩
  exact FnMeet_tail hn' p q

end Go.Proofs.Ytpfennpbemeikaa.Pure
