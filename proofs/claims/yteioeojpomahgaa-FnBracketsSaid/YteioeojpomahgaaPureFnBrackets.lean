/- What lets brackets be moved has inverses from both sides. No conditions. -/
import Derived.Test.YteioeojpomahgaaPx26
import Derived.Test.YteioeojpomahgaaSpecSys2
import Derived.Test.YteioeojpomahgaaEvMore
import Derived.Test.YteioeojpomahgaaDrawSys
set_option linter.unusedVariables false
set_option linter.unusedSimpArgs false
namespace Go.Proofs.Yteioeojpomahgaa.Pure
open Go.RowKit Go.Proofs.Yteioeojpomahgaa.P Go.Proofs.Yteioeojpomahgaa.Nine Go.Proofs.YteioeojpomahgaaW.PrintWords Go.Proofs.YteioeojpomahgaaW.PrintLast

theorem FnBrackets_rows {t : List Int} (h : sysI t = true) (hbr : all3 (brkI t) = true) : Ev (fun k => laws_FnBrackets.l0 k t 1) true := by
  obtain ⟨hn, S⟩ := sys_iff.mp h
  have hl := len81 hn
  have B := (brk_iff hn).mp hbr
  refine loop_go (g := fun k i => laws_FnBrackets.l0 k t i) (N := 9) (by omega) ?_ ?_
  · intro c c0 c1 hgo
    refine Ev.step (fun k => laws_FnBrackets.l0.eq_2 ..) (Ev.pos c1 ?_)
    obtain ⟨d, d0, d1, hd, hd', hu⟩ : ∃ d, 1 ≤ d ∧ d ≤ 8 ∧ rd t (9 * c + d) = 1 ∧ rd t (9 * d + c) = 1 ∧ ∀ y, 0 ≤ y → y ≤ 8 → rd t (9 * c + y) = 1 → y = d := by
      obtain ⟨a, rfl⟩ := ex9 (a := c) (by omega) (by omega)
      have hc : a ≠ 0 := fun e => by subst e; exact absurd c0 (by decide)
      obtain ⟨d, h1, h2, h3⟩ := S.inv B hc
      have hd : d ≠ 0 := fun e => by subst e; rw [S.zr] at h1; exact absurd h1 (by decide)
      refine ⟨i9 d, ?_, (i9_mem d).2, by rw [rd_i9 hn, h1]; rfl, by rw [rd_i9 hn, h2]; rfl, fun y y0 y1 hy => ?_⟩
      · have h0 := (i9_mem d).1
        by_cases e : i9 d = 0
        · exact absurd (i9_inj (b := 0) e) hd
        · omega
      · obtain ⟨y, rfl⟩ := ex9 y0 y1
        rw [rd_i9 hn] at hy
        rw [h3 y (i9_inj (b := 1) hy)]
    refine loop_from (g := fun k (x : Int) i => laws_FnBrackets.l1 k t c x i) (N := 9) (acc := fun i => if d < i then 1 else 0) (s := 1) (by omega) ?_ ?_ |> fun z => by rw [if_neg (by omega)] at z; exact z
    · intro i i0 i1 hg
      refine Ev.step (fun k => laws_FnBrackets.l1.eq_2 ..) (Ev.pos i1 ?_)
      rw [w9c (x := c) (c := i) (by omega) (by omega) (by omega) (by omega), w9c (x := i) (c := c) (by omega) (by omega) (by omega) (by omega), w1 (i := i) (by omega) (by omega)]
      refine Ev.pos (by omega) (Ev.pos (by omega) ?_)
      by_cases e : i = d
      · subst e
        rw [if_pos (by omega)] at hg
        rw [if_neg (by omega), show wrap64 ((0 : Int) + 1) = 1 by rw [w64 (by omega) (by omega)]; rfl]
        exact Ev.pos hd (Ev.pos (by omega) (Ev.pos (by omega) (Ev.pos hd' hg)))
      · refine Ev.neg (fun e' => e (hu i (by omega) (by omega) e')) ?_
        by_cases h1 : d < i
        · rw [if_pos (by omega)] at hg
          rw [if_pos h1]
          exact hg
        · rw [if_neg (by omega)] at hg
          rw [if_neg h1]
          exact hg
    · refine Ev.step (fun k => laws_FnBrackets.l1.eq_2 ..) (Ev.neg (by omega) ?_)
      rw [if_pos (by omega), w1 (by omega) (by omega)]
      exact Ev.pos rfl hgo
  · exact Ev.step (fun k => laws_FnBrackets.l0.eq_2 ..) (Ev.neg (by omega) (Ev.now _))
theorem FnBrackets : laws_FnBrackets.Pure := by
  intro l hl _ hb
  apply Ev.rounds
  unfold laws_FnBrackets.f spec_DrawSystemBrackets.f
  refine of_draw (f := fun k x => (spec_l91System.f k x.1 x.2).bind fun y => some y.1) hl hb fun b hb' hl' => ?_
  obtain ⟨t, ht, hn⟩ := one_draw hb' hl'
  refine ⟨t, ht, ?_⟩
  unfold impl_SystemBrackets.f
  refine Ev.some' (Ev.bind (brk_ev hn) ?_)
  cases h : sysI t && all3 (brkI t) with
  | false => exact Ev.neg (by decide) (Ev.step (fun k => laws_FnBrackets.j0.eq_2 ..) (Ev.pos rfl (Ev.now _)))
  | true =>
    rw [Bool.and_eq_true] at h
    exact Ev.neg (by decide) (Ev.step (fun k => laws_FnBrackets.j0.eq_2 ..) (Ev.neg (by decide) (FnBrackets_rows h.1 h.2)))

end Go.Proofs.Yteioeojpomahgaa.Pure
