/- What shares sums from both sides commutes with 2. No conditions. -/
import Derived.Test.YteioeojpomahgaaPx30
import Derived.Test.YteioeojpomahgaaSpecSys2
import Derived.Test.YteioeojpomahgaaEvMore
import Derived.Test.YteioeojpomahgaaDrawSys
set_option linter.unusedVariables false
set_option linter.unusedSimpArgs false
namespace Go.Proofs.Yteioeojpomahgaa.Pure
open Go.RowKit Go.Proofs.Yteioeojpomahgaa.P Go.Proofs.Yteioeojpomahgaa.Nine Go.Proofs.YteioeojpomahgaaW.PrintWords Go.Proofs.YteioeojpomahgaaW.PrintLast

theorem FnBoth_one (xs ys : List Int) (p q s : Bool) (hl : (xs.length : Int) ≤ 9) (hy : (ys.length : Int) ≤ 9) (hs : Ev (fun k => laws_FnBoth.l1 k p ys q (decide (2 ∈ xs)) false 0) s) : Ev (fun k => laws_FnBoth.l0 k xs p ys q false false 0) s := by
  refine loop_from (g := fun k (x : Bool) i => laws_FnBoth.l0 k xs p ys q x false i) (N := xs.length) (acc := fun i => decide (2 ∈ xs.take i.toNat)) (s := 0) (by omega) ?_ ?_
  · intro i i0 i1 hg
    refine Ev.step (fun k => laws_FnBoth.l0.eq_2 ..) (Ev.pos i1 ?_)
    rw [w1 i0 (by omega)]
    rw [take_rd xs i0 i1] at hg
    by_cases h : 2 ∈ xs.take i.toNat
    · rw [decide_eq_true (by simp [h])] at hg
      rw [decide_eq_true h]
      exact Ev.pos rfl hg
    · rw [decide_eq_false h]
      refine Ev.neg (by decide) (Ev.pos i0 ?_)
      have : decide (2 ∈ xs.take i.toNat ++ [rd xs i]) = (rd xs i == 2) := by
        rw [Bool.eq_iff_iff, decide_eq_true_eq, beq_iff_eq]
        simp only [List.mem_append, h, false_or, List.mem_singleton]
        exact eq_comm
      rw [this] at hg
      exact hg
  · refine Ev.step (fun k => laws_FnBoth.l0.eq_2 ..) (Ev.neg (by omega) ?_)
    simp only [Int.toNat_natCast, List.take_length]
    exact hs
theorem FnBoth_other (ys : List Int) (p q a s : Bool) (hy : (ys.length : Int) ≤ 9) (hs : (if p = true then (if q = true then (if a = true then decide (2 ∈ ys) else false) else false) else false) = s) : Ev (fun k => laws_FnBoth.l1 k p ys q a false 0) s := by
  refine loop_from (g := fun k (x : Bool) i => laws_FnBoth.l1 k p ys q a x i) (N := ys.length) (acc := fun i => decide (2 ∈ ys.take i.toNat)) (s := 0) (by omega) ?_ ?_
  · intro i i0 i1 hg
    refine Ev.step (fun k => laws_FnBoth.l1.eq_2 ..) (Ev.pos i1 ?_)
    rw [w1 i0 (by omega)]
    rw [take_rd ys i0 i1] at hg
    by_cases h : 2 ∈ ys.take i.toNat
    · rw [decide_eq_true (by simp [h])] at hg
      rw [decide_eq_true h]
      exact Ev.pos rfl hg
    · rw [decide_eq_false h]
      refine Ev.neg (by decide) (Ev.pos i0 ?_)
      have : decide (2 ∈ ys.take i.toNat ++ [rd ys i]) = (rd ys i == 2) := by
        rw [Bool.eq_iff_iff, decide_eq_true_eq, beq_iff_eq]
        simp only [List.mem_append, h, false_or, List.mem_singleton]
        exact eq_comm
      rw [this] at hg
      exact hg
  · refine Ev.step (fun k => laws_FnBoth.l1.eq_2 ..) (Ev.neg (by omega) ?_)
    simp only [Int.toNat_natCast, List.take_length]
    subst hs
    cases p <;> cases q <;> cases a <;> exact Ev.now _
theorem FnBoth : laws_FnBoth.Pure := by
  intro l hl _ hb
  apply Ev.rounds
  unfold laws_FnBoth.f spec_DrawSystemBoth.f
  refine of_draw (f := fun k x => (spec_l91System.f k x.1 x.2).bind fun y => some y.1) hl hb fun b hb' hl' => ?_
  obtain ⟨t, ht, hn⟩ := one_draw hb' hl'
  refine ⟨t, ht, ?_⟩
  unfold impl_SystemBoth.f
  refine Ev.some' (Ev.bind (both_ev hn) ?_)
  cases h : sysI t && all3 (bothI t) with
  | false => exact Ev.neg (by decide) (Ev.step (fun k => laws_FnBoth.j0.eq_2 ..) (Ev.pos rfl (Ev.now _)))
  | true =>
    rw [Bool.and_eq_true] at h
    obtain ⟨hN, S⟩ := sys_iff.mp h.1
    have hB := (both_iff hN).mp h.2
    refine Ev.neg (by decide) (Ev.step (fun k => laws_FnBoth.j0.eq_2 ..) (Ev.neg (by decide) ?_))
    unfold impl_SystemKernel.f impl_SystemCentre.f impl_isSystem.f impl_kernel.f
    rw [h.1, if_pos rfl, hN, if_pos rfl]
    have hx := filter_len (kerI t) 9
    rw [show (9 : Int).toNat = 9 from rfl, e9_all] at hx
    have hy := filter_len (cenI t) 9
    rw [show (9 : Int).toNat = 9 from rfl, e9_all] at hy
    refine Ev.some' (Ev.some' (FnBoth_one _ _ _ _ _ (by show ((e9.filter (kerI t)).length : Int) ≤ 9; omega) (by show ((e9.filter (cenI t)).length : Int) ≤ 9; omega) (FnBoth_other _ _ _ _ _ (by show ((e9.filter (cenI t)).length : Int) ≤ 9; omega) ?_)))
    have k2 : (2 : Int) ∈ e9.filter (kerI t) := List.mem_filter.mpr ⟨by decide, (ker_iff hN 2).mpr S.ker_two⟩
    have c2 : (2 : Int) ∈ e9.filter (cenI t) := List.mem_filter.mpr ⟨by decide, (cen_iff hN 2).mpr (S.cen_two hB)⟩
    simp only [decide_eq_true k2, decide_eq_true c2]
    rfl

end Go.Proofs.Yteioeojpomahgaa.Pure
