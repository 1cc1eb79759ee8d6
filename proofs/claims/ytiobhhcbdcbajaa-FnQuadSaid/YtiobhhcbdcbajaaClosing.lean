/- Crossings, closing, different points: what the program and the reference compute of a system's plane. Conditions: the table is a system, the numbers are from 0 to 90, joined points differ. -/
import Derived.Test.YtiobhhcbdcbajaaPlaneA
import Derived.Test.YtiobhhcbdcbajaaEvA
import Derived.Test.YtiobhhcbdcbajaaAlgA
import Derived.Test.YtiobhhcbdcbajaaPx14
import Derived.Test.YtiobhhcbdcbajaaPx15
set_option linter.unusedVariables false
set_option linter.unusedSimpArgs false
namespace Go.Proofs.Ytiobhhcbdcbajaa.Pure
open Go.RowKit Go.Proofs.Ytiobhhcbdcbajaa.P Go.Proofs.Ytiobhhcbdcbajaa.Nine Go.Proofs.YtiobhhcbdcbajaaW.PrintWords Go.Proofs.YtiobhhcbdcbajaaW.PrintLast

theorem cross_impl {l : List Int} (h : sysI l = true) {p q r s : Int} (hp : Rg p) (hq : Rg q) (hr : Rg r) (hs : Rg s) (pq : p ≠ q) (rs : r ≠ s) : Ev (fun k => impl_plane_crossing.f k l p q r s) (crossI (mOf l) p q r s) := by
  have hn := sysI_n h
  have a := (sysI_s h).join_spec hp hq pq
  have b := (sysI_s h).join_spec hr hs rs
  unfold impl_plane_crossing.f
  exact Ev.bind (join_impl hn hp hq) (Ev.bind (join_impl hn hr hs) (Ev.bind (meet_impl hn a.1 b.1) (Ev.now _)))
theorem cross_spec {l : List Int} (h : sysI l = true) {p q r s : Int} (hp : Rg p) (hq : Rg q) (hr : Rg r) (hs : Rg s) (pq : p ≠ q) (rs : r ≠ s) : Ev (fun k => spec_l4Cross.f k l p q r s) (crossI (mOf l) p q r s) := by
  have a := (sysI_s h).join_spec hp hq pq
  have b := (sysI_s h).join_spec hr hs rs
  unfold spec_l4Cross.f
  exact Ev.bind (join_ev h hp hq pq) (Ev.bind (join_ev h hr hs rs) (Ev.bind (meet_ev h a.1 b.1) (Ev.now _)))
theorem closes_impl {l : List Int} (h : sysI l = true) {p q r : Int} (hp : Rg p) (hq : Rg q) (hr : Rg r) : Ev (fun k => impl_plane_closes.f k l [p, q, r]) (closesI (mOf l) p q r) := by
  unfold impl_plane_closes.f closesI
  refine Ev.pos rfl ?_
  show Ev (fun k => if p = q then some true else if p = r then some true else if q = r then some true else impl_plane_three.f k l p q r) _
  by_cases a : p = q
  · rw [decide_eq_true a, Bool.true_or, Bool.true_or, Bool.true_or]
    exact Ev.pos a (Ev.now _)
  · rw [decide_eq_false a, Bool.false_or]
    refine Ev.neg a ?_
    by_cases b : p = r
    · rw [decide_eq_true b, Bool.true_or, Bool.true_or]
      exact Ev.pos b (Ev.now _)
    · rw [decide_eq_false b, Bool.false_or]
      refine Ev.neg b ?_
      by_cases c : q = r
      · rw [decide_eq_true c, Bool.true_or]
        exact Ev.pos c (Ev.now _)
      · rw [decide_eq_false c, Bool.false_or]
        exact Ev.neg c (three_impl h hp hq hr a)
theorem row_spec {l : List Int} (h : sysI l = true) {p q r : Int} (hp : Rg p) (hq : Rg q) (hr : Rg r) : Ev (fun k => spec_l4Row.f k l p q r) (closesI (mOf l) p q r) := by
  unfold spec_l4Row.f closesI
  by_cases a : p = q
  · rw [decide_eq_true a, Bool.true_or, Bool.true_or, Bool.true_or]
    exact Ev.pos a (Ev.now _)
  · rw [decide_eq_false a, Bool.false_or]
    refine Ev.neg a ?_
    by_cases b : p = r
    · rw [decide_eq_true b, Bool.true_or, Bool.true_or]
      exact Ev.pos b (Ev.now _)
    · rw [decide_eq_false b, Bool.false_or]
      refine Ev.neg b ?_
      by_cases c : q = r
      · rw [decide_eq_true c, Bool.true_or]
        exact Ev.pos c (Ev.now _)
      · rw [decide_eq_false c, Bool.false_or]
        exact Ev.neg c (Ev.bind (three_ev h hp hq hr a) (Ev.now _))
theorem dif_spec {xs : List Int} (hl : (xs.length : Int) ≤ 9223372036854775806) : ∃ b : Bool, Ev (fun k => spec_l4Different.f k xs) b ∧ (b = true ↔ Dif xs) := by
  unfold Dif spec_l4Different.f
  have st : ∀ i j : Int, ∀ s, 0 ≤ j → j < i → i < xs.length → rd xs j ≠ rd xs i → Ev (fun k => spec_l4Different.l1 k xs i (j + 1)) s → Ev (fun k => spec_l4Different.l1 k xs i j) s := fun i j s j0 ji i1 hne hg => by
    refine Ev.step (fun k => spec_l4Different.l1.eq_2 ..) ?_
    rw [w1 (i := j) j0 (by omega)]
    exact Ev.pos ji (Ev.pos j0 (Ev.pos (by omega) (Ev.pos (by omega) (Ev.pos i1 (Ev.neg hne hg)))))
  refine loopP (g := fun k i => spec_l4Different.l0 k xs i) (N := xs.length) (P := fun i => Rg (rd xs i) ∧ ∀ j, 0 ≤ j → j < i → rd xs j ≠ rd xs i) (by omega) ?_ ?_ ?_
  · intro s i i0 i1 _ hp hg
    refine Ev.step (fun k => spec_l4Different.l0.eq_2 ..) (Ev.pos i1 (Ev.pos i0 ?_))
    rw [l3In_some, decide_eq_true hp.1]
    refine Ev.some' (Ev.pos rfl ?_)
    refine loopP_all (g := fun k j => spec_l4Different.l1 k xs i j) (N := i) (P := fun j => rd xs j ≠ rd xs i) i0 (fun j j0 j1 _ h hg' => st i j s j0 j1 i1 h hg') (fun j j0 j1 => hp.2 j j0 j1) ?_
    refine Ev.step (fun k => spec_l4Different.l1.eq_2 ..) (Ev.neg (by omega) ?_)
    rw [w1 (i := i) i0 (by omega)]
    exact hg
  · intro i i0 i1 _ hp
    refine Ev.step (fun k => spec_l4Different.l0.eq_2 ..) (Ev.pos i1 (Ev.pos i0 ?_))
    rw [l3In_some]
    by_cases hr : Rg (rd xs i)
    · rw [decide_eq_true hr]
      refine Ev.some' (Ev.pos rfl ?_)
      refine loopP_stop (g := fun k j => spec_l4Different.l1 k xs i j) (N := i) (P := fun j => rd xs j ≠ rd xs i) (fun j j0 j1 _ h hg' => st i j false j0 j1 i1 h hg') ?_ (fun z => hp ⟨hr, z⟩)
      intro j j0 j1 _ he
      refine Ev.step (fun k => spec_l4Different.l1.eq_2 ..) ?_
      exact Ev.pos j1 (Ev.pos j0 (Ev.pos (by omega) (Ev.pos (by omega) (Ev.pos i1 (Ev.pos (Classical.byContradiction he) (Ev.now _))))))
    · rw [decide_eq_false hr]
      exact Ev.some' (Ev.neg (by decide) (Ev.now _))
  · intro _
    exact Ev.step (fun k => spec_l4Different.l0.eq_2 ..) (Ev.neg (by omega) (Ev.now _))
theorem dif_at {xs : List Int} (h : Dif xs) {i j : Int} (i0 : 0 ≤ i) (j0 : 0 ≤ j) (i1 : i < xs.length) (j1 : j < xs.length) (hne : i ≠ j) : rd xs i ≠ rd xs j := by
  rcases (show i < j ∨ j < i by omega) with z | z
  · exact (h j j0 j1).2 i i0 z
  · exact fun e => (h i i0 i1).2 j j0 z e.symm

end Go.Proofs.Ytiobhhcbdcbajaa.Pure
