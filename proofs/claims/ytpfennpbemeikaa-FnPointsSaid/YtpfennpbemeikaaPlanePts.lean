/- What the program's functions of planes and the reference's answer: the same, and what it says of the table. Conditions: the lists' lengths are an int's. -/
import Derived.Test.YtpfennpbemeikaaPlaneOn
import Derived.Test.YtpfennpbemeikaaEvMore
import Derived.Test.YtpfennpbemeikaaPx8
import Derived.Test.YtpfennpbemeikaaPx9
import Derived.Test.YtpfennpbemeikaaPx11
import Derived.Test.YtpfennpbemeikaaPx10
import Derived.Test.YtpfennpbemeikaaPx13
set_option linter.unusedVariables false
set_option linter.unusedSimpArgs false
namespace Go.Proofs.Ytpfennpbemeikaa.Pure
open Go.RowKit Go.Proofs.Ytpfennpbemeikaa.P Go.Proofs.Ytpfennpbemeikaa.Nine Go.Proofs.YtpfennpbemeikaaW.PrintWords Go.Proofs.YtpfennpbemeikaaW.PrintLast

theorem on_both {l : List Int} (hl : (l.length : Int) ≤ 9223372036854775806) (p q : Int) :
    ∃ b : Bool, Ev (fun k => spec_PlaneOn.f k l p q) b ∧ impl_PlaneOn.f l p q = some b ∧ (b = true ↔ sysI l = true ∧ Rg p ∧ Rg q ∧ onI (mOf l) p q = true) := by
  unfold spec_PlaneOn.f impl_PlaneOn.f
  rw [isSys_some, point_some, point_some, l3In_some, l3In_some]
  cases hs : sysI l with
  | false => exact ⟨false, Ev.bind (sysIn_ev hl) (by rw [hs]; exact Ev.neg (by decide) (Ev.now _)), rfl, by simp⟩
  | true =>
    by_cases hp : Rg p
    · by_cases hq : Rg q
      · refine ⟨onI (mOf l) p q, Ev.bind (sysIn_ev hl) (Ev.pos hs ?_), ?_, by simp [hp, hq]⟩
        · rw [decide_eq_true hp, decide_eq_true hq, on_spec (sysI_n hs) hp hq]
          exact Ev.some' (Ev.pos rfl (Ev.some' (Ev.pos rfl (Ev.some' (Ev.now _)))))
        · rw [decide_eq_true hp, decide_eq_true hq, on_impl (sysI_n hs) hp hq]
          rfl
      · refine ⟨false, Ev.bind (sysIn_ev hl) (Ev.pos hs ?_), ?_, by simp [hq]⟩
        · rw [decide_eq_true hp, decide_eq_false hq]
          exact Ev.some' (Ev.pos rfl (Ev.some' (Ev.neg (by decide) (Ev.now _))))
        · rw [decide_eq_true hp, decide_eq_false hq]
          rfl
    · refine ⟨false, Ev.bind (sysIn_ev hl) (Ev.pos hs ?_), ?_, by simp [hp]⟩
      · rw [decide_eq_false hp]
        exact Ev.some' (Ev.neg (by decide) (Ev.now _))
      · rw [decide_eq_false hp]
        rfl
theorem join_both {l : List Int} (hl : (l.length : Int) ≤ 9223372036854775806) (p q : Int) :
    ∃ r : Int × Bool, Ev (fun k => spec_PlaneJoin.f k l p q) r ∧ Ev (fun k => impl_PlaneJoin.f k l p q) r ∧ ((sysI l = true ∧ Rg p ∧ Rg q ∧ p ≠ q ∧ r = (joinI (mOf l) p q, true)) ∨ (¬ (sysI l = true ∧ Rg p ∧ Rg q ∧ p ≠ q) ∧ r = (0, false))) := by
  unfold spec_PlaneJoin.f impl_PlaneJoin.f
  rw [isSys_some, point_some, point_some, l3In_some, l3In_some]
  cases hs : sysI l with
  | false => exact ⟨(0, false), Ev.bind (sysIn_ev hl) (by rw [hs]; exact Ev.neg (by decide) (Ev.now _)), Ev.some' (Ev.neg (by decide) (Ev.now _)), .inr ⟨by simp, rfl⟩⟩
  | true =>
    by_cases hp : Rg p
    · by_cases hq : Rg q
      · by_cases hne : p = q
        · refine ⟨(0, false), Ev.bind (sysIn_ev hl) (Ev.pos hs ?_), Ev.some' (Ev.pos rfl ?_), .inr ⟨by simp [hne], rfl⟩⟩
          · rw [decide_eq_true hp, decide_eq_true hq]
            exact Ev.some' (Ev.pos rfl (Ev.some' (Ev.pos rfl (Ev.pos hne (Ev.now _)))))
          · rw [decide_eq_true hp, decide_eq_true hq]
            exact Ev.some' (Ev.pos rfl (Ev.some' (Ev.pos rfl (Ev.pos hne (Ev.now _)))))
        · refine ⟨(joinI (mOf l) p q, true), Ev.bind (sysIn_ev hl) (Ev.pos hs ?_), Ev.some' (Ev.pos rfl ?_), .inl ⟨rfl, hp, hq, hne, rfl⟩⟩
          · rw [decide_eq_true hp, decide_eq_true hq]
            exact Ev.some' (Ev.pos rfl (Ev.some' (Ev.pos rfl (Ev.neg hne (Ev.bind (join_ev hs hp hq hne) (Ev.now _))))))
          · rw [decide_eq_true hp, decide_eq_true hq]
            exact Ev.some' (Ev.pos rfl (Ev.some' (Ev.pos rfl (Ev.neg hne (Ev.bind (join_impl (sysI_n hs) hp hq) (Ev.now _))))))
      · refine ⟨(0, false), Ev.bind (sysIn_ev hl) (Ev.pos hs ?_), Ev.some' (Ev.pos rfl ?_), .inr ⟨by simp [hq], rfl⟩⟩
        · rw [decide_eq_true hp, decide_eq_false hq]
          exact Ev.some' (Ev.pos rfl (Ev.some' (Ev.neg (by decide) (Ev.now _))))
        · rw [decide_eq_true hp, decide_eq_false hq]
          exact Ev.some' (Ev.pos rfl (Ev.some' (Ev.neg (by decide) (Ev.now _))))
    · refine ⟨(0, false), Ev.bind (sysIn_ev hl) (Ev.pos hs ?_), Ev.some' (Ev.pos rfl ?_), .inr ⟨by simp [hp], rfl⟩⟩
      · rw [decide_eq_false hp]
        exact Ev.some' (Ev.neg (by decide) (Ev.now _))
      · rw [decide_eq_false hp]
        exact Ev.some' (Ev.neg (by decide) (Ev.now _))
theorem meet_both {l : List Int} (hl : (l.length : Int) ≤ 9223372036854775806) (p q : Int) :
    ∃ r : Int × Bool, Ev (fun k => spec_PlaneMeet.f k l p q) r ∧ Ev (fun k => impl_PlaneMeet.f k l p q) r ∧ ((sysI l = true ∧ Rg p ∧ Rg q ∧ p ≠ q ∧ r = (meetI (mOf l) p q, true)) ∨ (¬ (sysI l = true ∧ Rg p ∧ Rg q ∧ p ≠ q) ∧ r = (0, false))) := by
  unfold spec_PlaneMeet.f impl_PlaneMeet.f
  rw [isSys_some, point_some, point_some, l3In_some, l3In_some]
  cases hs : sysI l with
  | false => exact ⟨(0, false), Ev.bind (sysIn_ev hl) (by rw [hs]; exact Ev.neg (by decide) (Ev.now _)), Ev.some' (Ev.neg (by decide) (Ev.now _)), .inr ⟨by simp, rfl⟩⟩
  | true =>
    by_cases hp : Rg p
    · by_cases hq : Rg q
      · by_cases hne : p = q
        · refine ⟨(0, false), Ev.bind (sysIn_ev hl) (Ev.pos hs ?_), Ev.some' (Ev.pos rfl ?_), .inr ⟨by simp [hne], rfl⟩⟩
          · rw [decide_eq_true hp, decide_eq_true hq]
            exact Ev.some' (Ev.pos rfl (Ev.some' (Ev.pos rfl (Ev.pos hne (Ev.now _)))))
          · rw [decide_eq_true hp, decide_eq_true hq]
            exact Ev.some' (Ev.pos rfl (Ev.some' (Ev.pos rfl (Ev.pos hne (Ev.now _)))))
        · refine ⟨(meetI (mOf l) p q, true), Ev.bind (sysIn_ev hl) (Ev.pos hs ?_), Ev.some' (Ev.pos rfl ?_), .inl ⟨rfl, hp, hq, hne, rfl⟩⟩
          · rw [decide_eq_true hp, decide_eq_true hq]
            exact Ev.some' (Ev.pos rfl (Ev.some' (Ev.pos rfl (Ev.neg hne (Ev.bind (meet_ev hs hp hq) (Ev.now _))))))
          · rw [decide_eq_true hp, decide_eq_true hq]
            exact Ev.some' (Ev.pos rfl (Ev.some' (Ev.pos rfl (Ev.neg hne (Ev.bind (meet_impl (sysI_n hs) hp hq) (Ev.now _))))))
      · refine ⟨(0, false), Ev.bind (sysIn_ev hl) (Ev.pos hs ?_), Ev.some' (Ev.pos rfl ?_), .inr ⟨by simp [hq], rfl⟩⟩
        · rw [decide_eq_true hp, decide_eq_false hq]
          exact Ev.some' (Ev.pos rfl (Ev.some' (Ev.neg (by decide) (Ev.now _))))
        · rw [decide_eq_true hp, decide_eq_false hq]
          exact Ev.some' (Ev.pos rfl (Ev.some' (Ev.neg (by decide) (Ev.now _))))
    · refine ⟨(0, false), Ev.bind (sysIn_ev hl) (Ev.pos hs ?_), Ev.some' (Ev.pos rfl ?_), .inr ⟨by simp [hp], rfl⟩⟩
      · rw [decide_eq_false hp]
        exact Ev.some' (Ev.neg (by decide) (Ev.now _))
      · rw [decide_eq_false hp]
        exact Ev.some' (Ev.neg (by decide) (Ev.now _))
theorem dif3 {p q r : Int} : Dif [p, q, r] ↔ Rg p ∧ Rg q ∧ Rg r ∧ p ≠ q ∧ p ≠ r ∧ q ≠ r := by
  have e0 : rd [p, q, r] 0 = p := rfl
  have e1 : rd [p, q, r] 1 = q := rfl
  have e2 : rd [p, q, r] 2 = r := rfl
  constructor
  · intro h
    have h0 := h 0 (by omega) (by show (0 : Int) < 3; decide)
    have h1 := h 1 (by omega) (by show (1 : Int) < 3; decide)
    have h2 := h 2 (by omega) (by show (2 : Int) < 3; decide)
    have a := h1.2 0 (by omega) (by omega)
    have b := h2.2 0 (by omega) (by omega)
    have c := h2.2 1 (by omega) (by omega)
    rw [e0, e1] at a
    rw [e0, e2] at b
    rw [e1, e2] at c
    exact ⟨h0.1, h1.1, h2.1, a, b, c⟩
  · rintro ⟨hp, hq, hr, a, b, c⟩ i i0 i1
    have i1 : i < 3 := i1
    rcases (show i = 0 ∨ i = 1 ∨ i = 2 by omega) with rfl | rfl | rfl
    · exact ⟨hp, fun j j0 j1 => by omega⟩
    · refine ⟨hq, fun j j0 j1 => ?_⟩
      obtain rfl : j = 0 := by omega
      exact a
    · refine ⟨hr, fun j j0 j1 => ?_⟩
      rcases (show j = 0 ∨ j = 1 by omega) with rfl | rfl
      · exact b
      · exact c
theorem three_both {l : List Int} (hl : (l.length : Int) ≤ 9223372036854775806) (p q r : Int) :
    ∃ b : Bool, Ev (fun k => spec_PlaneThree.f k l p q r) b ∧ Ev (fun k => impl_PlaneThree.f k l p q r) b ∧ (b = true ↔ sysI l = true ∧ (Rg p ∧ Rg q ∧ Rg r ∧ p ≠ q ∧ p ≠ r ∧ q ≠ r) ∧ threeI (mOf l) p q r = true) := by
  unfold spec_PlaneThree.f impl_PlaneThree.f
  rw [isSys_some, l3In_some, l3In_some, l3In_some]
  obtain ⟨d, hd, hdf⟩ := dif_impl (xs := [p, q, r]) (by show (3 : Int) ≤ _; decide)
  rw [dif3] at hdf
  cases hs : sysI l with
  | false => exact ⟨false, Ev.bind (sysIn_ev hl) (by rw [hs]; exact Ev.neg (by decide) (Ev.now _)), Ev.some' (Ev.neg (by decide) (Ev.now _)), by simp⟩
  | true =>
    cases d with
    | true =>
      obtain ⟨hp, hq, hr, a, b, c⟩ := hdf.mp rfl
      refine ⟨threeI (mOf l) p q r, Ev.bind (sysIn_ev hl) (Ev.pos hs ?_), Ev.some' (Ev.pos rfl (Ev.bind hd (Ev.pos rfl (Ev.bind (three_impl hs hp hq hr a) (Ev.now _))))), by simp [hp, hq, hr, a, b, c]⟩
      rw [decide_eq_true hp, decide_eq_true hq, decide_eq_true hr]
      exact Ev.some' (Ev.pos rfl (Ev.some' (Ev.pos rfl (Ev.some' (Ev.pos rfl (Ev.neg a (Ev.neg b (Ev.neg c (Ev.bind (three_ev hs hp hq hr a) (Ev.now _))))))))))
    | false =>
      have hn : ¬ (Rg p ∧ Rg q ∧ Rg r ∧ p ≠ q ∧ p ≠ r ∧ q ≠ r) := fun h => by have := hdf.mpr h; cases this
      refine ⟨false, Ev.bind (sysIn_ev hl) (Ev.pos hs ?_), Ev.some' (Ev.pos rfl (Ev.bind hd (Ev.neg (by decide) (Ev.now _)))), ?_⟩
      · by_cases hp : Rg p
        · rw [decide_eq_true hp]
          refine Ev.some' (Ev.pos rfl ?_)
          by_cases hq : Rg q
          · rw [decide_eq_true hq]
            refine Ev.some' (Ev.pos rfl ?_)
            by_cases hr : Rg r
            · rw [decide_eq_true hr]
              refine Ev.some' (Ev.pos rfl ?_)
              by_cases a : p = q
              · exact Ev.pos a (Ev.now _)
              · refine Ev.neg a ?_
                by_cases b : p = r
                · exact Ev.pos b (Ev.now _)
                · refine Ev.neg b ?_
                  by_cases c : q = r
                  · exact Ev.pos c (Ev.now _)
                  · exact absurd ⟨hp, hq, hr, a, b, c⟩ hn
            · rw [decide_eq_false hr]
              exact Ev.some' (Ev.neg (by decide) (Ev.now _))
          · rw [decide_eq_false hq]
            exact Ev.some' (Ev.neg (by decide) (Ev.now _))
        · rw [decide_eq_false hp]
          exact Ev.some' (Ev.neg (by decide) (Ev.now _))
      · constructor
        · intro h; cases h
        · rintro ⟨_, h, _⟩
          exact absurd h hn

/-! the points of a line, the lines of a point -/
theorem e91_r91 : e91 = r91 := rfl
theorem points_filter {l : List Int} (hn : nines l 81 = true) {q : Int} (hq : Rg q) : e91.filter (fun p => onB l p q) = pointsI (mOf l) q :=
  List.filter_congr fun p hp => onB_onI hn (mem_r91.mp hp) hq
theorem lines_filter {l : List Int} (hn : nines l 81 = true) {p : Int} (hp : Rg p) : e91.filter (fun q => onB l p q) = linesI (mOf l) p :=
  List.filter_congr fun q hq => onB_onI hn hp (mem_r91.mp hq)
theorem take91_step (f : Int → Bool) {i : Int} (h0 : 0 ≤ i) (h1 : i < 91) : (r91.take (i + 1).toNat).filter f = if f i = true then (r91.take i.toNat).filter f ++ [i] else (r91.take i.toNat).filter f := by
  obtain ⟨n, rfl⟩ := Int.eq_ofNat_of_zero_le h0
  have h := (by decide +kernel : ∀ n, n < 91 → r91.take (n + 1) = r91.take n ++ [(n : Int)]) n (by omega)
  rw [show ((n : Int) + 1).toNat = n + 1 by omega, Int.toNat_natCast, h, List.filter_append]
  cases hf : f n with
  | true => simp [hf]
  | false => simp [hf]
theorem take91_len (f : Int → Bool) (n : Nat) : ((r91.take n).filter f).length ≤ 91 := by
  have h2 := List.length_filter_le f (r91.take n)
  have h3 : r91.length = 91 := by decide
  rw [List.length_take] at h2
  omega
theorem l3Points_ev {l : List Int} (hn : nines l 81 = true) {q : Int} (hq : Rg q) : Ev (fun k => spec_l3Points.f k l q) (pointsI (mOf l) q) := by
  have : pointsI (mOf l) q = (r91.take (91 : Int).toNat).filter fun p => onI (mOf l) p q := rfl
  rw [this]
  refine loop_from (g := fun k x i => spec_l3Points.l0 k l q x i) (N := 91) (acc := fun i => (r91.take i.toNat).filter fun p => onI (mOf l) p q) (s := 0) (by omega) ?_ ?_
  · intro i i0 i1 h
    refine Ev.step (fun k => spec_l3Points.l0.eq_2 ..) (Ev.pos i1 ?_)
    rw [on_spec hn ⟨i0, by omega⟩ hq, w1 i0 (by omega)]
    have := take91_len (fun p => onI (mOf l) p q) i.toNat
    rw [take91_step _ i0 i1] at h
    cases hc : onI (mOf l) i q with
    | true =>
      rw [hc, if_pos rfl] at h
      exact Ev.some' (Ev.pos rfl (Ev.pos (by omega) h))
    | false =>
      rw [hc, if_neg (by decide)] at h
      exact Ev.some' (Ev.neg (by decide) h)
  · exact Ev.step (fun k => spec_l3Points.l0.eq_2 ..) (Ev.neg (by omega) (Ev.now _))
theorem points_both {l : List Int} (hl : (l.length : Int) ≤ 9223372036854775806) (q : Int) :
    ∃ r : List Int × Bool, Ev (fun k => spec_PlanePoints.f k l q) r ∧ impl_PlanePoints.f l q = some r ∧ ((sysI l = true ∧ Rg q ∧ r = (pointsI (mOf l) q, true)) ∨ (¬ (sysI l = true ∧ Rg q) ∧ r = ([], false))) := by
  unfold spec_PlanePoints.f impl_PlanePoints.f
  rw [isSys_some, point_some, l3In_some]
  cases hs : sysI l with
  | false => exact ⟨([], false), Ev.bind (sysIn_ev hl) (by rw [hs]; exact Ev.neg (by decide) (Ev.now _)), rfl, .inr ⟨by simp, rfl⟩⟩
  | true =>
    by_cases hq : Rg q
    · refine ⟨(pointsI (mOf l) q, true), Ev.bind (sysIn_ev hl) (Ev.pos hs ?_), ?_, .inl ⟨rfl, hq, rfl⟩⟩
      · rw [decide_eq_true hq]
        exact Ev.some' (Ev.pos rfl (Ev.bind (l3Points_ev (sysI_n hs) hq) (Ev.now _)))
      · rw [decide_eq_true hq]
        unfold impl_plane_points.f
        rw [sysI_n hs, decide_eq_true (show 0 ≤ q from hq.1), decide_eq_true (show q < 91 by have := hq.2; omega), points_filter (sysI_n hs) hq]
        rfl
    · refine ⟨([], false), Ev.bind (sysIn_ev hl) (Ev.pos hs ?_), ?_, .inr ⟨by simp [hq], rfl⟩⟩
      · rw [decide_eq_false hq]
        exact Ev.some' (Ev.neg (by decide) (Ev.now _))
      · rw [decide_eq_false hq]
        rfl
theorem lines_ev {l : List Int} (hn : nines l 81 = true) {p : Int} (hp : Rg p) : Ev (fun k => spec_PlaneLines.l0 k l p [] 0) (linesI (mOf l) p, true) := by
  have : linesI (mOf l) p = (r91.take (91 : Int).toNat).filter fun q => onI (mOf l) p q := rfl
  rw [this]
  refine loop_from (g := fun k x i => spec_PlaneLines.l0 k l p x i) (N := 91) (acc := fun i => (r91.take i.toNat).filter fun q => onI (mOf l) p q) (s := 0) (by omega) ?_ ?_
  · intro i i0 i1 h
    refine Ev.step (fun k => spec_PlaneLines.l0.eq_2 ..) (Ev.pos i1 ?_)
    rw [on_spec hn hp ⟨i0, by omega⟩, w1 i0 (by omega)]
    have := take91_len (fun q => onI (mOf l) p q) i.toNat
    rw [take91_step _ i0 i1] at h
    cases hc : onI (mOf l) p i with
    | true =>
      rw [hc, if_pos rfl] at h
      exact Ev.some' (Ev.pos rfl (Ev.pos (by omega) h))
    | false =>
      rw [hc, if_neg (by decide)] at h
      exact Ev.some' (Ev.neg (by decide) h)
  · exact Ev.step (fun k => spec_PlaneLines.l0.eq_2 ..) (Ev.neg (by omega) (Ev.now _))
theorem lines_both {l : List Int} (hl : (l.length : Int) ≤ 9223372036854775806) (p : Int) :
    ∃ r : List Int × Bool, Ev (fun k => spec_PlaneLines.f k l p) r ∧ impl_PlaneLines.f l p = some r ∧ ((sysI l = true ∧ Rg p ∧ r = (linesI (mOf l) p, true)) ∨ (¬ (sysI l = true ∧ Rg p) ∧ r = ([], false))) := by
  unfold spec_PlaneLines.f impl_PlaneLines.f
  rw [l3In_some]
  have no : Ev (fun k => spec_PlaneLines.j0 k l p [] true) ([], false) := Ev.step (fun k => spec_PlaneLines.j0.eq_2 ..) (Ev.pos rfl (Ev.now _))
  cases hs : sysI l with
  | false => exact ⟨([], false), Ev.some' (Ev.bind (sysIn_ev hl) (by rw [hs]; exact Ev.neg (by decide) no)), by rw [Bool.false_and, if_neg (by decide)], .inr ⟨by simp, rfl⟩⟩
  | true =>
    by_cases hp : Rg p
    · refine ⟨(linesI (mOf l) p, true), Ev.some' (Ev.bind (sysIn_ev hl) (Ev.pos hs ?_)), ?_, .inl ⟨rfl, hp, rfl⟩⟩
      · rw [decide_eq_true hp]
        exact Ev.some' (Ev.step (fun k => spec_PlaneLines.j0.eq_2 ..) (Ev.neg (by decide) (lines_ev (sysI_n hs) hp)))
      · rw [decide_eq_true (show 0 ≤ p from hp.1), decide_eq_true (show p < 91 by have := hp.2; omega), lines_filter (sysI_n hs) hp]
        rfl
    · refine ⟨([], false), Ev.some' (Ev.bind (sysIn_ev hl) (Ev.pos hs ?_)), ?_, .inr ⟨by simp [hp], rfl⟩⟩
      · rw [decide_eq_false hp]
        exact Ev.some' no
      · rw [if_neg]
        rw [Bool.true_and, Bool.and_eq_true, decide_eq_true_eq, decide_eq_true_eq]
        exact fun h => hp ⟨h.1, by omega⟩

end Go.Proofs.Ytpfennpbemeikaa.Pure
