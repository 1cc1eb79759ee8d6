/- Contracts of Go functions of the given program: each says, under its own hypotheses, what a call returns and leaves. Written by this claim's own program over the kit's print. -/
import Derived.Test.YteioeojpomahgaaPx0
import Derived.Test.YteioeojpomahgaaPx1
namespace Go.Proofs.Yteioeojpomahgaa.P
open Go.RowKit Go.Proofs.YteioeojpomahgaaW.PrintWords Go.Proofs.YteioeojpomahgaaW.PrintLast Go.Proofs.YteioeojpomahgaaW.PrintMore
attribute [local go_sem] max2_int min2_int max_two min_two max_three min_three max_four min_four   -- for this text's walks alone
set_option linter.unusedVariables false
set_option linter.unusedSimpArgs false

/-! ### impl_productOf: function 84 -/
def impl_productOf.h (a1 a2 rr ss : Int) : Option Int :=
  impl_element.f (wrap64 ((wrap64 ((Int.tmod a1 3) * (Int.tmod a2 3))) - (wrap64 ((wrap64 (Int.tdiv a1 3)) * (wrap64 ((wrap64 ((wrap64 ((wrap64 ((Int.tmod a2 3) * (Int.tmod a2 3))) - (wrap64 (rr * (Int.tmod a2 3))))) - ss)) * (wrap64 (Int.tdiv a2 3))))))))
    (wrap64 ((wrap64 ((wrap64 ((Int.tmod a1 3) * (wrap64 (Int.tdiv a2 3)))) - (wrap64 ((wrap64 (Int.tdiv a1 3)) * (Int.tmod a2 3))))) + (wrap64 ((wrap64 (Int.tdiv a1 3)) * rr))))
def impl_productOf.f (k : Nat) (a0 a1 a2 : Int) : Option Int :=
  if a0 = 1 then (if 0 < a2 then ((impl_isSquareNumber.f k a2).bind fun t => (if t = true then (impl_times.f a1 a2) else ((impl_cube.f a1).bind fun u => (impl_times.f u a2)))) else (impl_times.f a1 a2))
  else if a0 < 2 then (impl_times.f a1 a2)
  else if (wrap64 (Int.tdiv a2 3)) = 0 then (impl_times.f a1 a2)
  else if a0 = 2 then (impl_productOf.h a1 a2 0 2) else if a0 = 3 then (impl_productOf.h a1 a2 1 1) else if a0 = 4 then (impl_productOf.h a1 a2 2 1) else none
theorem impl_productOf.mono : ∀ a0 a1 a2 k, LeO (impl_productOf.f k a0 a1 a2) (impl_productOf.f (k + 1) a0 a1 a2) := by
  intro a0 a1 a2 k
  unfold impl_productOf.f
  repeat' first
      | (with_reducible exact impl_isSquareNumber.mono _ _)
      | (with_reducible exact LeO.refl _)
      | (with_reducible exact LeO.none _)
      | (with_reducible refine LeO.ite ?_ ?_)
      | (with_reducible refine LeO.bind ?_ (fun _ => ?_))
      | exact impl_isSquareNumber.mono _ _
      | refine LeO.ite ?_ ?_
      | refine LeO.bind ?_ (fun _ => ?_)
set_option maxHeartbeats 4000000 in
set_option maxRecDepth 100000 in
theorem impl_productOf.one (k : Nat) (a1 a2 r : Int) (w : World) (h : impl_productOf.f k 1 a1 a2 = some r) :
    Calls Try.prog 84 #[.int .i64 1, .int .i64 a1, .int .i64 a2] w fun e w' => e = .returned (.int .i64 r) ∧ Drawn0 w w' := by
  unfold impl_productOf.f at h
  rw [if_pos rfl] at h
  by_cases c2 : 0 < a2
  · rw [if_pos c2] at h
    have c2b : decide (0 < a2) = true := decide_eq_true c2
    obtain ⟨t, A1, h⟩ := Option.bind_eq_some_iff.mp h
    have A1 := Aside0.mk A1
    cases t
    · rw [if_neg (by decide)] at h
      obtain ⟨u, A2, h⟩ := Option.bind_eq_some_iff.mp h
      have A2 := Aside0.mk A2
      have A3 := Aside0.mk h
      clear h
      go_enter Try.func84, Try.ntmps84
      go_wp2_with (first | (go_at_call 88; (with_reducible refine (impl_isSquareNumber.calls k a2 _ _ A1.out).mono ?_); rintro e w' ⟨rfl, ⟨nd, rfl⟩⟩) | (go_at_call 90; (with_reducible refine (impl_cube.calls a1 u _ A2.out).mono ?_); rintro e w' ⟨rfl, ⟨nd, rfl⟩⟩) | (go_at_call 89; (with_reducible refine (impl_times.calls u a2 r _ A3.out).mono ?_); rintro e w' ⟨rfl, ⟨nd, rfl⟩⟩))
      go_ret
      exact ⟨rfl, by repeat (first | exact Drawn0.refl _ | apply Drawn0.step)⟩
    · rw [if_pos rfl] at h
      have A3 := Aside0.mk h
      clear h
      go_enter Try.func84, Try.ntmps84
      go_wp2_with (first | (go_at_call 88; (with_reducible refine (impl_isSquareNumber.calls k a2 _ _ A1.out).mono ?_); rintro e w' ⟨rfl, ⟨nd, rfl⟩⟩) | (go_at_call 89; (with_reducible refine (impl_times.calls a1 a2 r _ A3.out).mono ?_); rintro e w' ⟨rfl, ⟨nd, rfl⟩⟩))
      go_ret
      exact ⟨rfl, by repeat (first | exact Drawn0.refl _ | apply Drawn0.step)⟩
  · rw [if_neg c2] at h
    have c2b : decide (0 < a2) = false := decide_eq_false c2
    have A3 := Aside0.mk h
    clear h
    go_enter Try.func84, Try.ntmps84
    go_wp2_with (first | (go_at_call 89; (with_reducible refine (impl_times.calls a1 a2 r _ A3.out).mono ?_); rintro e w' ⟨rfl, ⟨nd, rfl⟩⟩))
    go_ret
    exact ⟨rfl, by repeat (first | exact Drawn0.refl _ | apply Drawn0.step)⟩
set_option maxHeartbeats 4000000 in
set_option maxRecDepth 100000 in
theorem impl_productOf.plain (a0 a1 a2 r : Int) (w : World) (c1 : ¬ a0 = 1) (c2 : a0 < 2 ∨ ¬ a0 < 2 ∧ wrap64 (Int.tdiv a2 3) = 0) (h : impl_times.f a1 a2 = some r) :
    Calls Try.prog 84 #[.int .i64 a0, .int .i64 a1, .int .i64 a2] w fun e w' => e = .returned (.int .i64 r) ∧ Drawn0 w w' := by
  have c1b0 : (a0 == 1) = false := beq_eq_false_iff_ne.mpr c1
  have c1b1 : (a0 != 1) = true := bne_iff_ne.mpr c1
  have A3 := Aside0.mk h
  clear h
  rcases c2 with c2 | ⟨c2, c3⟩
  · have c2b : decide (a0 < 2) = true := decide_eq_true c2
    go_enter Try.func84, Try.ntmps84
    go_wp2_with (first | (go_at_call 89; (with_reducible refine (impl_times.calls a1 a2 r _ A3.out).mono ?_); rintro e w' ⟨rfl, ⟨nd, rfl⟩⟩))
    go_ret
    exact ⟨rfl, by repeat (first | exact Drawn0.refl _ | apply Drawn0.step)⟩
  · have c2b : decide (a0 < 2) = false := decide_eq_false c2
    have c3b : (wrap64 (Int.tdiv a2 3) == 0) = true := beq_iff_eq.mpr c3
    clear c3
    go_enter Try.func84, Try.ntmps84
    go_wp2_with (first | (go_at_call 89; (with_reducible refine (impl_times.calls a1 a2 r _ A3.out).mono ?_); rintro e w' ⟨rfl, ⟨nd, rfl⟩⟩))
    go_ret
    exact ⟨rfl, by repeat (first | exact Drawn0.refl _ | apply Drawn0.step)⟩
set_option maxHeartbeats 4000000 in
set_option maxRecDepth 100000 in
theorem impl_productOf.hall (a0 a1 a2 rr ss r : Int) (w : World) (hk : a0 = 2 ∧ rr = 0 ∧ ss = 2 ∨ a0 = 3 ∧ rr = 1 ∧ ss = 1 ∨ a0 = 4 ∧ rr = 2 ∧ ss = 1) (c3 : ¬ wrap64 (Int.tdiv a2 3) = 0) (h : impl_productOf.h a1 a2 rr ss = some r) :
    Calls Try.prog 84 #[.int .i64 a0, .int .i64 a1, .int .i64 a2] w fun e w' => e = .returned (.int .i64 r) ∧ Drawn0 w w' := by
  have i00 : ∀ w, (Instr.index 59 (.agg #[.int .i64 0, .int .i64 1, .int .i64 2]) (.int .i64 0)).run Try.prog w = .ok (.int .i64 0) w := fun _ => by kernel_rfl
  have i01 : ∀ w, (Instr.index 59 (.agg #[.int .i64 0, .int .i64 1, .int .i64 2]) (.int .i64 1)).run Try.prog w = .ok (.int .i64 1) w := fun _ => by kernel_rfl
  have i02 : ∀ w, (Instr.index 59 (.agg #[.int .i64 0, .int .i64 1, .int .i64 2]) (.int .i64 2)).run Try.prog w = .ok (.int .i64 2) w := fun _ => by kernel_rfl
  have i10 : ∀ w, (Instr.index 59 (.agg #[.int .i64 2, .int .i64 1, .int .i64 1]) (.int .i64 0)).run Try.prog w = .ok (.int .i64 2) w := fun _ => by kernel_rfl
  have i11 : ∀ w, (Instr.index 59 (.agg #[.int .i64 2, .int .i64 1, .int .i64 1]) (.int .i64 1)).run Try.prog w = .ok (.int .i64 1) w := fun _ => by kernel_rfl
  have i12 : ∀ w, (Instr.index 59 (.agg #[.int .i64 2, .int .i64 1, .int .i64 1]) (.int .i64 2)).run Try.prog w = .ok (.int .i64 1) w := fun _ => by kernel_rfl
  have c3b0 : (wrap64 (Int.tdiv a2 3) == 0) = false := beq_eq_false_iff_ne.mpr c3
  clear c3
  have A3 : Aside0 (impl_element.f (wrap64 ((wrap64 ((Int.tmod a1 3) * (Int.tmod a2 3))) - (wrap64 ((wrap64 (Int.tdiv a1 3)) * (wrap64 ((wrap64 ((wrap64 ((wrap64 ((Int.tmod a2 3) * (Int.tmod a2 3))) - (wrap64 (rr * (Int.tmod a2 3))))) - ss)) * (wrap64 (Int.tdiv a2 3)))))))) (wrap64 ((wrap64 ((wrap64 ((Int.tmod a1 3) * (wrap64 (Int.tdiv a2 3)))) - (wrap64 ((wrap64 (Int.tdiv a1 3)) * (Int.tmod a2 3))))) + (wrap64 ((wrap64 (Int.tdiv a1 3)) * rr)))) = some r) := ⟨h⟩
  have HK := Aside0.mk hk
  clear h hk
  obtain hk := HK.out
  rcases hk with ⟨rfl, e1, e2⟩ | ⟨rfl, e1, e2⟩ | ⟨rfl, e1, e2⟩
  all_goals
    have E := Aside0.mk (And.intro e1 e2)
    clear e1 e2
    go_enter Try.func84, Try.ntmps84
    go_upto_region 6 with (fail)
    go_cut [11, 12] (fun v11 v12 wc => v11 = .int .i64 rr ∧ v12 = .int .i64 ss ∧ Drawn0 w wc)
    case first =>
      go_quiet (fail)
      go_wp2
      go_meet
      case rel => exact ⟨by rw [E.out.1], by rw [E.out.2], by repeat (first | exact Drawn0.refl _ | apply Drawn0.step)⟩
    case rest =>
      obtain ⟨rfl, rfl, ⟨mc, rfl⟩⟩ := hcut
      go_wp2_with (first | (go_at_call 81; (with_reducible refine (impl_element.calls _ _ r _ A3.out).mono ?_); rintro e w' ⟨rfl, ⟨nd, rfl⟩⟩))
      go_ret
      exact ⟨rfl, by repeat (first | exact Drawn0.refl _ | apply Drawn0.step)⟩
theorem impl_productOf.calls (k : Nat) (a0 a1 a2 r : Int) (w : World) (h : impl_productOf.f k a0 a1 a2 = some r) :
    Calls Try.prog 84 #[.int .i64 a0, .int .i64 a1, .int .i64 a2] w fun e w' => e = .returned (.int .i64 r) ∧ Drawn0 w w' := by
  by_cases c1 : a0 = 1
  · subst c1
    exact impl_productOf.one k a1 a2 r w h
  · unfold impl_productOf.f at h
    rw [if_neg c1] at h
    by_cases c2 : a0 < 2
    · rw [if_pos c2] at h
      exact impl_productOf.plain a0 a1 a2 r w c1 (.inl c2) h
    · rw [if_neg c2] at h
      by_cases c3 : wrap64 (Int.tdiv a2 3) = 0
      · rw [if_pos c3] at h
        exact impl_productOf.plain a0 a1 a2 r w c1 (.inr ⟨c2, c3⟩) h
      · rw [if_neg c3] at h
        by_cases c4 : a0 = 2
        · rw [if_pos c4] at h
          exact impl_productOf.hall a0 a1 a2 0 2 r w (.inl ⟨c4, rfl, rfl⟩) c3 h
        · rw [if_neg c4] at h
          by_cases c5 : a0 = 3
          · rw [if_pos c5] at h
            exact impl_productOf.hall a0 a1 a2 1 1 r w (.inr (.inl ⟨c5, rfl, rfl⟩)) c3 h
          · rw [if_neg c5] at h
            by_cases c6 : a0 = 4
            · rw [if_pos c6] at h
              exact impl_productOf.hall a0 a1 a2 2 1 r w (.inr (.inr ⟨c6, rfl, rfl⟩)) c3 h
            · rw [if_neg c6] at h
              exact absurd h (by simp)

/-! ### impl_tableOf: function 70 -/
mutual
def impl_tableOf.l0 : Nat → Int → List Int → Int → Option (List Int)
  | 0, _, _, _ => none
  | k + 1, x0, x3, x7 => if x7 < 9 then (impl_tableOf.l1 k x0 x3 x7 x7 0) else (some x3)
def impl_tableOf.l1 : Nat → Int → List Int → Int → Int → Int → Option (List Int)
  | 0, _, _, _, _, _ => none
  | k + 1, x0, x3, x4, x7, x10 => if x10 < 9 then ((impl_productOf.f k x0 x4 x10).bind fun t320 => (if x3.length < 17592186044416 then (impl_tableOf.l1 k x0 (x3 ++ [t320]) x4 x7 (wrap64 (x10 + 1))) else (none))) else (impl_tableOf.l0 k x0 x3 (wrap64 (x7 + 1)))
end
def impl_tableOf.f (k : Nat) (a0 : Int) : Option (List Int) := impl_tableOf.l0 k a0 (([] : List Int)) 0
theorem impl_tableOf.mono_l : ∀ k, (∀ y0 y1 y2, LeO (impl_tableOf.l0 k y0 y1 y2) (impl_tableOf.l0 (k + 1) y0 y1 y2)) ∧ (∀ y0 y1 y2 y3 y4, LeO (impl_tableOf.l1 k y0 y1 y2 y3 y4) (impl_tableOf.l1 (k + 1) y0 y1 y2 y3 y4))
  | 0 => ⟨fun _ _ _ r h => by simp [impl_tableOf.l0] at h, fun _ _ _ _ _ r h => by simp [impl_tableOf.l1] at h⟩
  | k + 1 => by
    obtain ⟨ih0, ih1⟩ := impl_tableOf.mono_l k
    refine ⟨?_, ?_⟩
    · intro y0 y1 y2
      unfold impl_tableOf.l0
      repeat' first
      | (with_reducible exact ih0 _ _ _)
      | (with_reducible exact ih1 _ _ _ _ _)
      | (with_reducible exact impl_productOf.mono _ _ _ _)
      | (with_reducible exact LeO.refl _)
      | (with_reducible exact LeO.none _)
      | (with_reducible refine LeO.ite ?_ ?_)
      | (with_reducible refine LeO.bind ?_ (fun _ => ?_))
      | exact ih0 _ _ _
      | exact ih1 _ _ _ _ _
      | exact impl_productOf.mono _ _ _ _
      | exact LeO.none _
      | refine LeO.ite ?_ ?_
      | refine LeO.bind ?_ (fun _ => ?_)
    · intro y0 y1 y2 y3 y4
      unfold impl_tableOf.l1
      repeat' first
      | (with_reducible exact ih0 _ _ _)
      | (with_reducible exact ih1 _ _ _ _ _)
      | (with_reducible exact impl_productOf.mono _ _ _ _)
      | (with_reducible exact LeO.refl _)
      | (with_reducible exact LeO.none _)
      | (with_reducible refine LeO.ite ?_ ?_)
      | (with_reducible refine LeO.bind ?_ (fun _ => ?_))
      | exact ih0 _ _ _
      | exact ih1 _ _ _ _ _
      | exact impl_productOf.mono _ _ _ _
      | exact LeO.none _
      | refine LeO.ite ?_ ?_
      | refine LeO.bind ?_ (fun _ => ?_)
theorem impl_tableOf.mono : ∀ a0 k, LeO (impl_tableOf.f k a0) (impl_tableOf.f (k + 1) a0) := by
  intro a0 k
  obtain ⟨ih0, ih1⟩ := impl_tableOf.mono_l k
  unfold impl_tableOf.f
  repeat' first
      | (with_reducible exact ih0 _ _ _)
      | (with_reducible exact ih1 _ _ _ _ _)
      | (with_reducible exact impl_productOf.mono _ _ _ _)
      | (with_reducible exact LeO.refl _)
      | (with_reducible exact LeO.none _)
      | (with_reducible refine LeO.ite ?_ ?_)
      | (with_reducible refine LeO.bind ?_ (fun _ => ?_))
      | exact ih0 _ _ _
      | exact ih1 _ _ _ _ _
      | exact impl_productOf.mono _ _ _ _
      | exact LeO.none _
      | refine LeO.ite ?_ ?_
      | refine LeO.bind ?_ (fun _ => ?_)
set_option maxHeartbeats 8000000 in
set_option maxRecDepth 100000 in
theorem impl_tableOf.calls (k : Nat) (a0 : Int) (r : List Int) (w : World) (h : impl_tableOf.f k a0 = some r) :
    Calls Try.prog 70 #[.int .i64 a0] w fun e w' => ∃ v0_ : Value, e = .returned (v0_) ∧ Kd.R (Kd.int .i64) 3 w' w.heap.size (fun _ => True) v0_ r ∧ Below w.heap.size w w' := by
  have HB := Aside0.mk (Below.refl w.heap.size w)
  have H : (impl_tableOf.l0 k a0 (([] : List Int)) 0) = some r := h
  clear h
  obtain ⟨y317, hy317⟩ : ∃ y_ : List Int, y_ = (([] : List Int)) := ⟨_, rfl⟩
  replace H : (impl_tableOf.l0 k a0 y317 0) = some r := by first | (rw [hy317]; with_reducible exact H) | (have H2_ := (Option.bind_some _ _).symm.trans H; rw [hy317]; with_reducible exact H2_) | (have H2_ := (Option.bind_some _ _).symm.trans H; with_reducible exact H2_) | with_reducible exact H | (rw [hy317]; exact H) | exact H
  have Ny317 := Aside0.mk hy317
  clear hy317
  have H' := Aside0.mk H
  clear H
  go_enter Try.func70, Try.ntmps70
  go_wp2_with (first | ((with_reducible refine gate_dst (N := 6) rfl ?_); refine Kd.R_lit (Kd.int .i64) _ 3 ?hg (N := 6) ?hd (xs := ([] : List Int)) (inner := []) (ok := fun _ => True) (okp := fun _ => True) ?hr ?hp (fun _ hk => hk) trivial (Below.refl _ _) (Nat.le_refl _) (by simp) ?_; (case hd => rfl); (case hg => rfl); (case hr => first | (go_simp; done) | (go_simp; rfl)); (case hp => exact (Reps.none _ _)); intro v318 w2 ho3 hb hg_ hnew_; clear hg_ hnew_; (first | rw [← Ny317.out] at ho3 | (simp only [Int.reduceToNat] at ho3; rw [← Ny317.out] at ho3)); have n0_ := Aside0.mk (Kd.R_lower ho3 (below_size (by repeat (first | (with_reducible first | exact HB.out | apply below_alloc | apply pw_below_drewN | apply below_drew1) | exact HB.out)))); have n1_ := Aside0.mk (below_step (by repeat (first | (with_reducible first | exact HB.out | apply below_alloc | apply pw_below_drewN | apply below_drew1) | exact HB.out)) hb); clear HB; have HO319 := n0_; have HB := n1_; clear n0_ n1_; clear hb ho3))
  go_loopg [3, 7] k (fun kq v3 v7 w' => ∃ (x3_1 : List Int) (x7_1 : Int), v7 = .int .i64 x7_1 ∧ Aside0 (impl_tableOf.l0 kq a0 x3_1 x7_1 = some r) ∧ Aside0 (kq ≤ k) ∧ Aside0 (Kd.R (Kd.int .i64) 3 w' w.heap.size (fun _ => True) v3 x3_1) ∧ Aside0 (Below w.heap.size w w'))
  case atStart => exact ⟨(y317), (0), (by first | rfl | (simp; done) | (simp [*]; done)), H', ⟨Nat.le_refl _⟩, ⟨by (with_reducible repeat (first | apply Kd.R_alloc | apply Kd.R_drewN | apply Kd.R_drew)); exact HO319.out⟩, ⟨by repeat (first | (with_reducible first | exact HB.out | apply below_alloc | apply pw_below_drewN | apply below_drew1) | exact HB.out)⟩⟩
  case round =>
    clear H'
    try clear p2
    obtain ⟨x3_1, x7_1, rfl, HA, HK1, HO_3, HB⟩ := hrel
    cases gk with
    | zero => exact absurd HA.out (by simp [impl_tableOf.l0])
    | succ k1 =>
      have H := HA.out
      clear HA
      simp only [impl_tableOf.l0] at H
      by_cases c4 : x7_1 < 9
      · rw [if_pos c4] at H
        have c4b0 : decide (x7_1 < 9) = true := decide_eq_true c4
        clear c4
        have H' := Aside0.mk H
        clear H
        go_wp2
        go_loopg [3, 10] k1 (fun kq v3 v10 w' => ∃ (x3_2 : List Int) (x10_2 : Int), v10 = .int .i64 x10_2 ∧ Aside0 (impl_tableOf.l1 kq a0 x3_2 x7_1 x7_1 x10_2 = some r) ∧ Aside0 (kq ≤ k1) ∧ Aside0 (Kd.R (Kd.int .i64) 3 w' w.heap.size (fun _ => True) v3 x3_2) ∧ Aside0 (Below w.heap.size w w'))
        case atStart => exact ⟨(x3_1), (0), (by first | rfl | (simp; done) | (simp [*]; done)), H', ⟨Nat.le_refl _⟩, ⟨by (with_reducible repeat (first | apply Kd.R_alloc | apply Kd.R_drewN | apply Kd.R_drew)); exact HO_3.out⟩, ⟨by repeat (first | (with_reducible first | exact HB.out | apply below_alloc | apply pw_below_drewN | apply below_drew1) | exact HB.out)⟩⟩
        case round =>
          clear H'
          try clear p2
          try clear c4
          try clear c4b0
          try clear p2
          obtain ⟨x3_2, x10_2, rfl, HA, HK2, HO_3, HB⟩ := hrel
          cases gk with
          | zero => exact absurd HA.out (by simp [impl_tableOf.l1])
          | succ k2 =>
            have H := HA.out
            clear HA
            simp only [impl_tableOf.l1] at H
            by_cases c5 : x10_2 < 9
            · rw [if_pos c5] at H
              have c5b0 : decide (x10_2 < 9) = true := decide_eq_true c5
              clear c5
              replace H := Option.bind_eq_some_iff.mp H
              obtain ⟨t320, A60, H⟩ := H
              replace H : (if x3_2.length < 17592186044416 then (impl_tableOf.l1 k2 a0 (x3_2 ++ [t320]) x7_1 x7_1 (wrap64 (x10_2 + 1))) else (none)) = some r := H
              have A6 := Aside0.mk A60
              clear A60
              by_cases c7 : x3_2.length < 17592186044416
              · rw [if_pos c7] at H
                have LMc7 := Aside0.mk c7
                clear c7
                obtain ⟨y321, hy321⟩ : ∃ y_ : List Int, y_ = (x3_2 ++ [t320]) := ⟨_, rfl⟩
                replace H : (impl_tableOf.l1 k2 a0 y321 x7_1 x7_1 (wrap64 (x10_2 + 1))) = some r := by first | (rw [hy321]; with_reducible exact H) | (have H2_ := (Option.bind_some _ _).symm.trans H; rw [hy321]; with_reducible exact H2_) | (have H2_ := (Option.bind_some _ _).symm.trans H; with_reducible exact H2_) | with_reducible exact H | (rw [hy321]; exact H) | exact H
                have Ny321 := Aside0.mk hy321
                clear hy321
                have H' := Aside0.mk H
                clear H
                go_wp2_with (first | ((with_reducible refine gate_callee (f := 84) rfl ?_); refine goesL_ (some 17) rfl rfl Try.func84 (by kernel_rfl) rfl #[.int .i64 a0, .int .i64 x7_1, .int .i64 x10_2] rfl (by (try simp only [List.map_toArray, List.map_cons, List.map_nil]); first | done | rfl | (simp only [List.length_drop, List.length_take]; rfl)) ?_; (with_reducible refine (impl_productOf.calls k2 a0 x7_1 x10_2 t320 _ A6.out).mono ?_); rintro e w' ⟨rfl, ⟨nd, rfl⟩⟩; refine ⟨_, rfl, ?_⟩) | ((with_reducible refine gate_builtin (b := .append) (xs := #[.tmp 13, .tmp 18]) rfl ?_); at_builtin; refine Kd.R_append (Kd.int .i64) (w0 := w) w.heap.size rfl (.tmp 13) (.tmp 18) 22 3 (.int .i64 0) 8 rfl Try.underlying22 info3 rfl (by decide) (by omega) u3 x3_2 t320 [.int .i64 t320] (fun _ => True) (fun _ => False) rfl rfl ?aP (fun _ hk => hk.elim) ?aF ?aO ?aB ?aS ?aL ?_; (case aP => exact rfl); (case aB => exact (by repeat (first | (with_reducible first | exact HB.out | apply below_alloc | apply pw_below_drewN | apply below_drew1) | exact HB.out))); (case aF => exact (fun _ _ => trivial)); (case aO => exact (by (with_reducible repeat (first | apply Kd.R_alloc | apply Kd.R_drewN | apply Kd.R_drew)); exact HO_3.out)); (case aS => exact (below_size (by repeat (first | (with_reducible first | exact HB.out | apply below_alloc | apply pw_below_drewN | apply below_drew1) | exact HB.out)))); (case aL => have := LMc7.out; omega); intro v322 w8 ho hb hg hat; rw [← Ny321.out] at ho; have n0_ := Aside0.mk (hb); have n1_ := Aside0.mk (ho); clear HB; clear HO_3; have HB := n0_; have HO323 := n1_; clear n0_ n1_; clear ho hb hg hat))
                go_roundg k2
                case measure => have := HK1.out; have := HK2.out; omega
                case rel => exact ⟨(y321), (wrap64 (x10_2 + 1)), (by first | rfl | (simp; done) | (simp [*]; done)), H', ⟨by have := HK1.out; have := HK2.out; omega⟩, ⟨by (with_reducible repeat (first | apply Kd.R_alloc | apply Kd.R_drewN | apply Kd.R_drew)); exact HO323.out⟩, ⟨by repeat (first | (with_reducible first | exact HB.out | apply below_alloc | apply pw_below_drewN | apply below_drew1) | exact HB.out)⟩⟩
              · rw [if_neg c7] at H
                exact absurd H (by simp)
            · rw [if_neg c5] at H
              have c5b0 : decide (x10_2 < 9) = false := decide_eq_false c5
              clear c5
              have H' := Aside0.mk H
              clear H
              go_wp2
              go_roundg k2
              case measure => have := HK1.out; have := HK2.out; omega
              case rel => exact ⟨(x3_2), (wrap64 (x7_1 + 1)), (by first | rfl | (simp; done) | (simp [*]; done)), H', ⟨by have := HK1.out; have := HK2.out; omega⟩, ⟨by (with_reducible repeat (first | apply Kd.R_alloc | apply Kd.R_drewN | apply Kd.R_drew)); exact HO_3.out⟩, ⟨by repeat (first | (with_reducible first | exact HB.out | apply below_alloc | apply pw_below_drewN | apply below_drew1) | exact HB.out)⟩⟩
      · rw [if_neg c4] at H
        have c4b0 : decide (x7_1 < 9) = false := decide_eq_false c4
        clear c4
        obtain rfl := Option.some.inj H
        go_wp2
        go_ret
        exact ⟨_, by first | rfl | (simp [errW_none, errW_some] <;> rfl) | (simp [*, errW_none, errW_some] <;> rfl), by (with_reducible repeat (first | apply Kd.R_alloc | apply Kd.R_drewN | apply Kd.R_drew)); exact HO_3.out, by repeat (first | (with_reducible first | exact HB.out | apply below_alloc | apply pw_below_drewN | apply below_drew1) | exact HB.out)⟩

/-! ### impl_SystemOf: function 37 -/
def impl_SystemOf.f (k : Nat) (a0 : Int) : Option (List Int × Bool) := if a0 < 0 then (some (([] : List Int), false)) else (if a0 ≥ 5 then (some (([] : List Int), false)) else ((impl_tableOf.f k a0).bind fun t324 => (some (t324, true))))
theorem impl_SystemOf.mono : ∀ a0 k, LeO (impl_SystemOf.f k a0) (impl_SystemOf.f (k + 1) a0) := by
  intro a0 k
  unfold impl_SystemOf.f
  repeat' first
      | (with_reducible exact impl_tableOf.mono _ _)
      | (with_reducible exact LeO.refl _)
      | (with_reducible exact LeO.none _)
      | (with_reducible refine LeO.ite ?_ ?_)
      | (with_reducible refine LeO.bind ?_ (fun _ => ?_))
      | exact impl_tableOf.mono _ _
      | exact LeO.none _
      | refine LeO.ite ?_ ?_
      | refine LeO.bind ?_ (fun _ => ?_)
set_option maxHeartbeats 8000000 in
set_option maxRecDepth 100000 in
theorem impl_SystemOf.calls (k : Nat) (a0 : Int) (r1 : List Int) (r2 : Bool) (w : World) (h : impl_SystemOf.f k a0 = some (r1, r2)) :
    Calls Try.prog 37 #[.int .i64 a0] w fun e w' => ∃ v0_ : Value, e = .returned (.tuple #[v0_, .bool r2]) ∧ Kd.R (Kd.int .i64) 3 w' w.heap.size (fun _ => True) v0_ r1 ∧ Below w.heap.size w w' := by
  have HB := Aside0.mk (Below.refl w.heap.size w)
  have H : (if a0 < 0 then (some (([] : List Int), false)) else (if a0 ≥ 5 then (some (([] : List Int), false)) else ((impl_tableOf.f k a0).bind fun t324 => (some (t324, true))))) = some (r1, r2) := h
  clear h
  by_cases c2 : a0 < 0
  · rw [if_pos c2] at H
    have c2b0 : decide (a0 < 0) = true := decide_eq_true c2
    clear c2
    simp only [Option.some.injEq, Prod.mk.injEq] at H
    obtain ⟨rfl, rfl⟩ := H
    go_enter Try.func37, Try.ntmps37
    go_wp2
    go_ret2
    exact ⟨_, by first | rfl | (simp [errW_none, errW_some] <;> rfl) | (simp [*, errW_none, errW_some] <;> rfl), by first | exact Kd.R_nil _ _ _ _ _ | exact Kd.N_nil _ _ _ _ _ | exact Kd.V_nil _ _ _ _ _ | exact Kd.Q_nil _ _ _ _ _ | exact Kd.S_nil _ _ _ _ _, by repeat (first | (with_reducible first | exact HB.out | apply below_alloc | apply pw_below_drewN | apply below_drew1) | exact HB.out)⟩
  · rw [if_neg c2] at H
    have c2b0 : decide (a0 < 0) = false := decide_eq_false c2
    clear c2
    by_cases c3 : a0 ≥ 5
    · rw [if_pos c3] at H
      have c3b0 : decide (5 ≤ a0) = true := decide_eq_true c3
      clear c3
      simp only [Option.some.injEq, Prod.mk.injEq] at H
      obtain ⟨rfl, rfl⟩ := H
      go_enter Try.func37, Try.ntmps37
      go_wp2
      go_ret2
      exact ⟨_, by first | rfl | (simp [errW_none, errW_some] <;> rfl) | (simp [*, errW_none, errW_some] <;> rfl), by first | exact Kd.R_nil _ _ _ _ _ | exact Kd.N_nil _ _ _ _ _ | exact Kd.V_nil _ _ _ _ _ | exact Kd.Q_nil _ _ _ _ _ | exact Kd.S_nil _ _ _ _ _, by repeat (first | (with_reducible first | exact HB.out | apply below_alloc | apply pw_below_drewN | apply below_drew1) | exact HB.out)⟩
    · rw [if_neg c3] at H
      have c3b0 : decide (5 ≤ a0) = false := decide_eq_false c3
      clear c3
      replace H := Option.bind_eq_some_iff.mp H
      obtain ⟨t324, A40, H⟩ := H
      replace H : (some (t324, true)) = some (r1, r2) := H
      have A4 := Aside0.mk A40
      clear A40
      simp only [Option.some.injEq, Prod.mk.injEq] at H
      obtain ⟨rfl, rfl⟩ := H
      go_enter Try.func37, Try.ntmps37
      go_wp2_with (first | ((with_reducible refine gate_callee (f := 70) rfl ?_); refine goesL_ (some 11) rfl rfl Try.func70 (by kernel_rfl) rfl #[.int .i64 a0] rfl (by (try simp only [List.map_toArray, List.map_cons, List.map_nil]); first | done | rfl | (simp only [List.length_drop, List.length_take]; rfl)) ?_; (with_reducible refine (impl_tableOf.calls k a0 t324 _ A4.out).mono ?_); rintro e w5 ⟨v325, rfl, ho0, hb⟩; refine ⟨_, rfl, ?_⟩; have n0_ := Aside0.mk (Kd.R_lower ho0 (below_size (by repeat (first | (with_reducible first | exact HB.out | apply below_alloc | apply pw_below_drewN | apply below_drew1) | exact HB.out)))); have n1_ := Aside0.mk (below_step (by repeat (first | (with_reducible first | exact HB.out | apply below_alloc | apply pw_below_drewN | apply below_drew1) | exact HB.out)) hb); clear HB; have HO326 := n0_; have HB := n1_; clear n0_ n1_; (try clear hb); (try clear hb2); (try clear hk); (try clear hi); (try clear ho0)))
      go_ret2
      exact ⟨_, by first | rfl | (simp [errW_none, errW_some] <;> rfl) | (simp [*, errW_none, errW_some] <;> rfl), by (with_reducible repeat (first | apply Kd.R_alloc | apply Kd.R_drewN | apply Kd.R_drew)); exact HO326.out, by repeat (first | (with_reducible first | exact HB.out | apply below_alloc | apply pw_below_drewN | apply below_drew1) | exact HB.out)⟩

end Go.Proofs.Yteioeojpomahgaa.P
