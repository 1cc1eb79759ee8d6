/- Loops told by what holds of every round, the earlier rounds known; a loop that seeks a number below 91. No conditions beyond those of each lemma. Points on lines, joins, meets and threes: what the program and the reference compute of a table. Conditions: the table is one of 81 elements, where it says so a system; the numbers are from 0 to 90. -/
import Derived.Test.YtiobhhcbdcbajaaEvA
import Derived.Test.YtiobhhcbdcbajaaAlgA
import Derived.Test.YtiobhhcbdcbajaaBrgA
import Derived.Test.YtiobhhcbdcbajaaPx1
import Derived.Test.YtiobhhcbdcbajaaPx8
import Derived.Test.YtiobhhcbdcbajaaPx9
import Derived.Test.YtiobhhcbdcbajaaPx10
import Derived.Test.YtiobhhcbdcbajaaPx11
import Derived.Test.YtiobhhcbdcbajaaPx7
set_option linter.unusedVariables false
set_option linter.unusedSimpArgs false
set_option linter.unusedSectionVars false
namespace Go.Proofs.Ytiobhhcbdcbajaa.Pure
open Go.RowKit Go.Proofs.Ytiobhhcbdcbajaa.Nine Go.Proofs.YtiobhhcbdcbajaaW.PrintWords

theorem loopP_all {α : Type} {g : Nat → Int → Option α} {N : Int} {P : Int → Prop} {r : α} (hN : 0 ≤ N) (hyes : ∀ i, 0 ≤ i → i < N → (∀ j, 0 ≤ j → j < i → P j) → P i → Ev (fun k => g k (i + 1)) r → Ev (fun k => g k i) r)
    (h : ∀ j, 0 ≤ j → j < N → P j) (hend : Ev (fun k => g k N) r) : Ev (fun k => g k 0) r := by
  have key : ∀ n : Nat, ∀ i : Int, 0 ≤ i → i ≤ N → (N - i).toNat = n → Ev (fun k => g k i) r := by
    intro n
    induction n with
    | zero =>
      intro i h0 h1 hn
      obtain rfl : i = N := by omega
      exact hend
    | succ n ih =>
      intro i h0 h1 hn
      exact hyes i h0 (by omega) (fun j j0 j1 => h j j0 (by omega)) (h i h0 (by omega)) (ih (i + 1) (by omega) (by omega) (by omega))
  exact key _ 0 (by omega) hN rfl
theorem first_no {N : Int} {P : Int → Prop} (h : ¬ ∀ j, 0 ≤ j → j < N → P j) : ∃ i, 0 ≤ i ∧ i < N ∧ ¬ P i ∧ ∀ j, 0 ≤ j → j < i → P j := Classical.byContradiction fun hn => by
  have key : ∀ n : Nat, ∀ i : Int, 0 ≤ i → i < n → i < N → P i := by
    intro n
    induction n with
    | zero => intro i h0 h1; omega
    | succ n ih =>
      intro i h0 h1 h2
      by_cases hi : i < n
      · exact ih i h0 hi h2
      · exact Classical.byContradiction fun hp => hn ⟨i, h0, h2, hp, fun j j0 j1 => ih j j0 (by omega) (by omega)⟩
  exact h fun j j0 j1 => key (j + 1).toNat j j0 (by omega) j1
theorem loopP_stop {α : Type} {g : Nat → Int → Option α} {N : Int} {P : Int → Prop} {stop : α} (hyes : ∀ i, 0 ≤ i → i < N → (∀ j, 0 ≤ j → j < i → P j) → P i → Ev (fun k => g k (i + 1)) stop → Ev (fun k => g k i) stop)
    (hno : ∀ i, 0 ≤ i → i < N → (∀ j, 0 ≤ j → j < i → P j) → ¬ P i → Ev (fun k => g k i) stop) (h : ¬ ∀ j, 0 ≤ j → j < N → P j) : Ev (fun k => g k 0) stop := by
  obtain ⟨i, i0, i1, hi, hb⟩ := first_no h
  refine loopP_all (g := g) (N := i) (P := P) i0 (fun j j0 j1 => hyes j j0 (by omega)) hb (hno i i0 i1 hb hi)
/-- A loop that tells whether something holds of all. -/
theorem loopP {g : Nat → Int → Option Bool} {N : Int} {P : Int → Prop} (hN : 0 ≤ N) (hyes : ∀ s i, 0 ≤ i → i < N → (∀ j, 0 ≤ j → j < i → P j) → P i → Ev (fun k => g k (i + 1)) s → Ev (fun k => g k i) s)
    (hno : ∀ i, 0 ≤ i → i < N → (∀ j, 0 ≤ j → j < i → P j) → ¬ P i → Ev (fun k => g k i) false) (hend : (∀ j, 0 ≤ j → j < N → P j) → Ev (fun k => g k N) true) : ∃ b : Bool, Ev (fun k => g k 0) b ∧ (b = true ↔ ∀ j, 0 ≤ j → j < N → P j) := by
  by_cases h : ∀ j, 0 ≤ j → j < N → P j
  · exact ⟨true, loopP_all hN (hyes true) h (hend h), by simp only [true_iff]; exact h⟩
  · exact ⟨false, loopP_stop (hyes false) hno h, by simp only [Bool.false_eq_true, false_iff]; exact h⟩
theorem r91_drop {i : Int} (h0 : 0 ≤ i) (h1 : i ≤ 90) : r91.drop i.toNat = i :: r91.drop (i + 1).toNat := by
  obtain ⟨n, rfl⟩ := Int.eq_ofNat_of_zero_le h0
  have h := (by decide +kernel : ∀ n, n < 91 → r91.drop n = (n : Int) :: r91.drop (n + 1)) n (by omega)
  rw [show ((n : Int) + 1).toNat = n + 1 by omega, Int.toNat_natCast]
  exact h
/-- A loop that seeks the first number below 91 of which something holds. -/
theorem loop_find {g : Nat → Int → Option Int} {f : Int → Bool} {d : Int} (hno : ∀ i, Rg i → f i = false → ∀ s, Ev (fun k => g k (i + 1)) s → Ev (fun k => g k i) s) (hhit : ∀ i, Rg i → f i = true → Ev (fun k => g k i) i) (hend : Ev (fun k => g k 91) d) : Ev (fun k => g k 0) (find91 f d) := by
  have key : ∀ n : Nat, ∀ i : Int, 0 ≤ i → i ≤ 91 → (91 - i).toNat = n → Ev (fun k => g k i) (((r91.drop i.toNat).find? f).getD d) := by
    intro n
    induction n with
    | zero =>
      intro i h0 h1 hn
      obtain rfl : i = 91 := by omega
      exact hend
    | succ n ih =>
      intro i h0 h1 hn
      rw [r91_drop h0 (by omega), List.find?_cons]
      cases hf : f i with
      | true => exact hhit i ⟨h0, by omega⟩ hf
      | false => exact hno i ⟨h0, by omega⟩ hf _ (ih (i + 1) (by omega) (by omega) (by omega))
  exact key _ 0 (by omega) (by omega) rfl
theorem find91_any {f : Int → Bool} {d d' : Int} (h : ∃ p, Rg p ∧ f p = true) : find91 f d = find91 f d' := by
  obtain ⟨p, hp, hf⟩ := h
  unfold find91
  cases e : r91.find? f with
  | some x => rfl
  | none =>
    rw [List.find?_eq_none] at e
    exact absurd hf (e p (mem_r91.mpr hp))

end Go.Proofs.Ytiobhhcbdcbajaa.Pure

namespace Go.Proofs.Ytiobhhcbdcbajaa.Pure
open Go.RowKit Go.Proofs.Ytiobhhcbdcbajaa.P Go.Proofs.Ytiobhhcbdcbajaa.Nine Go.Proofs.YtiobhhcbdcbajaaW.PrintWords Go.Proofs.YtiobhhcbdcbajaaW.PrintLast

theorem sysI_n {l : List Int} (h : sysI l = true) : nines l 81 = true := (sys_iff.mp h).1
theorem sysI_s {l : List Int} (h : sysI l = true) : Nine.Sys (mOf l) := (sys_iff.mp h).2
theorem isSys_some (l : List Int) : impl_isSystem.f l = some (sysI l) := rfl
theorem point_some (p : Int) : impl_isPoint.f p = some (decide (Rg p)) := by
  unfold impl_isPoint.f
  by_cases h : p ≥ 0
  · rw [if_pos h]
    congr 1
    rw [Bool.eq_iff_iff, decide_eq_true_eq, decide_eq_true_eq]
    unfold Rg
    omega
  · rw [if_neg h, decide_eq_false (show ¬ Rg p by unfold Rg; omega)]
theorem l3In_some (p : Int) : spec_l3In.f p = some (decide (Rg p)) := by
  unfold spec_l3In.f spec_l6In.f
  by_cases h : 0 ≤ p
  · rw [if_pos h]
    simp only [Option.bind_some]
    congr 1
    rw [Bool.eq_iff_iff, decide_eq_true_eq, decide_eq_true_eq]
    unfold Rg
    omega
  · rw [if_neg h, decide_eq_false (show ¬ Rg p by unfold Rg; omega)]
    rfl

theorem f9_div {p : Int} (h0 : 0 ≤ p) (h1 : p < 81) : i9 (f9 (p.toNat / 9)) = p / 9 := by unfold i9 f9; simp only; omega
theorem f9_mod {p : Int} (h0 : 0 ≤ p) : i9 (f9 p.toNat) = p % 9 := by unfold i9 f9; simp only; omega
theorem pt_aff {p : Int} (h : p < 81) : pt p = .aff (f9 (p.toNat / 9)) (f9 p.toNat) := by unfold pt; rw [if_pos h]
theorem pt_inf {p : Int} (h : ¬ p < 81) (h' : p < 90) : pt p = .inf (f9 p.toNat) := by unfold pt; rw [if_neg h, if_pos h']
theorem pt_top {p : Int} (h : ¬ p < 90) : pt p = .top := by unfold pt; rw [if_neg (by omega), if_neg h]
theorem ln_aff {p : Int} (h : p < 81) : ln p = .aff (f9 (p.toNat / 9)) (f9 p.toNat) := by unfold ln; rw [if_pos h]
theorem ln_ver {p : Int} (h : ¬ p < 81) (h' : p < 90) : ln p = .ver (f9 p.toNat) := by unfold ln; rw [if_neg h, if_pos h']
theorem ln_far {p : Int} (h : ¬ p < 90) : ln p = .far := by unfold ln; rw [if_neg (by omega), if_neg h]
/-- The program's test and the table's. -/
theorem onB_onI {l : List Int} (hn : nines l 81 = true) {p q : Int} (hp : Rg p) (hq : Rg q) : onB l p q = onI (mOf l) p q := by
  obtain ⟨p0, p1⟩ := hp
  obtain ⟨q0, q1⟩ := hq
  rw [Bool.eq_iff_iff, onI_iff]
  unfold onB
  by_cases c1 : q = 90
  · rw [if_pos c1, ln_far (by omega), decide_eq_true_eq]
    by_cases d1 : p < 81
    · rw [pt_aff d1]
      exact ⟨fun h => absurd h (by omega), fun h => h.elim⟩
    · by_cases d2 : p < 90
      · rw [pt_inf d1 d2]
        exact ⟨fun _ => trivial, fun _ => by omega⟩
      · rw [pt_top d2]
        exact ⟨fun _ => trivial, fun _ => by omega⟩
  · rw [if_neg c1]
    by_cases c2 : q ≥ 81
    · rw [if_pos c2, ln_ver (by omega) (by omega), Bool.or_eq_true, Bool.and_eq_true, decide_eq_true_eq, decide_eq_true_eq, decide_eq_true_eq]
      by_cases d1 : p < 81
      · rw [pt_aff d1]
        show _ ↔ f9 (p.toNat / 9) = f9 q.toNat
        have e1 := f9_div p0 d1
        have e2 := f9_mod q0
        constructor
        · intro h
          apply i9_inj
          omega
        · intro h
          rw [h] at e1
          omega
      · by_cases d2 : p < 90
        · rw [pt_inf d1 d2]
          exact ⟨fun h => absurd h (by omega), fun h => h.elim⟩
        · rw [pt_top d2]
          exact ⟨fun _ => trivial, fun _ => by omega⟩
    · rw [if_neg c2, ln_aff (by omega)]
      by_cases d0 : p ≥ 81
      · rw [if_pos d0, decide_eq_true_eq]
        by_cases d2 : p < 90
        · rw [pt_inf (by omega) d2]
          show _ ↔ f9 p.toNat = f9 (q.toNat / 9)
          have e1 := f9_mod p0
          have e2 := f9_div q0 (by omega)
          constructor
          · intro h
            apply i9_inj
            omega
          · intro h
            rw [h] at e1
            omega
        · rw [pt_top d2]
          exact ⟨fun h => absurd h (by omega), fun h => h.elim⟩
      · rw [if_neg d0, pt_aff (by omega), decide_eq_true_eq]
        show _ ↔ f9 p.toNat = ad (mOf l (f9 (p.toNat / 9)) (f9 (q.toNat / 9))) (f9 q.toNat)
        rw [← f9_mod p0, ← f9_mod q0, ← f9_div p0 (by omega), ← f9_div q0 (by omega), rd_i9 hn, add_i9]
        exact ⟨fun h => i9_inj h, fun h => by rw [h]⟩
theorem on_impl {l : List Int} (hn : nines l 81 = true) {p q : Int} (hp : Rg p) (hq : Rg q) : impl_plane_on.f l p q = some (onI (mOf l) p q) := by
  have hl := len81 hn
  rw [← onB_onI hn hp hq]
  obtain ⟨p0, p1⟩ := hp
  obtain ⟨q0, q1⟩ := hq
  unfold impl_plane_on.f onB
  rw [tdiv9 p0, tdiv9 q0, tmod9 p0, tmod9 q0]
  by_cases c1 : q = 90
  · rw [if_pos c1, if_pos c1]
  · rw [if_neg c1, if_neg c1]
    by_cases c2 : q ≥ 81
    · rw [if_pos c2, if_pos c2]
      by_cases c3 : p = 90
      · rw [if_pos c3, decide_eq_true c3, Bool.true_or]
      · rw [if_neg c3, decide_eq_false c3, Bool.false_or]
        by_cases c4 : p < 81
        · rw [if_pos c4, decide_eq_true c4, Bool.true_and, w64 (n := p / 9) (by omega) (by omega), w64 (n := q - 81) (by omega) (by omega)]
          rfl
        · rw [if_neg c4, decide_eq_false c4, Bool.false_and]
    · rw [if_neg c2, if_neg c2]
      by_cases c3 : p ≥ 81
      · rw [if_pos c3, if_pos c3, w64 (n := q / 9) (by omega) (by omega), w64 (n := 81 + q / 9) (by omega) (by omega)]
        rfl
      · rw [if_neg c3, if_neg c3, w64 (n := p / 9) (by omega) (by omega), w64 (n := q / 9) (by omega) (by omega), w64 (n := 9 * (p / 9)) (by omega) (by omega), w64 (n := 9 * (p / 9) + q / 9) (by omega) (by omega)]
        rw [if_pos (by omega), if_pos (by omega), add_some]
        rfl
theorem on_spec {l : List Int} (hn : nines l 81 = true) {p q : Int} (hp : Rg p) (hq : Rg q) : spec_l3On.f l p q = some (onI (mOf l) p q) := by
  have hl := len81 hn
  rw [← onB_onI hn hp hq]
  obtain ⟨p0, p1⟩ := hp
  obtain ⟨q0, q1⟩ := hq
  unfold spec_l3On.f onB
  rw [tdiv9 p0, tdiv9 q0, tmod9 p0, tmod9 q0]
  by_cases c1 : q = 90
  · rw [if_pos c1, if_pos c1]
  · rw [if_neg c1, if_neg c1]
    by_cases c2 : q ≥ 81
    · rw [if_pos c2, if_pos c2]
      by_cases c3 : p = 90
      · rw [if_pos c3, decide_eq_true c3, Bool.true_or]
      · rw [if_neg c3, decide_eq_false c3, Bool.false_or]
        by_cases c4 : p < 81
        · rw [if_pos c4, decide_eq_true c4, Bool.true_and, w64 (n := p / 9) (by omega) (by omega), w64 (n := q - 81) (by omega) (by omega)]
          rfl
        · rw [if_neg c4, decide_eq_false c4, Bool.false_and]
    · rw [if_neg c2, if_neg c2]
      by_cases c3 : p ≥ 81
      · rw [if_pos c3, if_pos c3, w64 (n := q / 9) (by omega) (by omega), w64 (n := p - 81) (by omega) (by omega)]
        congr 1
        rw [Bool.eq_iff_iff, beq_iff_eq, decide_eq_true_eq]
        omega
      · have r := rd_mem hn (9 * (p / 9) + q / 9)
        rw [if_neg c3, if_neg c3, w64 (n := p / 9) (by omega) (by omega), w64 (n := q / 9) (by omega) (by omega), show p / 9 * 9 = 9 * (p / 9) by omega, w64 (n := 9 * (p / 9)) (by omega) (by omega), w64 (n := 9 * (p / 9) + q / 9) (by omega) (by omega)]
        rw [if_pos (by omega), if_pos (by omega), addS_some r.1 r.2 (by omega) (by omega)]
        rfl

/-! joins and meets -/
theorem join_impl {l : List Int} (hn : nines l 81 = true) {p q : Int} (hp : Rg p) (hq : Rg q) : Ev (fun k => impl_plane_join.f k l p q) (joinI (mOf l) p q) := by
  refine loop_find (g := fun k i => impl_plane_join.l0 k l p q i) (f := fun i => onI (mOf l) p i && onI (mOf l) q i) ?_ ?_ ?_
  · intro i hi hf s h
    refine Ev.step (fun k => impl_plane_join.l0.eq_2 ..) (Ev.pos (by have := hi.2; omega) ?_)
    rw [on_impl hn hp hi, on_impl hn hq hi, w1 hi.1 (by have := hi.2; omega)]
    cases a : onI (mOf l) p i with
    | false => exact Ev.some' (Ev.neg (by decide) h)
    | true =>
      cases b : onI (mOf l) q i with
      | false => exact Ev.some' (Ev.pos rfl (Ev.some' (Ev.neg (by decide) h)))
      | true => rw [a, b] at hf; cases hf
  · intro i hi hf
    have := Bool.and_eq_true_iff.mp hf
    refine Ev.step (fun k => impl_plane_join.l0.eq_2 ..) (Ev.pos (by have := hi.2; omega) ?_)
    rw [on_impl hn hp hi, on_impl hn hq hi, this.1, this.2]
    exact Ev.some' (Ev.pos rfl (Ev.some' (Ev.pos rfl (Ev.now _))))
  · exact Ev.step (fun k => impl_plane_join.l0.eq_2 ..) (Ev.neg (by omega) (Ev.now _))
theorem meet_impl {l : List Int} (hn : nines l 81 = true) {p q : Int} (hp : Rg p) (hq : Rg q) : Ev (fun k => impl_plane_meet.f k l p q) (meetI (mOf l) p q) := by
  refine loop_find (g := fun k i => impl_plane_meet.l0 k l p q i) (f := fun i => onI (mOf l) i p && onI (mOf l) i q) ?_ ?_ ?_
  · intro i hi hf s h
    refine Ev.step (fun k => impl_plane_meet.l0.eq_2 ..) (Ev.pos (by have := hi.2; omega) ?_)
    rw [on_impl hn hi hp, on_impl hn hi hq, w1 hi.1 (by have := hi.2; omega)]
    cases a : onI (mOf l) i p with
    | false => exact Ev.some' (Ev.neg (by decide) h)
    | true =>
      cases b : onI (mOf l) i q with
      | false => exact Ev.some' (Ev.pos rfl (Ev.some' (Ev.neg (by decide) h)))
      | true => rw [a, b] at hf; cases hf
  · intro i hi hf
    have := Bool.and_eq_true_iff.mp hf
    refine Ev.step (fun k => impl_plane_meet.l0.eq_2 ..) (Ev.pos (by have := hi.2; omega) ?_)
    rw [on_impl hn hi hp, on_impl hn hi hq, this.1, this.2]
    exact Ev.some' (Ev.pos rfl (Ev.some' (Ev.pos rfl (Ev.now _))))
  · exact Ev.step (fun k => impl_plane_meet.l0.eq_2 ..) (Ev.neg (by omega) (Ev.now _))
theorem join_spec_find {l : List Int} (hn : nines l 81 = true) {p q : Int} (hp : Rg p) (hq : Rg q) : Ev (fun k => spec_l3Join.f k l p q) (find91 (fun i => onI (mOf l) p i && onI (mOf l) q i) 0) := by
  refine loop_find (g := fun k i => spec_l3Join.l0 k l p q i) (f := fun i => onI (mOf l) p i && onI (mOf l) q i) ?_ ?_ ?_
  · intro i hi hf s h
    refine Ev.step (fun k => spec_l3Join.l0.eq_2 ..) (Ev.pos (by have := hi.2; omega) ?_)
    rw [on_spec hn hp hi, on_spec hn hq hi, w1 hi.1 (by have := hi.2; omega)]
    cases a : onI (mOf l) p i with
    | false => exact Ev.some' (Ev.neg (by decide) h)
    | true =>
      cases b : onI (mOf l) q i with
      | false => exact Ev.some' (Ev.pos rfl (Ev.some' (Ev.neg (by decide) h)))
      | true => rw [a, b] at hf; cases hf
  · intro i hi hf
    have := Bool.and_eq_true_iff.mp hf
    refine Ev.step (fun k => spec_l3Join.l0.eq_2 ..) (Ev.pos (by have := hi.2; omega) ?_)
    rw [on_spec hn hp hi, on_spec hn hq hi, this.1, this.2]
    exact Ev.some' (Ev.pos rfl (Ev.some' (Ev.pos rfl (Ev.now _))))
  · exact Ev.step (fun k => spec_l3Join.l0.eq_2 ..) (Ev.neg (by omega) (Ev.now _))
theorem meet_spec_find {l : List Int} (hn : nines l 81 = true) {p q : Int} (hp : Rg p) (hq : Rg q) : Ev (fun k => spec_l3Meet.f k l p q) (find91 (fun i => onI (mOf l) i p && onI (mOf l) i q) 0) := by
  refine loop_find (g := fun k i => spec_l3Meet.l0 k l p q i) (f := fun i => onI (mOf l) i p && onI (mOf l) i q) ?_ ?_ ?_
  · intro i hi hf s h
    refine Ev.step (fun k => spec_l3Meet.l0.eq_2 ..) (Ev.pos (by have := hi.2; omega) ?_)
    rw [on_spec hn hi hp, on_spec hn hi hq, w1 hi.1 (by have := hi.2; omega)]
    cases a : onI (mOf l) i p with
    | false => exact Ev.some' (Ev.neg (by decide) h)
    | true =>
      cases b : onI (mOf l) i q with
      | false => exact Ev.some' (Ev.pos rfl (Ev.some' (Ev.neg (by decide) h)))
      | true => rw [a, b] at hf; cases hf
  · intro i hi hf
    have := Bool.and_eq_true_iff.mp hf
    refine Ev.step (fun k => spec_l3Meet.l0.eq_2 ..) (Ev.pos (by have := hi.2; omega) ?_)
    rw [on_spec hn hi hp, on_spec hn hi hq, this.1, this.2]
    exact Ev.some' (Ev.pos rfl (Ev.some' (Ev.pos rfl (Ev.now _))))
  · exact Ev.step (fun k => spec_l3Meet.l0.eq_2 ..) (Ev.neg (by omega) (Ev.now _))
theorem join_ev {l : List Int} (h : sysI l = true) {p q : Int} (hp : Rg p) (hq : Rg q) (hne : p ≠ q) : Ev (fun k => spec_l3Join.f k l p q) (joinI (mOf l) p q) := by
  have j := (sysI_s h).join_spec hp hq hne
  rw [show joinI (mOf l) p q = find91 (fun i => onI (mOf l) p i && onI (mOf l) q i) 0 from find91_any ⟨_, j.1, by rw [j.2.1, j.2.2]; rfl⟩]
  exact join_spec_find (sysI_n h) hp hq
theorem meet_ev {l : List Int} (h : sysI l = true) {p q : Int} (hp : Rg p) (hq : Rg q) : Ev (fun k => spec_l3Meet.f k l p q) (meetI (mOf l) p q) := by
  have j := (sysI_s h).meet_spec hp hq
  rw [show meetI (mOf l) p q = find91 (fun i => onI (mOf l) i p && onI (mOf l) i q) 0 from find91_any ⟨_, j.1, by rw [j.2.1, j.2.2]; rfl⟩]
  exact meet_spec_find (sysI_n h) hp hq
theorem three_ev {l : List Int} (h : sysI l = true) {p q r : Int} (hp : Rg p) (hq : Rg q) (hr : Rg r) (hne : p ≠ q) : Ev (fun k => spec_l3Three.f k l p q r) (threeI (mOf l) p q r) := by
  have j := (sysI_s h).join_spec hp hq hne
  unfold spec_l3Three.f
  refine Ev.bind (join_ev h hp hq hne) ?_
  rw [on_spec (sysI_n h) hr j.1]
  exact Ev.now _
theorem three_impl {l : List Int} (h : sysI l = true) {p q r : Int} (hp : Rg p) (hq : Rg q) (hr : Rg r) (hne : p ≠ q) : Ev (fun k => impl_plane_three.f k l p q r) (threeI (mOf l) p q r) := by
  have j := (sysI_s h).join_spec hp hq hne
  unfold impl_plane_three.f
  refine Ev.bind (join_impl (sysI_n h) hp hq) ?_
  rw [on_impl (sysI_n h) hr j.1]
  exact Ev.now _

/-! different points -/
/-- All numbers are points, and different. -/
def Dif (xs : List Int) : Prop := ∀ i : Int, 0 ≤ i → i < xs.length → Rg (rd xs i) ∧ ∀ j : Int, 0 ≤ j → j < i → rd xs j ≠ rd xs i
theorem rd_take {xs : List Int} {n : Nat} {i : Int} (h0 : 0 ≤ i) (h1 : i < n) : rd (xs.take n) i = rd xs i := by
  unfold rd
  rw [List.getD_eq_getElem?_getD, List.getD_eq_getElem?_getD, List.getElem?_take, if_pos (by omega)]
theorem mem_take_rd {xs : List Int} {i : Int} (h0 : 0 ≤ i) (h1 : i ≤ xs.length) {a : Int} : a ∈ xs.take i.toNat ↔ ∃ j, 0 ≤ j ∧ j < i ∧ rd xs j = a := by
  constructor
  · intro h
    obtain ⟨j, j0, j1, e⟩ := mem_rd h
    rw [List.length_take] at j1
    rw [rd_take j0 (by omega)] at e
    exact ⟨j, j0, by omega, e⟩
  · rintro ⟨j, j0, j1, rfl⟩
    rw [← rd_take (n := i.toNat) j0 (by omega)]
    exact rd_of_lt j0 (by rw [List.length_take]; omega)
theorem index_ev {xs : List Int} (hl : (xs.length : Int) ≤ 9223372036854775806) (a : Int) : ∃ r, Ev (fun k => slices_Index_int_int.f k xs a) r ∧ (r ≥ 0 ↔ a ∈ xs) := by
  by_cases h : ∀ j, 0 ≤ j → j < (xs.length : Int) → rd xs j ≠ a
  · refine ⟨-1, loopP_all (g := fun k i => slices_Index_int_int.l0 k xs a xs.length i) (N := xs.length) (P := fun j => rd xs j ≠ a) (by omega) ?_ h ?_, ?_⟩
    · intro i i0 i1 _ hp hg
      refine Ev.step (fun k => slices_Index_int_int.l0.eq_2 ..) ?_
      rw [w1 i0 (by omega)]
      exact Ev.pos i1 (Ev.pos i0 (Ev.pos i1 (Ev.neg (fun e => hp e.symm) hg)))
    · exact Ev.step (fun k => slices_Index_int_int.l0.eq_2 ..) (Ev.neg (by omega) (Ev.now _))
    · constructor
      · intro h'; omega
      · intro h'
        obtain ⟨j, j0, j1, e⟩ := mem_rd h'
        exact absurd e (h j j0 j1)
  · obtain ⟨i, i0, i1, hi, hb⟩ := first_no h
    have hi : rd xs i = a := Classical.byContradiction hi
    refine ⟨i, loopP_all (g := fun k i => slices_Index_int_int.l0 k xs a xs.length i) (N := i) (P := fun j => rd xs j ≠ a) i0 ?_ hb ?_, ?_⟩
    · intro j j0 j1 _ hp hg
      refine Ev.step (fun k => slices_Index_int_int.l0.eq_2 ..) ?_
      rw [w1 j0 (by omega)]
      exact Ev.pos (by omega) (Ev.pos j0 (Ev.pos (by omega) (Ev.neg (fun e => hp e.symm) hg)))
    · exact Ev.step (fun k => slices_Index_int_int.l0.eq_2 ..) (Ev.pos i1 (Ev.pos i0 (Ev.pos i1 (Ev.pos hi.symm (Ev.now _)))))
    · exact ⟨fun _ => hi ▸ rd_of_lt i0 i1, fun _ => i0⟩
theorem contains_ev {xs : List Int} (hl : (xs.length : Int) ≤ 9223372036854775806) (a : Int) : Ev (fun k => slices_Contains_int_int.f k xs a) (decide (a ∈ xs)) := by
  obtain ⟨r, hr, h⟩ := index_ev hl a
  unfold slices_Contains_int_int.f
  refine Ev.bind hr ?_
  rw [show decide (r ≥ 0) = decide (a ∈ xs) by simp only [decide_eq_decide]; exact h]
  exact Ev.now _
theorem dif_impl {xs : List Int} (hl : (xs.length : Int) ≤ 9223372036854775806) : ∃ b : Bool, Ev (fun k => impl_areDifferent.f k xs) b ∧ (b = true ↔ Dif xs) := by
  unfold Dif impl_areDifferent.f
  refine loopP (g := fun k i => impl_areDifferent.l0 k xs xs xs.length i) (N := xs.length) (P := fun i => Rg (rd xs i) ∧ ∀ j, 0 ≤ j → j < i → rd xs j ≠ rd xs i) (by omega) ?_ ?_ ?_
  · intro s i i0 i1 _ hp hg
    refine Ev.step (fun k => impl_areDifferent.l0.eq_2 ..) (Ev.pos i1 (Ev.pos i0 (Ev.pos i1 ?_)))
    rw [point_some, decide_eq_true hp.1, w1 i0 (by omega)]
    refine Ev.some' (Ev.pos rfl (Ev.pos (by omega) (Ev.bind (contains_ev (by rw [List.length_take]; omega) _) (Ev.neg ?_ hg))))
    rw [decide_eq_true_eq, mem_take_rd i0 (by omega)]
    rintro ⟨j, j0, j1, e⟩
    exact hp.2 j j0 j1 e
  · intro i i0 i1 _ hp
    refine Ev.step (fun k => impl_areDifferent.l0.eq_2 ..) (Ev.pos i1 (Ev.pos i0 (Ev.pos i1 ?_)))
    rw [point_some]
    by_cases hr : Rg (rd xs i)
    · rw [decide_eq_true hr]
      refine Ev.some' (Ev.pos rfl (Ev.pos (by omega) (Ev.bind (contains_ev (by rw [List.length_take]; omega) _) (Ev.pos ?_ (Ev.now _)))))
      rw [decide_eq_true_eq, mem_take_rd i0 (by omega)]
      exact Classical.byContradiction fun hn => hp ⟨hr, fun j j0 j1 e => hn ⟨j, j0, j1, e⟩⟩
    · rw [decide_eq_false hr]
      exact Ev.some' (Ev.neg (by decide) (Ev.now _))
  · intro _
    exact Ev.step (fun k => impl_areDifferent.l0.eq_2 ..) (Ev.neg (by omega) (Ev.now _))

end Go.Proofs.Ytiobhhcbdcbajaa.Pure
