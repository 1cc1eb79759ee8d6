/- Loops told by what holds of every round, the earlier rounds known; a loop that seeks a number below 91. No conditions beyond those of each lemma. -/
import Derived.Test.YtiobhhcbdcbajaaEvLoop
import Derived.Test.YtiobhhcbdcbajaaAlg2
set_option linter.unusedVariables false
set_option linter.unusedSimpArgs false
namespace Go.Proofs.Ytiobhhcbdcbajaa.Pure
open Go.RowKit Go.Proofs.Ytiobhhcbdcbajaa.Nine Go.Proofs.YtiobhhcbdcbajaaW.PrintWords

theorem loopP_all {α : Type} {g : Nat → Int → Option α} {N : Int} {P : Int → Prop} {r : α} (hN : 0 ≤ N) (hyes : ∀ i, 0 ≤ i → i < N → (∀ j, 0 ≤ j → j < i → P j) → P i → Ev (fun k => g k (i + 1)) r → Ev (fun k => g k i) r)
    (h : ∀ j, 0 ≤ j → j < N → P j) (hend : Ev (fun k => g k N) r) : Ev (fun k => g k 0) r := by
  have key : ∀ n : Nat, ∀ i : Int, 0 ≤ i → i ≤ N → (N - i).toNat = n → Ev (fun k => g k i) r := by
    intro n
    induction n with
    | zero =>
      intro i h0 h1 hn
      obtain rfl : i = N := by omega
      exact hend
    | succ n ih =>
      intro i h0 h1 hn
      exact hyes i h0 (by omega) (fun j j0 j1 => h j j0 (by omega)) (h i h0 (by omega)) (ih (i + 1) (by omega) (by omega) (by omega))
  exact key _ 0 (by omega) hN rfl
theorem first_no {N : Int} {P : Int → Prop} (h : ¬ ∀ j, 0 ≤ j → j < N → P j) : ∃ i, 0 ≤ i ∧ i < N ∧ ¬ P i ∧ ∀ j, 0 ≤ j → j < i → P j := Classical.byContradiction fun hn => by
  have key : ∀ n : Nat, ∀ i : Int, 0 ≤ i → i < n → i < N → P i := by
    intro n
    induction n with
    | zero => intro i h0 h1; omega
    | succ n ih =>
      intro i h0 h1 h2
      by_cases hi : i < n
      · exact ih i h0 hi h2
      · exact Classical.byContradiction fun hp => hn ⟨i, h0, h2, hp, fun j j0 j1 => ih j j0 (by omega) (by omega)⟩
  exact h fun j j0 j1 => key (j + 1).toNat j j0 (by omega) j1
theorem loopP_stop {α : Type} {g : Nat → Int → Option α} {N : Int} {P : Int → Prop} {stop : α} (hyes : ∀ i, 0 ≤ i → i < N → (∀ j, 0 ≤ j → j < i → P j) → P i → Ev (fun k => g k (i + 1)) stop → Ev (fun k => g k i) stop)
    (hno : ∀ i, 0 ≤ i → i < N → (∀ j, 0 ≤ j → j < i → P j) → ¬ P i → Ev (fun k => g k i) stop) (h : ¬ ∀ j, 0 ≤ j → j < N → P j) : Ev (fun k => g k 0) stop := by
  obtain ⟨i, i0, i1, hi, hb⟩ := first_no h
  refine loopP_all (g := g) (N := i) (P := P) i0 (fun j j0 j1 => hyes j j0 (by omega)) hb (hno i i0 i1 hb hi)
/-- A loop that tells whether something holds of all. -/
theorem loopP {g : Nat → Int → Option Bool} {N : Int} {P : Int → Prop} (hN : 0 ≤ N) (hyes : ∀ s i, 0 ≤ i → i < N → (∀ j, 0 ≤ j → j < i → P j) → P i → Ev (fun k => g k (i + 1)) s → Ev (fun k => g k i) s)
    (hno : ∀ i, 0 ≤ i → i < N → (∀ j, 0 ≤ j → j < i → P j) → ¬ P i → Ev (fun k => g k i) false) (hend : (∀ j, 0 ≤ j → j < N → P j) → Ev (fun k => g k N) true) : ∃ b : Bool, Ev (fun k => g k 0) b ∧ (b = true ↔ ∀ j, 0 ≤ j → j < N → P j) := by
  by_cases h : ∀ j, 0 ≤ j → j < N → P j
  · exact ⟨true, loopP_all hN (hyes true) h (hend h), by simp only [true_iff]; exact h⟩
  · exact ⟨false, loopP_stop (hyes false) hno h, by simp only [Bool.false_eq_true, false_iff]; exact h⟩
theorem r91_drop {i : Int} (h0 : 0 ≤ i) (h1 : i ≤ 90) : r91.drop i.toNat = i :: r91.drop (i + 1).toNat := by
  obtain ⟨n, rfl⟩ := Int.eq_ofNat_of_zero_le h0
  have h := (by decide +kernel : ∀ n, n < 91 → r91.drop n = (n : Int) :: r91.drop (n + 1)) n (by omega)
  rw [show ((n : Int) + 1).toNat = n + 1 by omega, Int.toNat_natCast]
  exact h
/-- A loop that seeks the first number below 91 of which something holds. -/
theorem loop_find {g : Nat → Int → Option Int} {f : Int → Bool} {d : Int} (hno : ∀ i, Rg i → f i = false → ∀ s, Ev (fun k => g k (i + 1)) s → Ev (fun k => g k i) s) (hhit : ∀ i, Rg i → f i = true → Ev (fun k => g k i) i) (hend : Ev (fun k => g k 91) d) : Ev (fun k => g k 0) (find91 f d) := by
  have key : ∀ n : Nat, ∀ i : Int, 0 ≤ i → i ≤ 91 → (91 - i).toNat = n → Ev (fun k => g k i) (((r91.drop i.toNat).find? f).getD d) := by
    intro n
    induction n with
    | zero =>
      intro i h0 h1 hn
      obtain rfl : i = 91 := by omega
      exact hend
    | succ n ih =>
      intro i h0 h1 hn
      rw [r91_drop h0 (by omega), List.find?_cons]
      cases hf : f i with
      | true => exact hhit i ⟨h0, by omega⟩ hf
      | false => exact hno i ⟨h0, by omega⟩ hf _ (ih (i + 1) (by omega) (by omega) (by omega))
  exact key _ 0 (by omega) (by omega) rfl
theorem find91_any {f : Int → Bool} {d d' : Int} (h : ∃ p, Rg p ∧ f p = true) : find91 f d = find91 f d' := by
  obtain ⟨p, hp, hf⟩ := h
  unfold find91
  cases e : r91.find? f with
  | some x => rfl
  | none =>
    rw [List.find?_eq_none] at e
    exact absurd hf (e p (mem_r91.mpr hp))

end Go.Proofs.Ytiobhhcbdcbajaa.Pure
