/- Loops, in plain Lean: what holds of every round until one ends it. No conditions beyond those of each lemma. -/
import Derived.Test.YtiobhhcbdcbajaaWWords
set_option linter.unusedVariables false
set_option linter.unusedSimpArgs false
namespace Go.Proofs.Ytiobhhcbdcbajaa.Pure
open Go.RowKit Go.Proofs.YtiobhhcbdcbajaaW.PrintWords

theorem Ev.pos {α : Type} {c : Prop} [Decidable c] {f g : Nat → Option α} {r : α} (hc : c) (h : Ev f r) : Ev (fun k => if c then f k else g k) r := Ev.congr (fun k => if_pos hc) h
theorem Ev.neg {α : Type} {c : Prop} [Decidable c] {f g : Nat → Option α} {r : α} (hc : ¬ c) (h : Ev g r) : Ev (fun k => if c then f k else g k) r := Ev.congr (fun k => if_neg hc) h
theorem Ev.some' {α β : Type} {a : α} {f : Nat → α → Option β} {r : β} (h : Ev (fun k => f k a) r) : Ev (fun k => (some a).bind (f k)) r := Ev.congr (fun _ => rfl) h
/-- If each round says yes, the loop comes to its end. -/
theorem loop_all {α : Type} {g : Nat → Int → Option α} {N : Int} {p : Int → Bool} {r : α} (hN : 0 ≤ N) (hyes : ∀ i, 0 ≤ i → i < N → p i = true → Ev (fun k => g k (i + 1)) r → Ev (fun k => g k i) r)
    (h : ∀ j, 0 ≤ j → j < N → p j = true) (hend : Ev (fun k => g k N) r) : Ev (fun k => g k 0) r := by
  have key : ∀ n : Nat, ∀ i : Int, 0 ≤ i → i ≤ N → (N - i).toNat = n → Ev (fun k => g k i) r := by
    intro n
    induction n with
    | zero =>
      intro i h0 h1 hn
      obtain rfl : i = N := by omega
      exact hend
    | succ n ih =>
      intro i h0 h1 hn
      exact hyes i h0 (by omega) (h i h0 (by omega)) (ih (i + 1) (by omega) (by omega) (by omega))
  exact key _ 0 (by omega) hN rfl
/-- If a round says no, the loop stops. -/
theorem loop_stop {α : Type} {g : Nat → Int → Option α} {N : Int} {p : Int → Bool} {stop : α} (hyes : ∀ i, 0 ≤ i → i < N → p i = true → Ev (fun k => g k (i + 1)) stop → Ev (fun k => g k i) stop)
    (hno : ∀ i, 0 ≤ i → i < N → p i = false → Ev (fun k => g k i) stop) {j : Int} (j0 : 0 ≤ j) (j1 : j < N) (h : p j = false) : Ev (fun k => g k 0) stop := by
  have key : ∀ n : Nat, ∀ i : Int, 0 ≤ i → i ≤ j → (j - i).toNat = n → Ev (fun k => g k i) stop := by
    intro n
    induction n with
    | zero =>
      intro i h0 h1 hn
      obtain rfl : i = j := by omega
      exact hno i h0 j1 h
    | succ n ih =>
      intro i h0 h1 hn
      cases hp : p i with
      | false => exact hno i h0 (by omega) hp
      | true => exact hyes i h0 (by omega) hp (ih (i + 1) (by omega) (by omega) (by omega))
  exact key _ 0 (by omega) j0 rfl
/-- Both in one: what the loop answers. -/
theorem loop_if {α : Type} {g : Nat → Int → Option α} {N : Int} {p : Int → Bool} {r stop res : α} (hN : 0 ≤ N) (hyes : ∀ s i, 0 ≤ i → i < N → p i = true → Ev (fun k => g k (i + 1)) s → Ev (fun k => g k i) s)
    (hno : ∀ i, 0 ≤ i → i < N → p i = false → Ev (fun k => g k i) stop) (hend : (∀ j, 0 ≤ j → j < N → p j = true) → Ev (fun k => g k N) r) {q : Bool} (hq : q = true ↔ ∀ j, 0 ≤ j → j < N → p j = true) (hres : res = if q = true then r else stop) : Ev (fun k => g k 0) res := by
  subst hres
  cases q with
  | true =>
    rw [if_pos rfl]
    have h := hq.mp rfl
    exact loop_all hN (fun i => hyes r i) h (hend h)
  | false =>
    rw [if_neg (by decide)]
    have : ¬ ∀ j, 0 ≤ j → j < N → p j = true := fun h => by have := hq.mpr h; cases this
    have : ∃ j, 0 ≤ j ∧ j < N ∧ p j = false := Classical.byContradiction fun hn => this fun j h0 h1 => by
      cases hp : p j with
      | true => rfl
      | false => exact absurd ⟨j, h0, h1, hp⟩ hn
    obtain ⟨j, j0, j1, hj⟩ := this
    exact loop_stop (fun i => hyes stop i) hno j0 j1 hj
/-- A loop that gathers: each round hands on what it has so far. -/
theorem loop_gather {α β : Type} {g : Nat → β → Int → Option α} {N : Int} {acc : Int → β} {r : α} (hN : 0 ≤ N) (hstep : ∀ i, 0 ≤ i → i < N → Ev (fun k => g k (acc (i + 1)) (i + 1)) r → Ev (fun k => g k (acc i) i) r)
    (hend : Ev (fun k => g k (acc N) N) r) : Ev (fun k => g k (acc 0) 0) r := by
  have key : ∀ n : Nat, ∀ i : Int, 0 ≤ i → i ≤ N → (N - i).toNat = n → Ev (fun k => g k (acc i) i) r := by
    intro n
    induction n with
    | zero =>
      intro i h0 h1 hn
      obtain rfl : i = N := by omega
      exact hend
    | succ n ih =>
      intro i h0 h1 hn
      exact hstep i h0 (by omega) (ih (i + 1) (by omega) (by omega) (by omega))
  exact key _ 0 (by omega) hN rfl
theorem g2 {α : Type} {i n : Int} {x : Option α} (h0 : 0 ≤ i) (h1 : i < n) : (if 0 ≤ i then (if i < n then x else none) else none) = x := by rw [if_pos h0, if_pos h1]
theorem w64 {n : Int} (h0 : -9223372036854775808 ≤ n) (h1 : n ≤ 9223372036854775807) : wrap64 n = n := by
  unfold wrap64
  omega
theorem w1 {i : Int} (h0 : 0 ≤ i) (h1 : i ≤ 9223372036854775806) : wrap64 (i + 1) = i + 1 := w64 (by omega) (by omega)
theorem w9 {x : Int} (h0 : 0 ≤ x) (h1 : x ≤ 8) : wrap64 (9 * x) = 9 * x := w64 (by omega) (by omega)
theorem w9c {x c : Int} (h0 : 0 ≤ x) (h1 : x ≤ 8) (h2 : 0 ≤ c) (h3 : c ≤ 8) : wrap64 (wrap64 (9 * x) + c) = 9 * x + c := by
  rw [w9 h0 h1]
  exact w64 (by omega) (by omega)
theorem w9a {c : Int} (h2 : 0 ≤ c) (h3 : c ≤ 8) : wrap64 (9 + c) = 9 + c := w64 (by omega) (by omega)

end Go.Proofs.Ytiobhhcbdcbajaa.Pure
