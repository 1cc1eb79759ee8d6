/- Loops, in plain Lean: what holds of every round until one ends it. No conditions beyond those of each lemma. More loops, and sets of elements as rows of nine marks. No conditions beyond those of each lemma. -/
import Derived.Test.YtiobhhcbdcbajaaWWords
import Derived.Test.YtiobhhcbdcbajaaPx4
set_option linter.unusedVariables false
set_option linter.unusedSimpArgs false
set_option linter.unusedSectionVars false
namespace Go.Proofs.Ytiobhhcbdcbajaa.Pure
open Go.RowKit Go.Proofs.YtiobhhcbdcbajaaW.PrintWords

theorem Ev.pos {α : Type} {c : Prop} [Decidable c] {f g : Nat → Option α} {r : α} (hc : c) (h : Ev f r) : Ev (fun k => if c then f k else g k) r := Ev.congr (fun k => if_pos hc) h
theorem Ev.neg {α : Type} {c : Prop} [Decidable c] {f g : Nat → Option α} {r : α} (hc : ¬ c) (h : Ev g r) : Ev (fun k => if c then f k else g k) r := Ev.congr (fun k => if_neg hc) h
theorem Ev.some' {α β : Type} {a : α} {f : Nat → α → Option β} {r : β} (h : Ev (fun k => f k a) r) : Ev (fun k => (some a).bind (f k)) r := Ev.congr (fun _ => rfl) h
/-- If each round says yes, the loop comes to its end. -/
theorem loop_all {α : Type} {g : Nat → Int → Option α} {N : Int} {p : Int → Bool} {r : α} (hN : 0 ≤ N) (hyes : ∀ i, 0 ≤ i → i < N → p i = true → Ev (fun k => g k (i + 1)) r → Ev (fun k => g k i) r)
    (h : ∀ j, 0 ≤ j → j < N → p j = true) (hend : Ev (fun k => g k N) r) : Ev (fun k => g k 0) r := by
  have key : ∀ n : Nat, ∀ i : Int, 0 ≤ i → i ≤ N → (N - i).toNat = n → Ev (fun k => g k i) r := by
    intro n
    induction n with
    | zero =>
      intro i h0 h1 hn
      obtain rfl : i = N := by omega
      exact hend
    | succ n ih =>
      intro i h0 h1 hn
      exact hyes i h0 (by omega) (h i h0 (by omega)) (ih (i + 1) (by omega) (by omega) (by omega))
  exact key _ 0 (by omega) hN rfl
/-- If a round says no, the loop stops. -/
theorem loop_stop {α : Type} {g : Nat → Int → Option α} {N : Int} {p : Int → Bool} {stop : α} (hyes : ∀ i, 0 ≤ i → i < N → p i = true → Ev (fun k => g k (i + 1)) stop → Ev (fun k => g k i) stop)
    (hno : ∀ i, 0 ≤ i → i < N → p i = false → Ev (fun k => g k i) stop) {j : Int} (j0 : 0 ≤ j) (j1 : j < N) (h : p j = false) : Ev (fun k => g k 0) stop := by
  have key : ∀ n : Nat, ∀ i : Int, 0 ≤ i → i ≤ j → (j - i).toNat = n → Ev (fun k => g k i) stop := by
    intro n
    induction n with
    | zero =>
      intro i h0 h1 hn
      obtain rfl : i = j := by omega
      exact hno i h0 j1 h
    | succ n ih =>
      intro i h0 h1 hn
      cases hp : p i with
      | false => exact hno i h0 (by omega) hp
      | true => exact hyes i h0 (by omega) hp (ih (i + 1) (by omega) (by omega) (by omega))
  exact key _ 0 (by omega) j0 rfl
/-- Both in one: what the loop answers. -/
theorem loop_if {α : Type} {g : Nat → Int → Option α} {N : Int} {p : Int → Bool} {r stop res : α} (hN : 0 ≤ N) (hyes : ∀ s i, 0 ≤ i → i < N → p i = true → Ev (fun k => g k (i + 1)) s → Ev (fun k => g k i) s)
    (hno : ∀ i, 0 ≤ i → i < N → p i = false → Ev (fun k => g k i) stop) (hend : (∀ j, 0 ≤ j → j < N → p j = true) → Ev (fun k => g k N) r) {q : Bool} (hq : q = true ↔ ∀ j, 0 ≤ j → j < N → p j = true) (hres : res = if q = true then r else stop) : Ev (fun k => g k 0) res := by
  subst hres
  cases q with
  | true =>
    rw [if_pos rfl]
    have h := hq.mp rfl
    exact loop_all hN (fun i => hyes r i) h (hend h)
  | false =>
    rw [if_neg (by decide)]
    have : ¬ ∀ j, 0 ≤ j → j < N → p j = true := fun h => by have := hq.mpr h; cases this
    have : ∃ j, 0 ≤ j ∧ j < N ∧ p j = false := Classical.byContradiction fun hn => this fun j h0 h1 => by
      cases hp : p j with
      | true => rfl
      | false => exact absurd ⟨j, h0, h1, hp⟩ hn
    obtain ⟨j, j0, j1, hj⟩ := this
    exact loop_stop (fun i => hyes stop i) hno j0 j1 hj
/-- A loop that gathers: each round hands on what it has so far. -/
theorem loop_gather {α β : Type} {g : Nat → β → Int → Option α} {N : Int} {acc : Int → β} {r : α} (hN : 0 ≤ N) (hstep : ∀ i, 0 ≤ i → i < N → Ev (fun k => g k (acc (i + 1)) (i + 1)) r → Ev (fun k => g k (acc i) i) r)
    (hend : Ev (fun k => g k (acc N) N) r) : Ev (fun k => g k (acc 0) 0) r := by
  have key : ∀ n : Nat, ∀ i : Int, 0 ≤ i → i ≤ N → (N - i).toNat = n → Ev (fun k => g k (acc i) i) r := by
    intro n
    induction n with
    | zero =>
      intro i h0 h1 hn
      obtain rfl : i = N := by omega
      exact hend
    | succ n ih =>
      intro i h0 h1 hn
      exact hstep i h0 (by omega) (ih (i + 1) (by omega) (by omega) (by omega))
  exact key _ 0 (by omega) hN rfl
theorem g2 {α : Type} {i n : Int} {x : Option α} (h0 : 0 ≤ i) (h1 : i < n) : (if 0 ≤ i then (if i < n then x else none) else none) = x := by rw [if_pos h0, if_pos h1]
theorem w64 {n : Int} (h0 : -9223372036854775808 ≤ n) (h1 : n ≤ 9223372036854775807) : wrap64 n = n := by
  unfold wrap64
  omega
theorem w1 {i : Int} (h0 : 0 ≤ i) (h1 : i ≤ 9223372036854775806) : wrap64 (i + 1) = i + 1 := w64 (by omega) (by omega)
theorem w9 {x : Int} (h0 : 0 ≤ x) (h1 : x ≤ 8) : wrap64 (9 * x) = 9 * x := w64 (by omega) (by omega)
theorem w9c {x c : Int} (h0 : 0 ≤ x) (h1 : x ≤ 8) (h2 : 0 ≤ c) (h3 : c ≤ 8) : wrap64 (wrap64 (9 * x) + c) = 9 * x + c := by
  rw [w9 h0 h1]
  exact w64 (by omega) (by omega)
theorem w9a {c : Int} (h2 : 0 ≤ c) (h3 : c ≤ 8) : wrap64 (9 + c) = 9 + c := w64 (by omega) (by omega)

end Go.Proofs.Ytiobhhcbdcbajaa.Pure

namespace Go.Proofs.Ytiobhhcbdcbajaa.Pure
open Go.RowKit Go.Proofs.Ytiobhhcbdcbajaa.P Go.Proofs.YtiobhhcbdcbajaaW.PrintWords

/-- A loop that gathers, begun at s. -/
theorem loop_from {α β : Type} {g : Nat → β → Int → Option α} {s N : Int} {acc : Int → β} {r : α} (hs : s ≤ N) (hstep : ∀ i, s ≤ i → i < N → Ev (fun k => g k (acc (i + 1)) (i + 1)) r → Ev (fun k => g k (acc i) i) r)
    (hend : Ev (fun k => g k (acc N) N) r) : Ev (fun k => g k (acc s) s) r := by
  have key : ∀ n : Nat, ∀ i : Int, s ≤ i → i ≤ N → (N - i).toNat = n → Ev (fun k => g k (acc i) i) r := by
    intro n
    induction n with
    | zero =>
      intro i h0 h1 hn
      obtain rfl : i = N := by omega
      exact hend
    | succ n ih =>
      intro i h0 h1 hn
      exact hstep i h0 (by omega) (ih (i + 1) (by omega) (by omega) (by omega))
  exact key _ s (by omega) hs rfl
/-- A loop that goes round and carries nothing, begun at s. -/
theorem loop_go {α : Type} {g : Nat → Int → Option α} {s N : Int} {r : α} (hs : s ≤ N) (hstep : ∀ i, s ≤ i → i < N → Ev (fun k => g k (i + 1)) r → Ev (fun k => g k i) r)
    (hend : Ev (fun k => g k N) r) : Ev (fun k => g k s) r := loop_from (g := fun k (_ : Unit) i => g k i) (acc := fun _ => ()) hs hstep hend
theorem Ev.bool {α : Type} {b : Bool} {f g : Nat → Option α} {r : α} (ht : b = true → Ev f r) (hf : b = false → Ev g r) : Ev (fun k => if b = true then f k else g k) r := by
  cases b with
  | true => exact Ev.pos rfl (ht rfl)
  | false => exact Ev.neg (by decide) (hf rfl)
theorem take_rd (xs : List Int) {i : Int} (h0 : 0 ≤ i) (h1 : i < xs.length) : xs.take (i + 1).toNat = xs.take i.toNat ++ [rd xs i] := by
  obtain ⟨n, rfl⟩ := Int.eq_ofNat_of_zero_le h0
  have h : n < xs.length := by omega
  rw [show ((n : Int) + 1).toNat = n + 1 by omega, Int.toNat_natCast, List.take_succ_eq_append_getElem h]
  congr 2
  unfold rd
  rw [Int.toNat_natCast, List.getD_eq_getElem?_getD, List.getElem?_eq_getElem h]
  rfl
theorem mem_of_rd {xs : List Int} {i : Int} (h0 : 0 ≤ i) (h1 : i < xs.length) : rd xs i ∈ xs := by
  unfold rd
  rw [List.getD_eq_getElem?_getD, List.getElem?_eq_getElem (show i.toNat < xs.length by omega)]
  exact List.getElem_mem _

/-- Marks of a list of elements. -/
def mk (xs : List Int) : List Bool := e9.map fun v => decide (v ∈ xs)
theorem mk_len (xs : List Int) : ((mk xs).length : Int) = 9 := rfl
theorem mk_nil : List.replicate 9 false = mk [] := by decide
theorem e9_get {n : Nat} (h : n < 9) : e9[n]? = some (n : Int) := (by decide : ∀ n : Nat, n < 9 → e9[n]? = some (n : Int)) n h
theorem mk_rd (xs : List Int) {a : Int} (h0 : 0 ≤ a) (h1 : a ≤ 8) : rdOf false (mk xs) a = decide (a ∈ xs) := by
  obtain ⟨n, rfl⟩ := Int.eq_ofNat_of_zero_le h0
  unfold rdOf mk
  rw [List.getD_eq_getElem?_getD, List.getElem?_map, Int.toNat_natCast, e9_get (by omega)]
  rfl
theorem mk_set (xs : List Int) {a : Int} (h0 : 0 ≤ a) (h1 : a ≤ 8) : (mk xs).set a.toNat true = mk (xs ++ [a]) := by
  obtain ⟨n, rfl⟩ := Int.eq_ofNat_of_zero_le h0
  have hn : n < 9 := by omega
  apply List.ext_getElem?
  intro i
  unfold mk
  rw [Int.toNat_natCast, List.getElem?_set, List.getElem?_map, List.getElem?_map, List.length_map]
  by_cases hi : i < 9
  · rw [e9_get hi]
    simp only [Option.map_some, List.mem_append, List.mem_singleton]
    by_cases e : n = i
    · subst e
      rw [if_pos rfl, if_pos (show n < e9.length from hn)]
      simp
    · rw [if_neg e]
      have : ¬ (i : Int) = (n : Int) := by omega
      simp [this]
  · have : e9[i]? = none := List.getElem?_eq_none (show e9.length ≤ i by show 9 ≤ i; omega)
    rw [this, if_neg (by omega)]
    rfl

end Go.Proofs.Ytiobhhcbdcbajaa.Pure
