/- More loops, and sets of elements as rows of nine marks. No conditions beyond those of each lemma. -/
import Derived.Test.YtiobhhcbdcbajaaEvLoop
import Derived.Test.YtiobhhcbdcbajaaPx4
set_option linter.unusedVariables false
set_option linter.unusedSimpArgs false
namespace Go.Proofs.Ytiobhhcbdcbajaa.Pure
open Go.RowKit Go.Proofs.Ytiobhhcbdcbajaa.P Go.Proofs.YtiobhhcbdcbajaaW.PrintWords

/-- A loop that gathers, begun at s. -/
theorem loop_from {α β : Type} {g : Nat → β → Int → Option α} {s N : Int} {acc : Int → β} {r : α} (hs : s ≤ N) (hstep : ∀ i, s ≤ i → i < N → Ev (fun k => g k (acc (i + 1)) (i + 1)) r → Ev (fun k => g k (acc i) i) r)
    (hend : Ev (fun k => g k (acc N) N) r) : Ev (fun k => g k (acc s) s) r := by
  have key : ∀ n : Nat, ∀ i : Int, s ≤ i → i ≤ N → (N - i).toNat = n → Ev (fun k => g k (acc i) i) r := by
    intro n
    induction n with
    | zero =>
      intro i h0 h1 hn
      obtain rfl : i = N := by omega
      exact hend
    | succ n ih =>
      intro i h0 h1 hn
      exact hstep i h0 (by omega) (ih (i + 1) (by omega) (by omega) (by omega))
  exact key _ s (by omega) hs rfl
/-- A loop that goes round and carries nothing, begun at s. -/
theorem loop_go {α : Type} {g : Nat → Int → Option α} {s N : Int} {r : α} (hs : s ≤ N) (hstep : ∀ i, s ≤ i → i < N → Ev (fun k => g k (i + 1)) r → Ev (fun k => g k i) r)
    (hend : Ev (fun k => g k N) r) : Ev (fun k => g k s) r := loop_from (g := fun k (_ : Unit) i => g k i) (acc := fun _ => ()) hs hstep hend
theorem Ev.bool {α : Type} {b : Bool} {f g : Nat → Option α} {r : α} (ht : b = true → Ev f r) (hf : b = false → Ev g r) : Ev (fun k => if b = true then f k else g k) r := by
  cases b with
  | true => exact Ev.pos rfl (ht rfl)
  | false => exact Ev.neg (by decide) (hf rfl)
theorem take_rd (xs : List Int) {i : Int} (h0 : 0 ≤ i) (h1 : i < xs.length) : xs.take (i + 1).toNat = xs.take i.toNat ++ [rd xs i] := by
  obtain ⟨n, rfl⟩ := Int.eq_ofNat_of_zero_le h0
  have h : n < xs.length := by omega
  rw [show ((n : Int) + 1).toNat = n + 1 by omega, Int.toNat_natCast, List.take_succ_eq_append_getElem h]
  congr 2
  unfold rd
  rw [Int.toNat_natCast, List.getD_eq_getElem?_getD, List.getElem?_eq_getElem h]
  rfl
theorem mem_of_rd {xs : List Int} {i : Int} (h0 : 0 ≤ i) (h1 : i < xs.length) : rd xs i ∈ xs := by
  unfold rd
  rw [List.getD_eq_getElem?_getD, List.getElem?_eq_getElem (show i.toNat < xs.length by omega)]
  exact List.getElem_mem _

/-- Marks of a list of elements. -/
def mk (xs : List Int) : List Bool := e9.map fun v => decide (v ∈ xs)
theorem mk_len (xs : List Int) : ((mk xs).length : Int) = 9 := rfl
theorem mk_nil : List.replicate 9 false = mk [] := by decide
theorem e9_get {n : Nat} (h : n < 9) : e9[n]? = some (n : Int) := (by decide : ∀ n : Nat, n < 9 → e9[n]? = some (n : Int)) n h
theorem mk_rd (xs : List Int) {a : Int} (h0 : 0 ≤ a) (h1 : a ≤ 8) : rdOf false (mk xs) a = decide (a ∈ xs) := by
  obtain ⟨n, rfl⟩ := Int.eq_ofNat_of_zero_le h0
  unfold rdOf mk
  rw [List.getD_eq_getElem?_getD, List.getElem?_map, Int.toNat_natCast, e9_get (by omega)]
  rfl
theorem mk_set (xs : List Int) {a : Int} (h0 : 0 ≤ a) (h1 : a ≤ 8) : (mk xs).set a.toNat true = mk (xs ++ [a]) := by
  obtain ⟨n, rfl⟩ := Int.eq_ofNat_of_zero_le h0
  have hn : n < 9 := by omega
  apply List.ext_getElem?
  intro i
  unfold mk
  rw [Int.toNat_natCast, List.getElem?_set, List.getElem?_map, List.getElem?_map, List.length_map]
  by_cases hi : i < 9
  · rw [e9_get hi]
    simp only [Option.map_some, List.mem_append, List.mem_singleton]
    by_cases e : n = i
    · subst e
      rw [if_pos rfl, if_pos (show n < e9.length from hn)]
      simp
    · rw [if_neg e]
      have : ¬ (i : Int) = (n : Int) := by omega
      simp [this]
  · have : e9[i]? = none := List.getElem?_eq_none (show e9.length ≤ i by show 9 ≤ i; omega)
    rw [this, if_neg (by omega)]
    rfl

end Go.Proofs.Ytiobhhcbdcbajaa.Pure
