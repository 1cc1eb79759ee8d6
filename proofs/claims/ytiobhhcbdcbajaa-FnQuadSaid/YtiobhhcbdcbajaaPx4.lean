/- Contracts of Go functions of the given program: each says, under its own hypotheses, what a call returns and leaves. Written by this claim's own program over the kit's print. -/
import Derived.Test.YtiobhhcbdcbajaaPx0
import Derived.Test.YtiobhhcbdcbajaaPx1
namespace Go.Proofs.Ytiobhhcbdcbajaa.P
open Go.RowKit Go.Proofs.YtiobhhcbdcbajaaW.PrintWords Go.Proofs.YtiobhhcbdcbajaaW.PrintLast Go.Proofs.YtiobhhcbdcbajaaW.PrintMore
attribute [local go_sem] max2_int min2_int max_two min_two max_three min_three max_four min_four   -- for this text's walks alone
set_option linter.unusedVariables false
set_option linter.unusedSimpArgs false

/-! ### impl_forAll: function 67 -/
def e9 : List Int := [0, 1, 2, 3, 4, 5, 6, 7, 8]
theorem mem_e9 {a : Int} : a ∈ e9 ↔ 0 ≤ a ∧ a ≤ 8 := by
  simp only [e9, List.mem_cons, List.not_mem_nil, or_false]
  exact ⟨fun h => by omega, fun h => by omega⟩
theorem all9_iff {p : Int → Bool} : e9.all p = true ↔ ∀ a, 0 ≤ a → a ≤ 8 → p a = true := by
  rw [List.all_eq_true]
  exact ⟨fun h a h0 h1 => h a (mem_e9.mpr ⟨h0, h1⟩), fun h a ha => h a (mem_e9.mp ha).1 (mem_e9.mp ha).2⟩
def all3 (p : Int → Int → Int → Bool) : Bool := e9.all fun a => e9.all fun b => e9.all fun c => p a b c
theorem all3_iff {p : Int → Int → Int → Bool} : all3 p = true ↔ ∀ a b c, 0 ≤ a → a ≤ 8 → 0 ≤ b → b ≤ 8 → 0 ≤ c → c ≤ 8 → p a b c = true := by
  unfold all3
  simp only [all9_iff]
  exact ⟨fun h a b c h0 h1 h2 h3 h4 h5 => h a h0 h1 b h2 h3 c h4 h5, fun h a h0 h1 b h2 h3 c h4 h5 => h a b c h0 h1 h2 h3 h4 h5⟩
theorem all3_not {p : Int → Int → Int → Bool} {a b c : Int} (h0 : 0 ≤ a) (h1 : a ≤ 8) (h2 : 0 ≤ b) (h3 : b ≤ 8) (h4 : 0 ≤ c) (h5 : c ≤ 8) (h : p a b c = false) : all3 p = false := by
  refine Bool.eq_false_iff.mpr fun ht => ?_
  rw [all3_iff.mp ht a b c h0 h1 h2 h3 h4 h5] at h
  cases h
/-- What is asked of a function value of three elements: it answers p, and what lay lies. -/
def Gives3 (g : Nat) (lb : Array Value) (p : Int → Int → Int → Bool) (w : World) : Prop :=
  ∀ (W : World) (a b c : Int), Below w.heap.size w W → 0 ≤ a → a ≤ 8 → 0 ≤ b → b ≤ 8 → 0 ≤ c → c ≤ 8 →
    Calls Try.prog g (#[.int .i64 a, .int .i64 b, .int .i64 c] ++ lb) W fun e w' => e = .returned (.bool (p a b c)) ∧ Below W.heap.size W w'
theorem below_on {w w1 w2 : World} (h : Below w.heap.size w w1) (k : Below w1.heap.size w1 w2) : Below w.heap.size w w2 := below_then h h.size k
set_option maxHeartbeats 4000000 in
set_option maxRecDepth 100000 in
theorem impl_forAll.calls (g : Nat) (lb : Array Value) (p : Int → Int → Int → Bool) (r : Bool) (w : World) (eg : ∀ args w, (callFunc g args).run Try.prog w = .ok (.enter g args) w) (hp : Gives3 g lb p w) (h : all3 p = r) :
    Calls Try.prog 67 #[.func (.func g) #[] lb] w fun e w' => e = .returned (.bool r) ∧ Below w.heap.size w w' := by
  have HP := Aside0.mk hp
  have HR := Aside0.mk h
  clear hp h
  go_enter Try.func67, Try.ntmps67
  go_wp2
  go_loopg [6] 9 (fun kq v6 w1 => ∃ i : Int, v6 = .int .i64 i ∧ Aside0 (0 ≤ i ∧ i ≤ 9 ∧ (9 - i).toNat ≤ kq) ∧ Aside0 (∀ a b c, 0 ≤ a → a < i → 0 ≤ b → b ≤ 8 → 0 ≤ c → c ≤ 8 → p a b c = true) ∧ Aside0 (Below w.heap.size w w1))
  case atStart => exact ⟨0, rfl, ⟨by omega, by omega, by decide⟩, ⟨fun a b c h0 h1 => absurd h1 (by omega)⟩, ⟨Below.refl _ _⟩⟩
  case round =>
    obtain ⟨i, rfl, B1, A1, HB1⟩ := hrel
    have i0 := B1.out.1
    have i1 := B1.out.2.1
    by_cases hi : i < 9
    · have hib : decide (i < 9) = true := decide_eq_true hi
      go_wp2
      go_loopg [9] 9 (fun kq v9 w2 => ∃ j : Int, v9 = .int .i64 j ∧ Aside0 (0 ≤ j ∧ j ≤ 9 ∧ (9 - j).toNat ≤ kq) ∧ Aside0 (∀ b c, 0 ≤ b → b < j → 0 ≤ c → c ≤ 8 → p i b c = true) ∧ Aside0 (Below w.heap.size w w2))
      case atStart => exact ⟨0, rfl, ⟨by omega, by omega, by decide⟩, ⟨fun b c h0 h1 => absurd h1 (by omega)⟩, HB1⟩
      case round =>
        obtain ⟨j, rfl, B2, A2, HB2⟩ := hrel
        have j0 := B2.out.1
        have j1 := B2.out.2.1
        by_cases hj : j < 9
        · have hjb : decide (j < 9) = true := decide_eq_true hj
          go_wp2
          go_loopg [12] 9 (fun kq v12 w3 => ∃ l : Int, v12 = .int .i64 l ∧ Aside0 (0 ≤ l ∧ l ≤ 9 ∧ (9 - l).toNat ≤ kq) ∧ Aside0 (∀ c, 0 ≤ c → c < l → p i j c = true) ∧ Aside0 (Below w.heap.size w w3))
          case atStart => exact ⟨0, rfl, ⟨by omega, by omega, by decide⟩, ⟨fun c h0 h1 => absurd h1 (by omega)⟩, HB2⟩
          case round =>
            obtain ⟨l, rfl, B3, A3, HB3⟩ := hrel
            have l0 := B3.out.1
            have l1 := B3.out.2.1
            by_cases hl : l < 9
            · have hlb : decide (l < 9) = true := decide_eq_true hl
              cases hq : p i j l with
              | true =>
                have HC0 : ∀ W, Below w.heap.size w W → Calls Try.prog g (#[.int .i64 i, .int .i64 j, .int .i64 l] ++ lb) W fun e w' => e = .returned (.bool true) ∧ Below W.heap.size W w' := fun W hb => by
                  have := HP.out W i j l hb i0 (by omega) j0 (by omega) l0 (by omega)
                  rw [hq] at this
                  exact this
                have HC := Aside0.mk HC0
                clear HC0
                have HQ := Aside0.mk hq
                clear hq
                go_wp2_with (fail)
                refine (HC.out _ HB3.out).mono ?_
                rintro e w' ⟨rfl, hbw⟩
                have HBW := Aside0.mk (below_on HB3.out hbw)
                clear hbw
                go_wp2
                go_roundg (8 - l).toNat
                case measure => have := B3.out.2.2; omega
                case rel => exact ⟨l + 1, by go_num, ⟨by omega, by omega, by omega⟩, ⟨fun c h0 h1 => by
                    by_cases e : c = l
                    · rw [e]; exact HQ.out
                    · exact A3.out c h0 (by omega)⟩, HBW⟩
              | false =>
                have HC0 : ∀ W, Below w.heap.size w W → Calls Try.prog g (#[.int .i64 i, .int .i64 j, .int .i64 l] ++ lb) W fun e w' => e = .returned (.bool false) ∧ Below W.heap.size W w' := fun W hb => by
                  have := HP.out W i j l hb i0 (by omega) j0 (by omega) l0 (by omega)
                  rw [hq] at this
                  exact this
                have HC := Aside0.mk HC0
                clear HC0
                have HQ := Aside0.mk hq
                clear hq
                go_wp2_with (fail)
                refine (HC.out _ HB3.out).mono ?_
                rintro e w' ⟨rfl, hbw⟩
                have HBW := Aside0.mk (below_on HB3.out hbw)
                clear hbw
                go_wp2
                go_ret
                exact ⟨by rw [← HR.out, all3_not i0 (by omega) j0 (by omega) l0 (by omega) HQ.out]; rfl, HBW.out⟩
            · have hlb : decide (l < 9) = false := decide_eq_false hl
              go_wp2
              go_roundg (8 - j).toNat
              case measure => have := B2.out.2.2; omega
              case rel => exact ⟨j + 1, by go_num, ⟨by omega, by omega, by omega⟩, ⟨fun b c h0 h1 h2 h3 => by
                  by_cases e : b = j
                  · rw [e]; exact A3.out c h2 (by omega)
                  · exact A2.out b c h0 (by omega) h2 h3⟩, HB3⟩
        · have hjb : decide (j < 9) = false := decide_eq_false hj
          go_wp2
          go_roundg (8 - i).toNat
          case measure => have := B1.out.2.2; omega
          case rel => exact ⟨i + 1, by go_num, ⟨by omega, by omega, by omega⟩, ⟨fun a b c h0 h1 h2 h3 h4 h5 => by
              by_cases e : a = i
              · rw [e]; exact A2.out b c h2 (by omega) h4 h5
              · exact A1.out a b c h0 (by omega) h2 h3 h4 h5⟩, HB2⟩
    · have hib : decide (i < 9) = false := decide_eq_false hi
      go_wp2
      go_ret
      refine ⟨?_, HB1.out⟩
      rw [← HR.out, all3_iff.mpr fun a b c h0 h1 h2 h3 h4 h5 => A1.out a b c h0 (by omega) h2 h3 h4 h5]
      rfl
def addP (a b : Int) : Int := (impl_add.f a b).getD 0
def minusP (a : Int) : Int := (impl_minus.f a).getD 0
theorem add_some (a b : Int) : impl_add.f a b = some (addP a b) := rfl
theorem minus_some (a : Int) : impl_minus.f a = some (minusP a) := rfl
theorem addP_mem {a b : Int} (h0 : 0 ≤ a) (h1 : a ≤ 8) (h2 : 0 ≤ b) (h3 : b ≤ 8) : 0 ≤ addP a b ∧ addP a b ≤ 8 :=
  (by decide +kernel : ∀ a ∈ e9, ∀ b ∈ e9, 0 ≤ addP a b ∧ addP a b ≤ 8) a (mem_e9.mpr ⟨h0, h1⟩) b (mem_e9.mpr ⟨h2, h3⟩)
theorem minusP_mem {a : Int} (h0 : 0 ≤ a) (h1 : a ≤ 8) : 0 ≤ minusP a ∧ minusP a ≤ 8 :=
  (by decide +kernel : ∀ a ∈ e9, 0 ≤ minusP a ∧ minusP a ≤ 8) a (mem_e9.mpr ⟨h0, h1⟩)
/-- A table in a variable that a function value has: the variable is block B, the 81 numbers lie behind ad. -/
structure Tab (W : World) (B : Nat) (ad : Addr) (l : List Int) (cap : Nat) : Prop where
  var : W.cell? ⟨B, 0, none⟩ = some (.slice (some ad) 81 cap)
  at_ : ∀ i : Int, 0 ≤ i → i < 81 → W.cell? (ad.add i.toNat) = some (.int .i64 (rd l i))
theorem Tab.below {W W1 : World} {B cap : Nat} {ad : Addr} {l : List Int} (h : Tab W B ad l cap) (hb : Below W.heap.size W W1) : Tab W1 B ad l cap :=
  ⟨pw_cell_below hb h.var, fun i h0 h1 => pw_cell_below hb (h.at_ i h0 h1)⟩
theorem Tab.alloc {W : World} {B cap : Nat} {ad : Addr} {l : List Int} (h : Tab W B ad l cap) (o : Obj) : Tab (W.alloc o) B ad l cap := h.below (below_alloc (Below.refl _ _) o)
theorem Tab.mk' {W : World} {A : Option Addr} {l : List Int} {cap t : Nat} (hl : l.length = 81) (hr : Kd.C (Kd.int .i64) W A l.length l) : ∃ ad, A = some ad ∧ Tab (W.alloc (.cells #[.slice (some ad) 81 cap] t)) W.heap.size ad l cap := by
  obtain ⟨ad, e, _⟩ := Kd.at_int hr 0 (by omega) (by omega)
  refine ⟨ad, e, ⟨by simp, fun i h0 h1 => ?_⟩⟩
  obtain ⟨ad', e', h⟩ := Kd.at_int hr i h0 (by omega)
  obtain rfl : ad = ad' := by rw [e] at e'; injection e'
  exact pw_cell_below (below_alloc (Below.refl _ _) _) h
theorem w_in {n : Int} (h0 : -9223372036854775808 ≤ n) (h1 : n ≤ 9223372036854775807) : IntKind.i64.wrap n = n := by
  rw [IntKind.wrap_i64]
  omega
def nines (l : List Int) (n : Int) : Bool := decide ((l.length : Int) = n) && l.all fun a => decide (0 ≤ a) && decide (a < 9)
theorem nines_iff {l : List Int} {n : Int} : nines l n = true ↔ (l.length : Int) = n ∧ ∀ a ∈ l, 0 ≤ a ∧ a ≤ 8 := by
  simp only [nines, Bool.and_eq_true, decide_eq_true_eq, List.all_eq_true]
  exact ⟨fun h => ⟨h.1, fun a ha => ⟨(h.2 a ha).1, by have := (h.2 a ha).2; omega⟩⟩, fun h => ⟨h.1, fun a ha => ⟨(h.2 a ha).1, by have := (h.2 a ha).2; omega⟩⟩⟩
theorem rd_mem {l : List Int} {n : Int} (h : nines l n = true) (i : Int) : 0 ≤ rd l i ∧ rd l i ≤ 8 := by
  unfold rd
  rw [List.getD_eq_getElem?_getD]
  by_cases hi : i.toNat < l.length
  · rw [List.getElem?_eq_getElem hi]
    exact (nines_iff.mp h).2 _ (List.getElem_mem hi)
  · rw [List.getElem?_eq_none (by omega)]
    exact ⟨Int.le_refl _, by decide⟩
def once (f : Int → Int) : Bool := e9.all fun x => e9.all fun y => decide (x = y) || decide (f x ≠ f y)
def unitI (l : List Int) (a : Int) : Bool := decide (rd l a = 0) && decide (rd l (9 * a) = 0) && decide (rd l (9 + a) = a) && decide (rd l (9 * a + 1) = a)
def shareI (l : List Int) (a b c : Int) : Bool := decide (rd l (9 * addP a b + c) = addP (rd l (9 * a + c)) (rd l (9 * b + c)))
def lessI (l : List Int) (c d x : Int) : Int := addP (rd l (9 * x + c)) (minusP (rd l (9 * x + d)))
def solveI (l : List Int) : Bool := e9.all fun c => e9.all fun d => !(decide (d < c)) || once (lessI l c d)
def sysI (l : List Int) : Bool := nines l 81 && (e9.all (unitI l) && (all3 (shareI l) && solveI l))
def bothI (l : List Int) (a b c : Int) : Bool := decide (rd l (9 * a + addP b c) = addP (rd l (9 * a + b)) (rd l (9 * a + c)))
def brkI (l : List Int) (a b c : Int) : Bool := decide (rd l (9 * rd l (9 * a + b) + c) = rd l (9 * a + rd l (9 * b + c)))
def swpI (l : List Int) (a b _c : Int) : Bool := decide (rd l (9 * a + b) = rd l (9 * b + a))
def cenI (l : List Int) (k : Int) : Bool := e9.all fun a => decide (rd l (9 * k + a) = rd l (9 * a + k))
def kerP (l : List Int) (k a b _c : Int) : Bool := decide (rd l (9 * k + rd l (9 * a + b)) = rd l (9 * rd l (9 * k + a) + b)) && decide (rd l (9 * k + addP a b) = addP (rd l (9 * k + a)) (rd l (9 * k + b)))
def kerI (l : List Int) (k : Int) : Bool := all3 (kerP l k)
theorem addS_some {a b : Int} (h0 : 0 ≤ a) (h1 : a ≤ 8) (h2 : 0 ≤ b) (h3 : b ≤ 8) : spec_l1Add.f a b = some (addP a b) :=
  (by decide +kernel : ∀ a ∈ e9, ∀ b ∈ e9, spec_l1Add.f a b = some (addP a b)) a (mem_e9.mpr ⟨h0, h1⟩) b (mem_e9.mpr ⟨h2, h3⟩)
theorem minusS_some {a : Int} (h0 : 0 ≤ a) (h1 : a ≤ 8) : spec_l1Minus.f a = some (minusP a) :=
  (by decide +kernel : ∀ a ∈ e9, spec_l1Minus.f a = some (minusP a)) a (mem_e9.mpr ⟨h0, h1⟩)
/-- The 81 numbers behind ad. -/
def RowAt (W : World) (ad : Addr) (l : List Int) : Prop := ∀ i : Int, 0 ≤ i → i < 81 → W.cell? (ad.add i.toNat) = some (.int .i64 (rd l i))
theorem RowAt.mk' {W : World} {A : Option Addr} {l : List Int} (hl : l.length = 81) (hr : Kd.C (Kd.int .i64) W A l.length l) : ∃ ad, A = some ad ∧ RowAt W ad l := by
  obtain ⟨ad, e, _⟩ := Kd.at_int hr 0 (by omega) (by omega)
  refine ⟨ad, e, fun i h0 h1 => ?_⟩
  obtain ⟨ad', e', h⟩ := Kd.at_int hr i h0 (by omega)
  obtain rfl : ad = ad' := by rw [e] at e'; injection e'
  exact h
theorem nines_len {l : List Int} (h : nines l 81 = true) : l.length = 81 := by have := (nines_iff.mp h).1; omega
theorem RowAt.below {W W1 : World} {ad : Addr} {l : List Int} (h : RowAt W ad l) (hb : Below W.heap.size W W1) : RowAt W1 ad l := fun i h0 h1 => pw_cell_below hb (h i h0 h1)
theorem once_iff {f : Int → Int} : once f = true ↔ ∀ x y, 0 ≤ x → x ≤ 8 → 0 ≤ y → y ≤ 8 → x ≠ y → f x ≠ f y := by
  unfold once
  simp only [all9_iff, Bool.or_eq_true, decide_eq_true_eq]
  exact ⟨fun h x y h0 h1 h2 h3 hne => (h x h0 h1 y h2 h3).elim (fun e => absurd e hne) id, fun h x h0 h1 y h2 h3 => by
    by_cases e : x = y
    · exact .inl e
    · exact .inr (h x y h0 h1 h2 h3 e)⟩
/-- The nine marks of isOnce, in block B. -/
structure Seen (W : World) (B : Nat) (s : Int → Bool) : Prop where
  lt : B < W.heap.size
  cell : ∀ j : Int, 0 ≤ j → j < 9 → W.cell? ⟨B, j.toNat, none⟩ = some (.bool (s j))
  free : ∀ j : Int, 0 ≤ j → j < 9 → W.frozen? ⟨B, j.toNat, none⟩ = false
theorem Seen.below {W W1 : World} {B : Nat} {s : Int → Bool} (h : Seen W B s) (hb : Below W.heap.size W W1) : Seen W1 B s :=
  ⟨Nat.lt_of_lt_of_le h.lt hb.size, fun j h0 h1 => pw_cell_below hb (h.cell j h0 h1), fun j h0 h1 => (hb.frozen (p := ⟨B, j.toNat, none⟩) h.lt).trans (h.free j h0 h1)⟩
theorem Seen.put {W : World} {B : Nat} {s : Int → Bool} (h : Seen W B s) {v : Int} (h0 : 0 ≤ v) (h1 : v < 9) : Seen (W.setCell ⟨B, v.toNat, none⟩ (.bool true)) B (fun j => decide (j = v) || s j) := by
  refine ⟨by simpa using h.lt, fun j a b => ?_, fun j a b => by rw [World.frozen?_setCell]; exact h.free j a b⟩
  by_cases e : j = v
  · subst e
    rw [World.cell?_setCell_same _ _ _ (h.cell j a b)]
    simp
  · rw [World.cell?_setCell_other _ _ _ _ (by
      intro e'
      simp only [Addr.mk.injEq, true_and, and_true] at e'
      omega), h.cell j a b]
    simp [e]
theorem Seen.start (w : World) (t : Nat) : Seen (w.alloc (.cells #[.bool false, .bool false, .bool false, .bool false, .bool false, .bool false, .bool false, .bool false, .bool false] t)) w.heap.size (fun _ => false) := by
  refine ⟨by simp, fun j h0 h1 => ?_, fun j h0 h1 => ?_⟩
  · rcases (show j = 0 ∨ j = 1 ∨ j = 2 ∨ j = 3 ∨ j = 4 ∨ j = 5 ∨ j = 6 ∨ j = 7 ∨ j = 8 by omega) with rfl | rfl | rfl | rfl | rfl | rfl | rfl | rfl | rfl <;> simp
  · rcases (show j = 0 ∨ j = 1 ∨ j = 2 ∨ j = 3 ∨ j = 4 ∨ j = 5 ∨ j = 6 ∨ j = 7 ∨ j = 8 by omega) with rfl | rfl | rfl | rfl | rfl | rfl | rfl | rfl | rfl <;> simp
/-- A table and a number, each in a variable that a function value has. -/
structure OnAt (W : World) (B B2 : Nat) (A : Option Addr) (c : Nat) (l : List Int) (v : Int) : Prop where
  tb : W.cell? ⟨B, 0, none⟩ = some (.slice A l.length c)
  pb : W.cell? ⟨B2, 0, none⟩ = some (.int .i64 v)
  at_ : Kd.C (Kd.int .i64) W A l.length l
theorem OnAt.below {W W1 : World} {B B2 c : Nat} {A : Option Addr} {l : List Int} {v : Int} (h : OnAt W B B2 A c l v) (hb : Below W.heap.size W W1) : OnAt W1 B B2 A c l v :=
  ⟨pw_cell_below hb h.tb, pw_cell_below hb h.pb, Kd.C_below h.at_ hb⟩
/-- Whether a point is on a line, as the program says it of a table of 81 elements. -/
def onB (l : List Int) (p q : Int) : Bool :=
  if q = 90 then decide (p ≥ 81) else if q ≥ 81 then (decide (p = 90) || (decide (p < 81) && decide (p / 9 = q - 81))) else if p ≥ 81 then decide (p = 81 + q / 9) else decide (p % 9 = addP (rd l (9 * (p / 9) + q / 9)) (q % 9))
theorem tdiv9 {p : Int} (h0 : 0 ≤ p) : Int.tdiv p 9 = p / 9 := Int.tdiv_eq_ediv_of_nonneg h0
theorem tmod9 {p : Int} (h0 : 0 ≤ p) : Int.tmod p 9 = p % 9 := Int.tmod_eq_emod_of_nonneg h0
def e91 : List Int := (List.range 91).map Int.ofNat

end Go.Proofs.Ytiobhhcbdcbajaa.P
