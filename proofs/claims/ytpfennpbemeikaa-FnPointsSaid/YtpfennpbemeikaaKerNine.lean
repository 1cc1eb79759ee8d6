/- The reader of draws gives a number from 0 to n - 1 and goes on by one place; a drawn element is a number from -1 to 9. Conditions: the code's bytes are bytes, n is at least 1 and at most 1000, and the place is at most a million. -/
import Derived.Test.YtpfennpbemeikaaEvLoop
import Derived.Test.YtpfennpbemeikaaPx16
import Derived.Test.YtpfennpbemeikaaPx4
set_option linter.unusedVariables false
set_option linter.unusedSimpArgs false
namespace Go.Proofs.Ytpfennpbemeikaa.Pure
open Go.RowKit Go.Proofs.Ytpfennpbemeikaa.P Go.Proofs.YtpfennpbemeikaaW.PrintWords Go.Proofs.YtpfennpbemeikaaW.PrintLast


theorem i64_xor_nonneg (a b : Int) (ha : 0 ≤ a) (ha2 : a < 4294967296) (hb : 0 ≤ b) (hb2 : b < 4294967296) : 0 ≤ Go.bits .xor .i64 a b := by
  obtain ⟨m, rfl⟩ := Int.eq_ofNat_of_zero_le ha
  obtain ⟨n, rfl⟩ := Int.eq_ofNat_of_zero_le hb
  have hm : m < 2 ^ 32 := by omega
  have hn : n < 2 ^ 32 := by omega
  have hx : m ^^^ n < 2 ^ 32 := Nat.xor_lt_two_pow hm hn
  have ha' : m % 2 ^ IntKind.i64.bits = m := Nat.mod_eq_of_lt (Nat.lt_of_lt_of_le hm (by decide))
  have hb' : n % 2 ^ IntKind.i64.bits = n := Nat.mod_eq_of_lt (Nat.lt_of_lt_of_le hn (by decide))
  simp only [bits, BitVec.ofInt_natCast, BitVec.toNat_xor, BitVec.toNat_ofNat, ha', hb', IntKind.wrap_i64]
  omega

def Bytes (b : List Int) : Prop := ∀ x ∈ b, (Lit.int .u8 x).wf = true

theorem rd_byte {b : List Int} (hb : Bytes b) (i : Int) : 0 ≤ rd b i ∧ rd b i ≤ 255 := by
  unfold rd
  by_cases h : i.toNat < b.length
  · rw [List.getD_eq_getElem?_getD, List.getElem?_eq_getElem h]
    have := hb _ (List.getElem_mem h)
    simp [Lit.wf, IntKind.min, IntKind.max, IntKind.signed, IntKind.bits] at this
    simp
    omega
  · rw [List.getD_eq_getElem?_getD, List.getElem?_eq_none (by omega)]
    simp

theorem tmod_lt {a n : Int} (ha : 0 ≤ a) (hn : 1 ≤ n) : 0 ≤ Int.tmod a n ∧ Int.tmod a n < n := by
  rw [Int.tmod_eq_emod_of_nonneg ha]
  exact ⟨Int.emod_nonneg _ (by omega), Int.emod_lt_of_pos _ (by omega)⟩

theorem tdiv_le {a n : Int} (ha : 0 ≤ a) (hn : 1 ≤ n) : 0 ≤ Int.tdiv a n ∧ Int.tdiv a n ≤ a := by
  rw [Int.tdiv_eq_ediv_of_nonneg ha]
  refine ⟨Int.ediv_nonneg ha (by omega), Int.ediv_le_self _ ha⟩

/-- One draw. -/
theorem pick_some {b : List Int} (hb : Bytes b) (hl : (b.length : Int) ≤ 9223372036854775807) (p n : Int) (hp0 : 0 ≤ p) (hp : p ≤ 1000000) (hn : 1 ≤ n) (hn2 : n ≤ 1000) (k : Nat) :
    ∃ r, spec_l6Rd_pick.f (k + 1) b p n = some (r, p + 1) ∧ 0 ≤ r ∧ r < n := by
  have e1 : wrap64 (p + 1) = p + 1 := w64 (by omega) (by omega)
  have e2 : wrap64 (p + 1 - 1) = p := by rw [w64 (by omega) (by omega)]; omega
  unfold spec_l6Rd_pick.f
  rw [if_neg (by omega), e1]
  by_cases h0 : (b.length : Int) = 0
  · rw [beq_iff_eq.mpr h0]
    simp only [spec_l6Rd_pick.j0, if_true]
    exact ⟨0, rfl, by omega, by omega⟩
  · rw [beq_eq_false_iff_ne.mpr h0]
    simp only [spec_l6Rd_pick.j0, e2]
    rw [if_neg (by decide)]
    by_cases h1 : p < (b.length : Int)
    · have hr := rd_byte hb p
      rw [if_pos h1, if_pos hp0, if_neg (by omega), w64 (by omega) (by omega)]
      exact ⟨_, rfl, tmod_lt hr.1 hn⟩
    · have e3 : wrap64 (p * 7) = p * 7 := w64 (by omega) (by omega)
      have e4 : wrap64 (p * 7 + 3) = p * 7 + 3 := w64 (by omega) (by omega)
      have m1 := tmod_lt (a := p) (n := (b.length : Int)) hp0 (by omega)
      have m2 := tmod_lt (a := p * 7 + 3) (n := (b.length : Int)) (by omega) (by omega)
      have d1 := tdiv_le (a := p) (n := (b.length : Int)) hp0 (by omega)
      rw [if_neg h1, if_neg h0, e3, e4, if_pos m1.1, if_pos m1.2, if_pos m2.1, if_pos m2.2, if_neg (by omega)]
      have r1 := rd_byte hb (Int.tmod p (b.length : Int))
      have r2 := rd_byte hb (Int.tmod (p * 7 + 3) (b.length : Int))
      generalize rd b (Int.tmod p (b.length : Int)) = u at *
      generalize rd b (Int.tmod (p * 7 + 3) (b.length : Int)) = v at *
      generalize Int.tdiv p (b.length : Int) = q at *
      rw [w64 (n := u) (by omega) (by omega), w64 (n := v) (by omega) (by omega), w64 (n := q) (by omega) (by omega)]
      rw [w64 (n := u * 131) (by omega) (by omega), w64 (n := v * 1117) (by omega) (by omega), w64 (n := p * 29) (by omega) (by omega), w64 (n := q * 53) (by omega) (by omega)]
      rw [w64 (n := u * 131 + v * 1117) (by omega) (by omega), w64 (n := u * 131 + v * 1117 + p * 29) (by omega) (by omega), w64 (n := u * 131 + v * 1117 + p * 29 + q * 53) (by omega) (by omega)]
      have hx : 0 ≤ u * 131 + v * 1117 + p * 29 + q * 53 := by omega
      have hx2 : u * 131 + v * 1117 + p * 29 + q * 53 < 4294967296 := by omega
      generalize u * 131 + v * 1117 + p * 29 + q * 53 = x at *
      have d2 := tdiv_le (a := x) (n := 64) hx (by omega)
      rw [w64 (n := Int.tdiv x 64) (by omega) (by omega)]
      exact ⟨_, rfl, tmod_lt (i64_xor_nonneg _ _ hx hx2 d2.1 (by omega)) hn⟩

/-- The reader that is opened. -/
theorem open_some {l : List Int} (hl : l.length ≤ maxLen) (hb : Bytes l) : ∃ b, spec_l6Open.f l = some (b, 0) ∧ Bytes b ∧ (b.length : Int) ≤ 9223372036854775807 := by
  unfold maxLen at hl
  unfold spec_l6Open.f
  by_cases h : (l.length : Int) > 2000
  · rw [if_pos h, if_pos (by omega)]
    exact ⟨_, rfl, fun x hx => hb x (List.mem_of_mem_take hx), by rw [List.length_take]; omega⟩
  · rw [if_neg h]
    exact ⟨_, rfl, hb, by omega⟩

def r11 : List Int := [-1, 0, 1, 2, 3, 4, 5, 6, 7, 8, 9]
theorem mem_r11 {a : Int} (h0 : -1 ≤ a) (h1 : a ≤ 9) : a ∈ r11 := by
  simp only [r11, List.mem_cons, List.not_mem_nil]
  omega

end Go.Proofs.Ytpfennpbemeikaa.Pure
