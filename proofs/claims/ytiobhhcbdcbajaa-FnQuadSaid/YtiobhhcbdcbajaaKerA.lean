/- The reader of draws gives a number from 0 to n - 1 and goes on by one place; a drawn element is a number from -1 to 9. Conditions: the code's bytes are bytes, n is at least 1 and at most 1000, and the place is at most a million. A drawn table has at most 81 numbers. Conditions: the code's bytes are bytes, its length is an int's. -/
import Derived.Test.YtiobhhcbdcbajaaEvA
import Derived.Test.YtiobhhcbdcbajaaPx12
import Derived.Test.YtiobhhcbdcbajaaPx4
import Derived.Test.YtiobhhcbdcbajaaPx13
set_option linter.unusedVariables false
set_option linter.unusedSimpArgs false
set_option linter.unusedSectionVars false
namespace Go.Proofs.Ytiobhhcbdcbajaa.Pure
open Go.RowKit Go.Proofs.Ytiobhhcbdcbajaa.P Go.Proofs.YtiobhhcbdcbajaaW.PrintWords Go.Proofs.YtiobhhcbdcbajaaW.PrintLast


theorem i64_xor_nonneg (a b : Int) (ha : 0 ≤ a) (ha2 : a < 4294967296) (hb : 0 ≤ b) (hb2 : b < 4294967296) : 0 ≤ Go.bits .xor .i64 a b := by
  obtain ⟨m, rfl⟩ := Int.eq_ofNat_of_zero_le ha
  obtain ⟨n, rfl⟩ := Int.eq_ofNat_of_zero_le hb
  have hm : m < 2 ^ 32 := by omega
  have hn : n < 2 ^ 32 := by omega
  have hx : m ^^^ n < 2 ^ 32 := Nat.xor_lt_two_pow hm hn
  have ha' : m % 2 ^ IntKind.i64.bits = m := Nat.mod_eq_of_lt (Nat.lt_of_lt_of_le hm (by decide))
  have hb' : n % 2 ^ IntKind.i64.bits = n := Nat.mod_eq_of_lt (Nat.lt_of_lt_of_le hn (by decide))
  simp only [bits, BitVec.ofInt_natCast, BitVec.toNat_xor, BitVec.toNat_ofNat, ha', hb', IntKind.wrap_i64]
  omega

def Bytes (b : List Int) : Prop := ∀ x ∈ b, (Lit.int .u8 x).wf = true

theorem rd_byte {b : List Int} (hb : Bytes b) (i : Int) : 0 ≤ rd b i ∧ rd b i ≤ 255 := by
  unfold rd
  by_cases h : i.toNat < b.length
  · rw [List.getD_eq_getElem?_getD, List.getElem?_eq_getElem h]
    have := hb _ (List.getElem_mem h)
    simp [Lit.wf, IntKind.min, IntKind.max, IntKind.signed, IntKind.bits] at this
    simp
    omega
  · rw [List.getD_eq_getElem?_getD, List.getElem?_eq_none (by omega)]
    simp

theorem tmod_lt {a n : Int} (ha : 0 ≤ a) (hn : 1 ≤ n) : 0 ≤ Int.tmod a n ∧ Int.tmod a n < n := by
  rw [Int.tmod_eq_emod_of_nonneg ha]
  exact ⟨Int.emod_nonneg _ (by omega), Int.emod_lt_of_pos _ (by omega)⟩

theorem tdiv_le {a n : Int} (ha : 0 ≤ a) (hn : 1 ≤ n) : 0 ≤ Int.tdiv a n ∧ Int.tdiv a n ≤ a := by
  rw [Int.tdiv_eq_ediv_of_nonneg ha]
  refine ⟨Int.ediv_nonneg ha (by omega), Int.ediv_le_self _ ha⟩

/-- One draw. -/
theorem pick_some {b : List Int} (hb : Bytes b) (hl : (b.length : Int) ≤ 9223372036854775807) (p n : Int) (hp0 : 0 ≤ p) (hp : p ≤ 1000000) (hn : 1 ≤ n) (hn2 : n ≤ 1000) (k : Nat) :
    ∃ r, spec_l6Rd_pick.f (k + 1) b p n = some (r, p + 1) ∧ 0 ≤ r ∧ r < n := by
  have e1 : wrap64 (p + 1) = p + 1 := w64 (by omega) (by omega)
  have e2 : wrap64 (p + 1 - 1) = p := by rw [w64 (by omega) (by omega)]; omega
  unfold spec_l6Rd_pick.f
  rw [if_neg (by omega), e1]
  by_cases h0 : (b.length : Int) = 0
  · rw [beq_iff_eq.mpr h0]
    simp only [spec_l6Rd_pick.j0, if_true]
    exact ⟨0, rfl, by omega, by omega⟩
  · rw [beq_eq_false_iff_ne.mpr h0]
    simp only [spec_l6Rd_pick.j0, e2]
    rw [if_neg (by decide)]
    by_cases h1 : p < (b.length : Int)
    · have hr := rd_byte hb p
      rw [if_pos h1, if_pos hp0, if_neg (by omega), w64 (by omega) (by omega)]
      exact ⟨_, rfl, tmod_lt hr.1 hn⟩
    · have e3 : wrap64 (p * 7) = p * 7 := w64 (by omega) (by omega)
      have e4 : wrap64 (p * 7 + 3) = p * 7 + 3 := w64 (by omega) (by omega)
      have m1 := tmod_lt (a := p) (n := (b.length : Int)) hp0 (by omega)
      have m2 := tmod_lt (a := p * 7 + 3) (n := (b.length : Int)) (by omega) (by omega)
      have d1 := tdiv_le (a := p) (n := (b.length : Int)) hp0 (by omega)
      rw [if_neg h1, if_neg h0, e3, e4, if_pos m1.1, if_pos m1.2, if_pos m2.1, if_pos m2.2, if_neg (by omega)]
      have r1 := rd_byte hb (Int.tmod p (b.length : Int))
      have r2 := rd_byte hb (Int.tmod (p * 7 + 3) (b.length : Int))
      generalize rd b (Int.tmod p (b.length : Int)) = u at *
      generalize rd b (Int.tmod (p * 7 + 3) (b.length : Int)) = v at *
      generalize Int.tdiv p (b.length : Int) = q at *
      rw [w64 (n := u) (by omega) (by omega), w64 (n := v) (by omega) (by omega), w64 (n := q) (by omega) (by omega)]
      rw [w64 (n := u * 131) (by omega) (by omega), w64 (n := v * 1117) (by omega) (by omega), w64 (n := p * 29) (by omega) (by omega), w64 (n := q * 53) (by omega) (by omega)]
      rw [w64 (n := u * 131 + v * 1117) (by omega) (by omega), w64 (n := u * 131 + v * 1117 + p * 29) (by omega) (by omega), w64 (n := u * 131 + v * 1117 + p * 29 + q * 53) (by omega) (by omega)]
      have hx : 0 ≤ u * 131 + v * 1117 + p * 29 + q * 53 := by omega
      have hx2 : u * 131 + v * 1117 + p * 29 + q * 53 < 4294967296 := by omega
      generalize u * 131 + v * 1117 + p * 29 + q * 53 = x at *
      have d2 := tdiv_le (a := x) (n := 64) hx (by omega)
      rw [w64 (n := Int.tdiv x 64) (by omega) (by omega)]
      exact ⟨_, rfl, tmod_lt (i64_xor_nonneg _ _ hx hx2 d2.1 (by omega)) hn⟩

/-- The reader that is opened. -/
theorem open_some {l : List Int} (hl : l.length ≤ maxLen) (hb : Bytes l) : ∃ b, spec_l6Open.f l = some (b, 0) ∧ Bytes b ∧ (b.length : Int) ≤ 9223372036854775807 := by
  unfold maxLen at hl
  unfold spec_l6Open.f
  by_cases h : (l.length : Int) > 2000
  · rw [if_pos h, if_pos (by omega)]
    exact ⟨_, rfl, fun x hx => hb x (List.mem_of_mem_take hx), by rw [List.length_take]; omega⟩
  · rw [if_neg h]
    exact ⟨_, rfl, hb, by omega⟩

def r11 : List Int := [-1, 0, 1, 2, 3, 4, 5, 6, 7, 8, 9]
theorem mem_r11 {a : Int} (h0 : -1 ≤ a) (h1 : a ≤ 9) : a ∈ r11 := by
  simp only [r11, List.mem_cons, List.not_mem_nil]
  omega

end Go.Proofs.Ytiobhhcbdcbajaa.Pure

namespace Go.Proofs.Ytiobhhcbdcbajaa.Pure
open Go.RowKit Go.Proofs.Ytiobhhcbdcbajaa.P Go.Proofs.YtiobhhcbdcbajaaW.PrintWords Go.Proofs.YtiobhhcbdcbajaaW.PrintLast

theorem pick_ev {b : List Int} (hb : Bytes b) (hl : (b.length : Int) ≤ 9223372036854775807) (p n : Int) (hp0 : 0 ≤ p) (hp : p ≤ 1000000) (hn : 1 ≤ n) (hn2 : n ≤ 1000) :
    ∃ r, Ev (fun k => spec_l6Rd_pick.f k b p n) (r, p + 1) ∧ 0 ≤ r ∧ r < n := by
  obtain ⟨r, hr, h0, h1⟩ := pick_some hb hl p n hp0 hp hn hn2 0
  exact ⟨r, Ev.of (fun k => spec_l6Rd_pick.mono b p n k) hr, h0, h1⟩
theorem of_len : ∀ a ∈ ([0, 1, 2, 3, 4] : List Int), (match spec_l2Of.f 200 a with | some t => decide (t.length = 81) | none => false) = true := by decide +kernel
theorem of_ev {a : Int} (h0 : 0 ≤ a) (h1 : a < 5) : ∃ t, Ev (fun k => spec_l2Of.f k a) t ∧ t.length = 81 := by
  have h := of_len a (by simp only [List.mem_cons, List.not_mem_nil]; omega)
  cases e : spec_l2Of.f 200 a with
  | none => rw [e] at h; cases h
  | some t =>
    rw [e] at h
    exact ⟨t, Ev.of (fun k => spec_l2Of.mono a k) e, of_decide_eq_true h⟩
theorem sys_draw {b : List Int} (hb : Bytes b) (hl : (b.length : Int) ≤ 9223372036854775807) (p : Int) (hp0 : 0 ≤ p) (hp : p ≤ 1000) :
    ∃ t q, Ev (fun k => spec_l91System.f k b p) (t, q) ∧ t.length ≤ 81 ∧ p ≤ q ∧ q ≤ p + 5 := by
  obtain ⟨a, ha, a0, a1⟩ := pick_ev hb hl p 5 hp0 (by omega) (by omega) (by omega)
  obtain ⟨t, ht, hn⟩ := of_ev a0 a1
  obtain ⟨c, hc, c0, c1⟩ := pick_ev hb hl (p + 1) 30 (by omega) (by omega) (by omega) (by omega)
  unfold spec_l91System.f
  by_cases h0 : c = 0
  · obtain ⟨x, hx, x0, x1⟩ := pick_ev hb hl (p + 1 + 1) 9 (by omega) (by omega) (by omega) (by omega)
    obtain ⟨y, hy, y0, y1⟩ := pick_ev hb hl (p + 1 + 1 + 1) 9 (by omega) (by omega) (by omega) (by omega)
    obtain ⟨z, hz, z0, z1⟩ := pick_ev hb hl (p + 1 + 1 + 1 + 1) 9 (by omega) (by omega) (by omega) (by omega)
    refine ⟨t.set (9 * x + y).toNat z, p + 1 + 1 + 1 + 1 + 1, Ev.bind ha (Ev.bind ht (Ev.bind hc (Ev.pos h0 (Ev.bind hx (Ev.bind hy (Ev.bind hz ?_)))))), by rw [List.length_set]; omega, by omega, by omega⟩
    rw [w9c x0 (by omega) y0 (by omega)]
    exact Ev.pos (by omega) (Ev.pos (by omega) (Ev.now _))
  · by_cases h1 : c = 1
    · refine ⟨t.take 80, p + 1 + 1, Ev.bind ha (Ev.bind ht (Ev.bind hc (Ev.neg h0 (Ev.pos h1 (Ev.pos (by omega) (Ev.now _)))))), by rw [List.length_take]; omega, by omega, by omega⟩
    · exact ⟨t, p + 1 + 1, Ev.bind ha (Ev.bind ht (Ev.bind hc (Ev.neg h0 (Ev.neg h1 (Ev.now _))))), by omega, by omega, by omega⟩
theorem one_draw {b : List Int} (hb : Bytes b) (hl : (b.length : Int) ≤ 9223372036854775807) : ∃ t : List Int, Ev (fun k => (spec_l91System.f k b 0).bind fun y => some y.1) t ∧ (t.length : Int) ≤ 9223372036854775806 := by
  obtain ⟨t, q, h, hn, _⟩ := sys_draw hb hl 0 (by omega) (by omega)
  exact ⟨t, Ev.bind h (Ev.now _), by omega⟩
/-- The laws' own shape: a code that is too long holds; else what is drawn decides. -/
theorem of_draw {α : Type} {l : List Int} (hl : l.length ≤ maxLen) (hb : Bytes l) {f : Nat → List Int × Int → Option α} {g : Nat → α → Option Bool}
    (h : ∀ b, Bytes b → (b.length : Int) ≤ 9223372036854775807 → ∃ a, Ev (fun k => f k (b, 0)) a ∧ Ev (fun k => g k a) true) :
    Ev (fun k => if (l.length : Int) > 1048576 then some true else ((spec_l6Open.f l).bind (f k)).bind (g k)) true := by
  by_cases hz : (l.length : Int) > 1048576
  · exact Ev.pos hz (Ev.now _)
  · refine Ev.neg hz ?_
    obtain ⟨b, ho, hb', hl'⟩ := open_some hl hb
    obtain ⟨a, hf, hg⟩ := h b hb' hl'
    rw [ho]
    exact Ev.bind (Ev.some' hf) hg

end Go.Proofs.Ytiobhhcbdcbajaa.Pure
