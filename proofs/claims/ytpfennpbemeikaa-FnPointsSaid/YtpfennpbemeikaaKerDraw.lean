/- A drawn table has at most 81 numbers. Conditions: the code's bytes are bytes, its length is an int's. -/
import Derived.Test.YtpfennpbemeikaaKerNine
import Derived.Test.YtpfennpbemeikaaPx17
set_option linter.unusedVariables false
set_option linter.unusedSimpArgs false
namespace Go.Proofs.Ytpfennpbemeikaa.Pure
open Go.RowKit Go.Proofs.Ytpfennpbemeikaa.P Go.Proofs.YtpfennpbemeikaaW.PrintWords Go.Proofs.YtpfennpbemeikaaW.PrintLast

theorem pick_ev {b : List Int} (hb : Bytes b) (hl : (b.length : Int) ≤ 9223372036854775807) (p n : Int) (hp0 : 0 ≤ p) (hp : p ≤ 1000000) (hn : 1 ≤ n) (hn2 : n ≤ 1000) :
    ∃ r, Ev (fun k => spec_l6Rd_pick.f k b p n) (r, p + 1) ∧ 0 ≤ r ∧ r < n := by
  obtain ⟨r, hr, h0, h1⟩ := pick_some hb hl p n hp0 hp hn hn2 0
  exact ⟨r, Ev.of (fun k => spec_l6Rd_pick.mono b p n k) hr, h0, h1⟩
theorem of_len : ∀ a ∈ ([0, 1, 2, 3, 4] : List Int), (match spec_l2Of.f 200 a with | some t => decide (t.length = 81) | none => false) = true := by decide +kernel
theorem of_ev {a : Int} (h0 : 0 ≤ a) (h1 : a < 5) : ∃ t, Ev (fun k => spec_l2Of.f k a) t ∧ t.length = 81 := by
  have h := of_len a (by simp only [List.mem_cons, List.not_mem_nil]; omega)
  cases e : spec_l2Of.f 200 a with
  | none => rw [e] at h; cases h
  | some t =>
    rw [e] at h
    exact ⟨t, Ev.of (fun k => spec_l2Of.mono a k) e, of_decide_eq_true h⟩
theorem sys_draw {b : List Int} (hb : Bytes b) (hl : (b.length : Int) ≤ 9223372036854775807) (p : Int) (hp0 : 0 ≤ p) (hp : p ≤ 1000) :
    ∃ t q, Ev (fun k => spec_l91System.f k b p) (t, q) ∧ t.length ≤ 81 ∧ p ≤ q ∧ q ≤ p + 5 := by
  obtain ⟨a, ha, a0, a1⟩ := pick_ev hb hl p 5 hp0 (by omega) (by omega) (by omega)
  obtain ⟨t, ht, hn⟩ := of_ev a0 a1
  obtain ⟨c, hc, c0, c1⟩ := pick_ev hb hl (p + 1) 30 (by omega) (by omega) (by omega) (by omega)
  unfold spec_l91System.f
  by_cases h0 : c = 0
  · obtain ⟨x, hx, x0, x1⟩ := pick_ev hb hl (p + 1 + 1) 9 (by omega) (by omega) (by omega) (by omega)
    obtain ⟨y, hy, y0, y1⟩ := pick_ev hb hl (p + 1 + 1 + 1) 9 (by omega) (by omega) (by omega) (by omega)
    obtain ⟨z, hz, z0, z1⟩ := pick_ev hb hl (p + 1 + 1 + 1 + 1) 9 (by omega) (by omega) (by omega) (by omega)
    refine ⟨t.set (9 * x + y).toNat z, p + 1 + 1 + 1 + 1 + 1, Ev.bind ha (Ev.bind ht (Ev.bind hc (Ev.pos h0 (Ev.bind hx (Ev.bind hy (Ev.bind hz ?_)))))), by rw [List.length_set]; omega, by omega, by omega⟩
    rw [w9c x0 (by omega) y0 (by omega)]
    exact Ev.pos (by omega) (Ev.pos (by omega) (Ev.now _))
  · by_cases h1 : c = 1
    · refine ⟨t.take 80, p + 1 + 1, Ev.bind ha (Ev.bind ht (Ev.bind hc (Ev.neg h0 (Ev.pos h1 (Ev.pos (by omega) (Ev.now _)))))), by rw [List.length_take]; omega, by omega, by omega⟩
    · exact ⟨t, p + 1 + 1, Ev.bind ha (Ev.bind ht (Ev.bind hc (Ev.neg h0 (Ev.neg h1 (Ev.now _))))), by omega, by omega, by omega⟩
theorem one_draw {b : List Int} (hb : Bytes b) (hl : (b.length : Int) ≤ 9223372036854775807) : ∃ t : List Int, Ev (fun k => (spec_l91System.f k b 0).bind fun y => some y.1) t ∧ (t.length : Int) ≤ 9223372036854775806 := by
  obtain ⟨t, q, h, hn, _⟩ := sys_draw hb hl 0 (by omega) (by omega)
  exact ⟨t, Ev.bind h (Ev.now _), by omega⟩
/-- The laws' own shape: a code that is too long holds; else what is drawn decides. -/
theorem of_draw {α : Type} {l : List Int} (hl : l.length ≤ maxLen) (hb : Bytes l) {f : Nat → List Int × Int → Option α} {g : Nat → α → Option Bool}
    (h : ∀ b, Bytes b → (b.length : Int) ≤ 9223372036854775807 → ∃ a, Ev (fun k => f k (b, 0)) a ∧ Ev (fun k => g k a) true) :
    Ev (fun k => if (l.length : Int) > 1048576 then some true else ((spec_l6Open.f l).bind (f k)).bind (g k)) true := by
  by_cases hz : (l.length : Int) > 1048576
  · exact Ev.pos hz (Ev.now _)
  · refine Ev.neg hz ?_
    obtain ⟨b, ho, hb', hl'⟩ := open_some hl hb
    obtain ⟨a, hf, hg⟩ := h b hb' hl'
    rw [ho]
    exact Ev.bind (Ev.some' hf) hg

end Go.Proofs.Ytpfennpbemeikaa.Pure
