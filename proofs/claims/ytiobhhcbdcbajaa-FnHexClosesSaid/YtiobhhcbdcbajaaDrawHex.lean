/- Drawn tables with four points or six: each draw comes to its end. Conditions: the code's bytes are bytes, its length is an int's. -/
import Derived.Test.YtiobhhcbdcbajaaKerA
import Derived.Test.YtiobhhcbdcbajaaPlaneA
import Derived.Test.YtiobhhcbdcbajaaEvA
import Derived.Test.YtiobhhcbdcbajaaPx20
set_option linter.unusedVariables false
set_option linter.unusedSimpArgs false
namespace Go.Proofs.Ytiobhhcbdcbajaa.Pure
open Go.RowKit Go.Proofs.Ytiobhhcbdcbajaa.P Go.Proofs.Ytiobhhcbdcbajaa.Nine Go.Proofs.YtiobhhcbdcbajaaW.PrintWords Go.Proofs.YtiobhhcbdcbajaaW.PrintLast

theorem take91_step (f : Int → Bool) {i : Int} (h0 : 0 ≤ i) (h1 : i < 91) : (r91.take (i + 1).toNat).filter f = if f i = true then (r91.take i.toNat).filter f ++ [i] else (r91.take i.toNat).filter f := by
  obtain ⟨n, rfl⟩ := Int.eq_ofNat_of_zero_le h0
  have h := (by decide +kernel : ∀ n, n < 91 → r91.take (n + 1) = r91.take n ++ [(n : Int)]) n (by omega)
  rw [show ((n : Int) + 1).toNat = n + 1 by omega, Int.toNat_natCast, h, List.filter_append]
  cases hf : f n with
  | true => simp [hf]
  | false => simp [hf]
theorem take91_len (f : Int → Bool) (n : Nat) : ((r91.take n).filter f).length ≤ 91 := by
  have h2 := List.length_filter_le f (r91.take n)
  have h3 : r91.length = 91 := by decide
  rw [List.length_take] at h2
  omega
theorem l3Points_ev {l : List Int} (hn : nines l 81 = true) {q : Int} (hq : Rg q) : Ev (fun k => spec_l3Points.f k l q) (pointsI (mOf l) q) := by
  have : pointsI (mOf l) q = (r91.take (91 : Int).toNat).filter fun p => onI (mOf l) p q := rfl
  rw [this]
  refine loop_from (g := fun k x i => spec_l3Points.l0 k l q x i) (N := 91) (acc := fun i => (r91.take i.toNat).filter fun p => onI (mOf l) p q) (s := 0) (by omega) ?_ ?_
  · intro i i0 i1 h
    refine Ev.step (fun k => spec_l3Points.l0.eq_2 ..) (Ev.pos i1 ?_)
    rw [on_spec hn ⟨i0, by omega⟩ hq, w1 i0 (by omega)]
    have := take91_len (fun p => onI (mOf l) p q) i.toNat
    rw [take91_step _ i0 i1] at h
    cases hc : onI (mOf l) i q with
    | true =>
      rw [hc, if_pos rfl] at h
      exact Ev.some' (Ev.pos rfl (Ev.pos (by omega) h))
    | false =>
      rw [hc, if_neg (by decide)] at h
      exact Ev.some' (Ev.neg (by decide) h)
  · exact Ev.step (fun k => spec_l3Points.l0.eq_2 ..) (Ev.neg (by omega) (Ev.now _))
/-- The laws' shape with a draw in two steps. -/
theorem of_draw2 {α β : Type} {l : List Int} (hl : l.length ≤ maxLen) (hb : Bytes l) {f : Nat → List Int × Int → Option α} {c : α → Option β} {g : Nat → β → Option Bool}
    (h : ∀ b, Bytes b → (b.length : Int) ≤ 9223372036854775807 → ∃ a d, Ev (fun k => f k (b, 0)) a ∧ c a = some d ∧ Ev (fun k => g k d) true) :
    Ev (fun k => if (l.length : Int) > 1048576 then some true else (((spec_l6Open.f l).bind (f k)).bind c).bind (g k)) true := by
  by_cases hz : (l.length : Int) > 1048576
  · exact Ev.pos hz (Ev.now _)
  · refine Ev.neg hz ?_
    obtain ⟨b, ho, hb', hl'⟩ := open_some hl hb
    obtain ⟨a, d, hf, hc, hg⟩ := h b hb' hl'
    rw [ho]
    refine Ev.bind (Ev.bind (Ev.some' hf) ?_) hg
    rw [hc]
    exact Ev.now _
theorem hex_draw {b t : List Int} (hb : Bytes b) (hl : (b.length : Int) ≤ 9223372036854775807) (ht : (t.length : Int) ≤ 9223372036854775806) {l m : Int} (rl : Rg l) (rm : Rg m) : ∀ (n : Nat) (i : Int), 0 ≤ i → i + n = 6 → ∀ (acc : List Int) (p : Int), (acc.length : Int) = i → 0 ≤ p → p + 3 * n ≤ 500 → ∃ xs : List Int, Ev (fun k => spec_l91Hex.l0 k t l m acc i b p) (t, xs) ∧ xs.length = 6 := by
  intro n
  induction n with
  | zero =>
    intro i i0 hi acc p ha p0 p1
    exact ⟨acc, Ev.step (fun k => spec_l91Hex.l0.eq_2 ..) (Ev.neg (by omega) (Ev.now _)), by omega⟩
  | succ n ih =>
    intro i i0 hi acc p ha p0 p1
    have st : ∀ w : Int, Rg w → ∃ xs : List Int, Ev (fun k => spec_l91Hex.j1 k t l m acc i w b p) (t, xs) ∧ xs.length = 6 := fun w hw => by
      obtain ⟨x, hx, _, _⟩ := pick_ev hb hl p 91 p0 (by omega) (by omega) (by omega)
      have go : ∀ (a q : Int), p ≤ q → q ≤ p + 3 → ∃ xs : List Int, Ev (fun k => spec_l91Hex.l0 k t l m (acc ++ [a]) (wrap64 (i + 1)) b q) (t, xs) ∧ xs.length = 6 := fun a q q0 q1 => by
        rw [w1 (i := i) i0 (by omega)]
        exact ih (i + 1) (by omega) (by omega) (acc ++ [a]) q (by rw [List.length_append]; show ((acc.length + 1 : Nat) : Int) = i + 1; omega) (by omega) (by omega)
      cases hs : sysI t with
      | false =>
        obtain ⟨xs, h, h6⟩ := go x (p + 1) (by omega) (by omega)
        exact ⟨xs, Ev.step (fun k => spec_l91Hex.j1.eq_2 ..) (Ev.bind hx (Ev.bind (sysIn_ev ht) (by rw [hs]; exact Ev.neg (by decide) (Ev.pos (by omega) h)))), h6⟩
      | true =>
        obtain ⟨c, hc, c0, c1⟩ := pick_ev hb hl (p + 1) 30 (by omega) (by omega) (by omega) (by omega)
        by_cases hc0 : c > 0
        · have hn := sysI_n hs
          have h10 := pointsI_len (mOf t) hw
          obtain ⟨d, hd, d0, d1⟩ := pick_ev hb hl (p + 1 + 1) ((pointsI (mOf t) w).length : Int) (by omega) (by omega) (by omega) (by omega)
          obtain ⟨xs, h, h6⟩ := go (rd (pointsI (mOf t) w) d) (p + 1 + 1 + 1) (by omega) (by omega)
          refine ⟨xs, Ev.step (fun k => spec_l91Hex.j1.eq_2 ..) (Ev.bind hx (Ev.bind (sysIn_ev ht) (Ev.pos hs (Ev.bind hc (Ev.pos hc0 (Ev.bind (a := (rd (pointsI (mOf t) w) d, p + 1 + 1 + 1)) ?_ (Ev.pos (by omega) h))))))), h6⟩
          unfold spec_l91On.f
          exact Ev.bind (l3Points_ev hn hw) (Ev.neg (by rw [h10]; decide) (Ev.bind hd (Ev.pos d0 (Ev.pos d1 (Ev.now _)))))
        · obtain ⟨xs, h, h6⟩ := go x (p + 1 + 1) (by omega) (by omega)
          exact ⟨xs, Ev.step (fun k => spec_l91Hex.j1.eq_2 ..) (Ev.bind hx (Ev.bind (sysIn_ev ht) (Ev.pos hs (Ev.bind hc (Ev.neg hc0 (Ev.pos (by omega) h)))))), h6⟩
    by_cases h2 : i > 2
    · obtain ⟨xs, h, h6⟩ := st m rm
      exact ⟨xs, Ev.step (fun k => spec_l91Hex.l0.eq_2 ..) (Ev.pos (by omega) (Ev.pos h2 h)), h6⟩
    · obtain ⟨xs, h, h6⟩ := st l rl
      exact ⟨xs, Ev.step (fun k => spec_l91Hex.l0.eq_2 ..) (Ev.pos (by omega) (Ev.neg h2 h)), h6⟩
/-- A drawn table with six numbers. -/
theorem six_draw {b : List Int} (hb : Bytes b) (hl : (b.length : Int) ≤ 9223372036854775807) : ∃ t xs : List Int, Ev (fun k => (spec_l91System.f k b 0).bind fun bt172 => ((spec_l6Rd_pick.f k b bt172.2 91).bind fun bt176 => ((spec_l6Rd_pick.f k b bt176.2 91).bind fun bt178 => (spec_l91Hex.l0 k bt172.1 bt176.1 bt178.1 (([] : List Int)) 0 b bt178.2)))) (t, xs) ∧ (t.length : Int) ≤ 9223372036854775806 ∧ xs.length = 6 := by
  obtain ⟨t, q, ht, hn, _, _⟩ := sys_draw hb hl 0 (by omega) (by omega)
  obtain ⟨x, hx, x0, x1⟩ := pick_ev hb hl q 91 (by omega) (by omega) (by omega) (by omega)
  obtain ⟨y, hy, y0, y1⟩ := pick_ev hb hl (q + 1) 91 (by omega) (by omega) (by omega) (by omega)
  obtain ⟨xs, h, h6⟩ := hex_draw hb hl (t := t) (by omega) (l := x) (m := y) ⟨x0, by omega⟩ ⟨y0, by omega⟩ 6 0 (by omega) (by omega) [] (q + 1 + 1) rfl (by omega) (by omega)
  exact ⟨t, xs, Ev.bind ht (Ev.bind hx (Ev.bind hy h)), by omega, h6⟩

end Go.Proofs.Ytiobhhcbdcbajaa.Pure
