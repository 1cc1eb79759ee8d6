/- Points of which no three are on one line stay so in the other order. No conditions. -/
import Derived.Test.YtpfennpbemeikaaPx31
import Derived.Test.YtpfennpbemeikaaDrawPl
import Derived.Test.YtpfennpbemeikaaPlaneApartBoth
set_option linter.unusedVariables false
set_option linter.unusedSimpArgs false
namespace Go.Proofs.Ytpfennpbemeikaa.Pure
open Go.RowKit Go.Proofs.Ytpfennpbemeikaa.P Go.Proofs.Ytpfennpbemeikaa.Nine Go.Proofs.YtpfennpbemeikaaW.PrintWords Go.Proofs.YtpfennpbemeikaaW.PrintLast

theorem rd_rev {xs : List Int} {i : Int} (i0 : 0 ≤ i) (i1 : i < xs.length) : rd xs.reverse i = rd xs (xs.length - 1 - i) := by
  unfold rd
  rw [List.getD_eq_getElem?_getD, List.getD_eq_getElem?_getD, List.getElem?_reverse (by omega)]
  congr 2
  omega
theorem apart_three {m : Fin 9 → Fin 9 → Fin 9} (S : Nine.Sys m) {xs : List Int} (h : Apart m xs) {i j h' : Int} (h0 : 0 ≤ h') (hj : h' < j) (ji : j < i) (i1 : i < xs.length) : threeI m (rd xs h') (rd xs j) (rd xs i) = false := by
  cases e : threeI m (rd xs h') (rd xs j) (rd xs i) with
  | false => rfl
  | true =>
    have t := (S.three_join (h.1 h' h0 (by omega)).1 (h.1 j (by omega) (by omega)).1 (h.1 i (by omega) i1).1 (dif_ne h.1 h0 hj (by omega)).symm (dif_ne h.1 h0 (by omega) i1).symm (dif_ne h.1 (by omega) ji i1).symm e).2.1
    rw [h.2 i j h' h0 hj ji i1] at t
    cases t
theorem apart_rev {m : Fin 9 → Fin 9 → Fin 9} (S : Nine.Sys m) {xs : List Int} (h : Apart m xs) : Apart m xs.reverse := by
  refine ⟨fun i i0 i1 => ?_, fun i j h' h0 h1 h2 h3 => ?_⟩
  · rw [List.length_reverse] at i1
    rw [rd_rev i0 i1]
    refine ⟨(h.1 _ (by omega) (by omega)).1, fun j j0 j1 => ?_⟩
    rw [rd_rev j0 (by omega)]
    exact dif_ne h.1 (by omega) (by omega) (by omega)
  · rw [List.length_reverse] at h3
    rw [rd_rev (by omega) h3, rd_rev (by omega) (by omega), rd_rev h0 (by omega)]
    exact apart_three S h (by omega) (by omega) (by omega) (by omega)
theorem FnApart_rev {t xs ys : List Int} (hx : (xs.length : Int) ≤ 20) (s : Bool) (he : Ev (fun k => laws_FnApart.l0 k t xs xs.reverse (-1)) s) : Ev (fun k => laws_FnApart.l0 k t xs [] ((xs.length : Int) - 1)) s := by
  have key : ∀ n : Nat, n ≤ xs.length → Ev (fun k => laws_FnApart.l0 k t xs ((xs.drop n).reverse) ((n : Int) - 1)) s := by
    intro n
    induction n with
    | zero =>
      intro _
      exact he
    | succ n ih =>
      intro hn
      refine Ev.step (fun k => laws_FnApart.l0.eq_2 ..) ?_
      rw [w64 (n := ((n + 1 : Nat) : Int) - 1 - 1) (by omega) (by omega)]
      have e : (xs.drop (n + 1)).reverse ++ [rd xs (((n + 1 : Nat) : Int) - 1)] = (xs.drop n).reverse := by
        rw [List.drop_eq_getElem_cons (show n < xs.length by omega), List.reverse_cons]
        congr 2
        unfold rd
        rw [show (((n + 1 : Nat) : Int) - 1).toNat = n by omega, List.getD_eq_getElem?_getD, List.getElem?_eq_getElem (show n < xs.length by omega)]
        rfl
      have h := ih (by omega)
      rw [← e, show (n : Int) - 1 = ((n + 1 : Nat) : Int) - 1 - 1 by omega] at h
      exact Ev.pos (by omega) (Ev.pos (by omega) (Ev.pos (by omega) (Ev.pos (by rw [List.length_reverse, List.length_drop]; omega) h)))
  have := key xs.length (Nat.le_refl _)
  rw [List.drop_length] at this
  exact this
theorem FnApart_tail {t : List Int} (hn : (t.length : Int) ≤ 9223372036854775806) (xs : List Int) : Ev (fun k => (impl_PlaneApart.f k t xs).bind fun t656 => ((spec_PlaneApart.f k t xs).bind fun t657 => (if (t656 != t657) = true then (laws_FnApart.j0 k t xs t656 t657 true) else (laws_FnApart.j0 k t xs t656 t657 (!t656))))) true := by
  obtain ⟨b, hs, hi, hb⟩ := apart_both hn xs
  refine Ev.bind hi (Ev.bind hs (Ev.neg (by cases b <;> decide) ?_))
  cases b with
  | false => exact Ev.step (fun k => laws_FnApart.j0.eq_2 ..) (Ev.pos rfl (Ev.now _))
  | true =>
    obtain ⟨h, ⟨h3, h20⟩, hap⟩ := hb.mp rfl
    have S := sysI_s h
    refine Ev.step (fun k => laws_FnApart.j0.eq_2 ..) (Ev.neg (by decide) ?_)
    rw [w64 (n := (xs.length : Int) - 1) (by omega) (by omega)]
    refine FnApart_rev (ys := []) h20 _ ?_
    obtain ⟨c, _, hc, hc'⟩ := apart_both hn xs.reverse
    have ec : c = true := hc'.mpr ⟨h, ⟨by rw [List.length_reverse]; exact h3, by rw [List.length_reverse]; exact h20⟩, apart_rev S hap⟩
    subst ec
    obtain ⟨d, _, hd, hd'⟩ := three_both hn (rd xs 0) (rd xs 1) (rd xs 2)
    have ed : d = false := by
      cases d with
      | false => rfl
      | true =>
        have := (hd'.mp rfl).2.2
        rw [apart_three S hap (h' := 0) (j := 1) (i := 2) (by omega) (by omega) (by omega) (by omega)] at this
        cases this
    subst ed
    exact Ev.step (fun k => laws_FnApart.l0.eq_2 ..) (Ev.neg (by omega) (Ev.bind hc (Ev.pos rfl (Ev.pos (by omega) (Ev.pos (by omega) (Ev.pos (by omega) (Ev.bind hd (Ev.now _))))))))
theorem quad_draw {b : List Int} (hb : Bytes b) (hl : (b.length : Int) ≤ 9223372036854775807) (p : Int) (hp0 : 0 ≤ p) (hp : p ≤ 900) : ∃ xs q, Ev (fun k => spec_l91Quad.f k b p) (xs, q) ∧ xs.length = 4 ∧ p ≤ q ∧ q ≤ p + 12 := by
  obtain ⟨x0, q0, h0, _, _⟩ := point_draw hb hl p hp0 (by omega)
  obtain ⟨x1, q1, h1, _, _⟩ := point_draw hb hl q0 (by omega) (by omega)
  obtain ⟨x2, q2, h2, _, _⟩ := point_draw hb hl q1 (by omega) (by omega)
  obtain ⟨x3, q3, h3, _, _⟩ := point_draw hb hl q2 (by omega) (by omega)
  refine ⟨[x0, x1, x2, x3], q3, ?_, rfl, by omega, by omega⟩
  unfold spec_l91Quad.f
  refine Ev.step (fun k => spec_l91Quad.l0.eq_2 ..) (Ev.pos (by decide) (Ev.bind h0 (Ev.pos (by show (0 : Nat) < _; decide) ?_)))
  rw [show wrap64 ((0 : Int) + 1) = 1 by rw [w64 (by omega) (by omega)]; rfl]
  refine Ev.step (fun k => spec_l91Quad.l0.eq_2 ..) (Ev.pos (by decide) (Ev.bind h1 (Ev.pos (by show (1 : Nat) < _; decide) ?_)))
  rw [show wrap64 ((1 : Int) + 1) = 2 by rw [w64 (by omega) (by omega)]; rfl]
  refine Ev.step (fun k => spec_l91Quad.l0.eq_2 ..) (Ev.pos (by decide) (Ev.bind h2 (Ev.pos (by show (2 : Nat) < _; decide) ?_)))
  rw [show wrap64 ((2 : Int) + 1) = 3 by rw [w64 (by omega) (by omega)]; rfl]
  refine Ev.step (fun k => spec_l91Quad.l0.eq_2 ..) (Ev.pos (by decide) (Ev.bind h3 (Ev.pos (by show (3 : Nat) < _; decide) ?_)))
  rw [show wrap64 ((3 : Int) + 1) = 4 by rw [w64 (by omega) (by omega)]; rfl]
  exact Ev.step (fun k => spec_l91Quad.l0.eq_2 ..) (Ev.neg (by decide) (Ev.now _))
theorem FnApart : laws_FnApart.Pure := by
  intro l hl _ hb
  apply Ev.rounds
  unfold laws_FnApart.f spec_DrawPlaneApart.f
  refine of_draw (f := fun k x => (spec_l91System.f k x.1 x.2).bind fun bt637 => ((spec_l91Quad.f k x.1 bt637.2).bind fun bt641 => ((spec_l6Rd_pick.f k x.1 bt641.2 2).bind fun bt645 => (if 0 ≤ (wrap64 (3 + bt645.1)) then (if (wrap64 (3 + bt645.1)) ≤ (bt641.1.length : Int) then (some (bt637.1, (bt641.1.take ((wrap64 (3 + bt645.1)) : Int).toNat))) else (none)) else (none))))) hl hb fun b hb' hl' => ?_
  obtain ⟨t, q0, ht, hn, _, _⟩ := sys_draw hb' hl' 0 (by omega) (by omega)
  obtain ⟨xs, q1, hx, hx4, _, _⟩ := quad_draw hb' hl' q0 (by omega) (by omega)
  obtain ⟨c, hc, c0, c1⟩ := pick_ev hb' hl' q1 2 (by omega) (by omega) (by omega) (by omega)
  have hn' : (t.length : Int) ≤ 9223372036854775806 := by omega
  refine ⟨(t, xs.take (3 + c).toNat), Ev.bind ht (Ev.bind hx (Ev.bind hc ?_)), ?_⟩
  · rw [w64 (n := 3 + c) (by omega) (by omega)]
    exact Ev.pos (by omega) (Ev.pos (by show 3 + c ≤ (xs.length : Int); omega) (Ev.now _))
  · exact FnApart_tail hn' _

end Go.Proofs.Ytpfennpbemeikaa.Pure
