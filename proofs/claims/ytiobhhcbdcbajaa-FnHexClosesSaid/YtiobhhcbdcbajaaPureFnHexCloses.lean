/- Hexagons close or do not, in any order of their two lines. No conditions. -/
import Derived.Test.YtiobhhcbdcbajaaPx33
import Derived.Test.YtiobhhcbdcbajaaHexBoth
import Derived.Test.YtiobhhcbdcbajaaDrawHex
set_option linter.unusedVariables false
set_option linter.unusedSimpArgs false
namespace Go.Proofs.Ytiobhhcbdcbajaa.Pure
open Go.RowKit Go.Proofs.Ytiobhhcbdcbajaa.P Go.Proofs.Ytiobhhcbdcbajaa.Nine Go.Proofs.YtiobhhcbdcbajaaW.PrintWords Go.Proofs.YtiobhhcbdcbajaaW.PrintLast

theorem all6 {P : Int → Prop} (h0 : P 0) (h1 : P 1) (h2 : P 2) (h3 : P 3) (h4 : P 4) (h5 : P 5) : ∀ i : Int, 0 ≤ i → i < 6 → P i := fun i i0 i1 => by
  rcases (show i = 0 ∨ i = 1 ∨ i = 2 ∨ i = 3 ∨ i = 4 ∨ i = 5 by omega) with rfl | rfl | rfl | rfl | rfl | rfl
  · exact h0
  · exact h1
  · exact h2
  · exact h3
  · exact h4
  · exact h5
def turn6 (xs : List Int) : List Int := [rd xs 3, rd xs 4, rd xs 5, rd xs 0, rd xs 1, rd xs 2]
theorem hex_turn {m : Fin 9 → Fin 9 → Fin 9} {xs : List Int} (hp : HexP m xs) : HexP m (turn6 xs) := by
  have h6 := hp.1
  have D := hp.2.1
  have R : ∀ i : Int, 0 ≤ i → i < 6 → Rg (rd xs i) := fun i i0 i1 => (D i i0 (by omega)).1
  have N : ∀ i j : Int, 0 ≤ i → i < 6 → 0 ≤ j → j < 6 → i ≠ j → rd xs i ≠ rd xs j := fun i j i0 i1 j0 j1 hne => dif_at D i0 j0 (by omega) (by omega) hne
  have O := hp.2.2.2.2.2
  have e : ∀ i : Int, 0 ≤ i → i < 6 → rd (turn6 xs) i = rd xs (if i < 3 then i + 3 else i - 3) := all6 rfl rfl rfl rfl rfl rfl
  refine ⟨rfl, fun i i0 i1 => ?_, hp.2.2.2.1, hp.2.2.1, fun z => hp.2.2.2.2.1 z.symm, fun i i0 i1 => ?_⟩
  · have i1 : i < 6 := i1
    rw [e i i0 i1]
    refine ⟨R _ (by split <;> omega) (by split <;> omega), fun j j0 j1 => ?_⟩
    rw [e j j0 (by omega)]
    exact N _ _ (by split <;> omega) (by split <;> omega) (by split <;> omega) (by split <;> omega) (by split <;> split <;> omega)
  · rw [e i i0 i1]
    show rd xs _ ≠ meetI m (joinI m (rd xs 3) (rd xs 4)) (joinI m (rd xs 0) (rd xs 1))
    rw [meetI_comm]
    exact O _ (by split <;> omega) (by split <;> omega)
theorem cross_turn (m : Fin 9 → Fin 9 → Fin 9) (a b c d : Int) : crossI m d c b a = crossI m a b c d := by rw [crossI_left, crossI_right, crossI_swap]
theorem closes_turn (m : Fin 9 → Fin 9 → Fin 9) (xs ys : List Int) (e0 : rd ys 0 = rd xs 3) (e1 : rd ys 1 = rd xs 4) (e2 : rd ys 2 = rd xs 5) (e3 : rd ys 3 = rd xs 0) (e4 : rd ys 4 = rd xs 1) (e5 : rd ys 5 = rd xs 2) :
    closesI m (crossI m (rd ys 0) (rd ys 4) (rd ys 1) (rd ys 3)) (crossI m (rd ys 0) (rd ys 5) (rd ys 2) (rd ys 3)) (crossI m (rd ys 1) (rd ys 5) (rd ys 2) (rd ys 4)) = closesI m (crossI m (rd xs 0) (rd xs 4) (rd xs 1) (rd xs 3)) (crossI m (rd xs 0) (rd xs 5) (rd xs 2) (rd xs 3)) (crossI m (rd xs 1) (rd xs 5) (rd xs 2) (rd xs 4)) := by
  rw [e0, e1, e2, e3, e4, e5, cross_turn m (rd xs 0) (rd xs 4) (rd xs 1) (rd xs 3), cross_turn m (rd xs 0) (rd xs 5) (rd xs 2) (rd xs 3), cross_turn m (rd xs 1) (rd xs 5) (rd xs 2) (rd xs 4)]
theorem FnHexCloses_tail {t xs : List Int} (hn : (t.length : Int) ≤ 9223372036854775806) (h6 : xs.length = 6) : Ev (fun k => (impl_HexCloses.f k t xs).bind fun t454 => ((spec_HexCloses.f k t xs).bind fun t455 => (if (t454 != t455) = true then (laws_FnHexCloses.j0 k t xs t454 t455 true) else (laws_FnHexCloses.j0 k t xs t454 t455 (!t454))))) true := by
  obtain ⟨b, hs, hi, hb⟩ := hexCloses_both hn xs (by omega)
  refine Ev.bind hi (Ev.bind hs (Ev.neg (by cases b <;> decide) ?_))
  cases b with
  | false => exact Ev.step (fun k => laws_FnHexCloses.j0.eq_2 ..) (Ev.pos rfl (Ev.now _))
  | true =>
    obtain ⟨⟨h, hp⟩, hc⟩ := hb.mp rfl
    obtain ⟨c, _, hci, hcc⟩ := hexIn_both hn xs (by omega)
    have ec : c = true := hcc.mpr ⟨h, hp⟩
    subst ec
    obtain ⟨d, _, hd, hdd⟩ := hexCloses_both hn (turn6 xs) (by show (6 : Int) ≤ _; decide)
    have ed : d = true := hdd.mpr ⟨⟨h, hex_turn hp⟩, (closes_turn (mOf t) xs (turn6 xs) rfl rfl rfl rfl rfl rfl).trans hc⟩
    subst ed
    exact Ev.step (fun k => laws_FnHexCloses.j0.eq_2 ..) (Ev.neg (by decide) (Ev.pos (by omega) (Ev.pos (by omega) (Ev.pos (by omega) (Ev.pos (by omega) (Ev.pos (by omega) (Ev.pos (by omega) (Ev.bind hci (Ev.pos rfl (Ev.bind hd (Ev.now _)))))))))))
theorem FnHexCloses : laws_FnHexCloses.Pure := by
  intro l hl _ hb
  apply Ev.rounds
  unfold laws_FnHexCloses.f spec_DrawHexCloses.f spec_l91Hex.f
  refine of_draw2 (f := fun k x => (spec_l91System.f k x.1 x.2).bind fun bt172 => ((spec_l6Rd_pick.f k x.1 bt172.2 91).bind fun bt176 => ((spec_l6Rd_pick.f k x.1 bt176.2 91).bind fun bt178 => (spec_l91Hex.l0 k bt172.1 bt176.1 bt178.1 (([] : List Int)) 0 x.1 bt178.2)))) (c := fun z => some (z.1, z.2)) hl hb fun b hb' hl' => ?_
  obtain ⟨t, xs, h, hn, h6⟩ := six_draw hb' hl'
  exact ⟨(t, xs), (t, xs), h, rfl, FnHexCloses_tail hn h6⟩

end Go.Proofs.Ytiobhhcbdcbajaa.Pure
