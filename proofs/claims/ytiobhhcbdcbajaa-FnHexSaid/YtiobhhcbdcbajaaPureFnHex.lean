/- Hexagons close over fields. No conditions. -/
import Derived.Test.YtiobhhcbdcbajaaPx31
import Derived.Test.YtiobhhcbdcbajaaHexBoth
import Derived.Test.YtiobhhcbdcbajaaDrawHex
set_option linter.unusedVariables false
set_option linter.unusedSimpArgs false
namespace Go.Proofs.Ytiobhhcbdcbajaa.Pure
open Go.RowKit Go.Proofs.Ytiobhhcbdcbajaa.P Go.Proofs.Ytiobhhcbdcbajaa.Nine Go.Proofs.YtiobhhcbdcbajaaW.PrintWords Go.Proofs.YtiobhhcbdcbajaaW.PrintLast

theorem field_of {t : List Int} (h : sysI t = true) : ∃ f : Bool, laws_field.f t = some f ∧ (f = true ↔ Fld (mOf t)) := by
  have hn := sysI_n h
  unfold laws_field.f impl_SystemBoth.f impl_SystemBrackets.f
  rw [h, Bool.true_and, Bool.true_and]
  refine ⟨all3 (bothI t) && all3 (brkI t), ?_, ?_⟩
  · cases all3 (bothI t) <;> rfl
  · rw [Bool.and_eq_true, both_iff hn, brk_iff hn]
    exact ⟨fun z => ⟨sysI_s h, z.1, z.2⟩, fun z => ⟨z.both, z.brk⟩⟩
theorem hex_of {m : Fin 9 → Fin 9 → Fin 9} {xs : List Int} (hp : HexP m xs) : Hex m (rd xs 0) (rd xs 1) (rd xs 2) (rd xs 3) (rd xs 4) (rd xs 5) := by
  have h6 := hp.1
  have D := hp.2.1
  have R : ∀ i : Int, 0 ≤ i → i < 6 → Rg (rd xs i) := fun i i0 i1 => (D i i0 (by omega)).1
  have N : ∀ i j : Int, 0 ≤ i → i < 6 → 0 ≤ j → j < 6 → i ≠ j → rd xs i ≠ rd xs j := fun i j i0 i1 j0 j1 hne => dif_at D i0 j0 (by omega) (by omega) hne
  have O := hp.2.2.2.2.2
  refine ⟨R 0 (by omega) (by omega), R 1 (by omega) (by omega), R 2 (by omega) (by omega), R 3 (by omega) (by omega), R 4 (by omega) (by omega), R 5 (by omega) (by omega), ?_, hp.2.2.1, hp.2.2.2.1, hp.2.2.2.2.1, ?_⟩
  · simp only [List.nodup_cons, List.mem_cons, List.not_mem_nil, or_false, not_or, not_false_eq_true, List.nodup_nil, and_true]
    exact ⟨⟨N 0 1 (by omega) (by omega) (by omega) (by omega) (by omega), N 0 2 (by omega) (by omega) (by omega) (by omega) (by omega), N 0 3 (by omega) (by omega) (by omega) (by omega) (by omega), N 0 4 (by omega) (by omega) (by omega) (by omega) (by omega), N 0 5 (by omega) (by omega) (by omega) (by omega) (by omega)⟩, ⟨N 1 2 (by omega) (by omega) (by omega) (by omega) (by omega), N 1 3 (by omega) (by omega) (by omega) (by omega) (by omega), N 1 4 (by omega) (by omega) (by omega) (by omega) (by omega), N 1 5 (by omega) (by omega) (by omega) (by omega) (by omega)⟩, ⟨N 2 3 (by omega) (by omega) (by omega) (by omega) (by omega), N 2 4 (by omega) (by omega) (by omega) (by omega) (by omega), N 2 5 (by omega) (by omega) (by omega) (by omega) (by omega)⟩, ⟨N 3 4 (by omega) (by omega) (by omega) (by omega) (by omega), N 3 5 (by omega) (by omega) (by omega) (by omega) (by omega)⟩, N 4 5 (by omega) (by omega) (by omega) (by omega) (by omega)⟩
  · simp only [List.mem_cons, List.not_mem_nil, or_false, not_or]
    exact ⟨(O 0 (by omega) (by omega)).symm, (O 1 (by omega) (by omega)).symm, (O 2 (by omega) (by omega)).symm, (O 3 (by omega) (by omega)).symm, (O 4 (by omega) (by omega)).symm, (O 5 (by omega) (by omega)).symm⟩
theorem FnHex_tail {t xs : List Int} (hn : (t.length : Int) ≤ 9223372036854775806) (h6 : xs.length = 6) : Ev (fun k => (impl_HexIn.f k t xs).bind fun t284 => ((spec_HexIn.f k t xs).bind fun t285 => (if (t284 != t285) = true then (laws_FnHex.j0 k t xs t284 t285 true) else (laws_FnHex.j0 k t xs t284 t285 (!t284))))) true := by
  obtain ⟨b, hs, hi, hb⟩ := hexIn_both hn xs (by omega)
  refine Ev.bind hi (Ev.bind hs (Ev.neg (by cases b <;> decide) ?_))
  cases b with
  | false => exact Ev.step (fun k => laws_FnHex.j0.eq_2 ..) (Ev.pos rfl (Ev.now _))
  | true =>
    obtain ⟨h, hp⟩ := hb.mp rfl
    obtain ⟨f, hf, hfi⟩ := field_of h
    refine Ev.step (fun k => laws_FnHex.j0.eq_2 ..) (Ev.neg (by decide) ?_)
    rw [hf]
    refine Ev.some' ?_
    cases f with
    | false => exact Ev.neg (by decide) (Ev.now _)
    | true =>
      obtain ⟨c, _, hc, hci⟩ := hexCloses_both hn xs (by omega)
      have ec : c = true := hci.mpr ⟨⟨h, hp⟩, (hfi.mp rfl).hex (hex_of hp)⟩
      subst ec
      exact Ev.pos rfl (Ev.bind hc (Ev.now _))
theorem FnHex : laws_FnHex.Pure := by
  intro l hl _ hb
  apply Ev.rounds
  unfold laws_FnHex.f spec_DrawHexIn.f spec_l91Hex.f
  refine of_draw2 (f := fun k x => (spec_l91System.f k x.1 x.2).bind fun bt172 => ((spec_l6Rd_pick.f k x.1 bt172.2 91).bind fun bt176 => ((spec_l6Rd_pick.f k x.1 bt176.2 91).bind fun bt178 => (spec_l91Hex.l0 k bt172.1 bt176.1 bt178.1 (([] : List Int)) 0 x.1 bt178.2)))) (c := fun z => some (z.1, z.2)) hl hb fun b hb' hl' => ?_
  obtain ⟨t, xs, h, hn, h6⟩ := six_draw hb' hl'
  exact ⟨(t, xs), (t, xs), h, rfl, FnHex_tail hn h6⟩

end Go.Proofs.Ytiobhhcbdcbajaa.Pure
