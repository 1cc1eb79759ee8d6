/- Centres have 0 and 1. No conditions. -/
import Derived.Test.YteioeojpomahgaaPx29
import Derived.Test.YteioeojpomahgaaSpecSys2
import Derived.Test.YteioeojpomahgaaEvMore
import Derived.Test.YteioeojpomahgaaDrawSys
import Derived.Test.YteioeojpomahgaaSliceSame
set_option linter.unusedVariables false
set_option linter.unusedSimpArgs false
namespace Go.Proofs.Yteioeojpomahgaa.Pure
open Go.RowKit Go.Proofs.Yteioeojpomahgaa.P Go.Proofs.Yteioeojpomahgaa.Nine Go.Proofs.YteioeojpomahgaaW.PrintWords Go.Proofs.YteioeojpomahgaaW.PrintLast

theorem FnCentre_asc (p : Int → Bool) {i : Int} (h0 : 1 ≤ i) (h1 : i < (e9.filter p).length) : ¬ rd (e9.filter p) i ≤ rd (e9.filter p) (i - 1) := by
  have hp : (e9.filter p).Pairwise (· < ·) := List.Pairwise.filter p (by decide : e9.Pairwise (· < ·))
  have := List.pairwise_iff_getElem.mp hp (i - 1).toNat i.toNat (by omega) (by omega) (by omega)
  unfold rd
  rw [List.getD_eq_getElem?_getD, List.getElem?_eq_getElem (show i.toNat < (e9.filter p).length by omega), List.getD_eq_getElem?_getD, List.getElem?_eq_getElem (show (i - 1).toNat < (e9.filter p).length by omega)]
  simp only [Option.getD_some]
  omega
theorem FnCentre_two (p : Int → Bool) (h0 : p 0 = true) (h1 : p 1 = true) : e9.filter p = 0 :: 1 :: ([2, 3, 4, 5, 6, 7, 8] : List Int).filter p := by
  unfold e9
  rw [List.filter_cons, List.filter_cons, if_pos h0, if_pos h1]
theorem FnCentre_rows {t : List Int} (h : sysI t = true) : Ev (fun k => laws_FnCentre.l0 k (e9.filter (cenI t)) 1) true := by
  obtain ⟨hN, S⟩ := sys_iff.mp h
  have h0 : cenI t 0 = true := (cen_iff hN 0).mpr S.cen_zero
  have h1 : cenI t 1 = true := (cen_iff hN 1).mpr S.cen_one
  have e := FnCentre_two (cenI t) h0 h1
  have hlen : (2 : Int) ≤ (e9.filter (cenI t)).length := by rw [e, List.length_cons, List.length_cons]; omega
  have hle := filter_len (cenI t) 9
  rw [show (9 : Int).toNat = 9 from rfl, e9_all] at hle
  refine loop_go (g := fun k i => laws_FnCentre.l0 k (e9.filter (cenI t)) i) (N := (e9.filter (cenI t)).length) (by omega) ?_ ?_
  · intro i i0 i1 hg
    refine Ev.step (fun k => laws_FnCentre.l0.eq_2 ..) ?_
    rw [w64 (n := i - 1) (by omega) (by omega), w1 (by omega) (by omega)]
    exact Ev.pos i1 (Ev.pos (by omega) (Ev.pos (by omega) (Ev.pos (by omega) (Ev.neg (FnCentre_asc _ i0 i1) hg))))
  · refine Ev.step (fun k => laws_FnCentre.l0.eq_2 ..) ?_
    refine Ev.neg (by omega) (Ev.pos hlen (Ev.pos (by omega) (Ev.pos (by rw [e]; rfl) (Ev.pos (by omega) ?_))))
    rw [show (rd (e9.filter (cenI t)) 1 == 1) = true by rw [e]; rfl]
    exact Ev.now _
theorem FnCentre : laws_FnCentre.Pure := by
  intro l hl _ hb
  apply Ev.rounds
  unfold laws_FnCentre.f spec_DrawSystemCentre.f
  refine of_draw (f := fun k x => (spec_l91System.f k x.1 x.2).bind fun y => some y.1) hl hb fun b hb' hl' => ?_
  obtain ⟨t, ht, hn⟩ := one_draw hb' hl'
  refine ⟨t, ht, ?_⟩
  have hle := filter_len (cenI t) 9
  rw [show (9 : Int).toNat = 9 from rfl, e9_all] at hle
  have hs := centre_ev hn
  unfold impl_SystemCentre.f
  cases h : sysI t with
  | false =>
    rw [h, if_neg (by decide)] at hs
    rw [if_neg (by decide)]
    refine Ev.some' (Ev.bind hs (Ev.neg (by decide) (Ev.bind (same_ev (by show (0 : Int) ≤ _; omega)) (Ev.pos rfl ?_))))
    exact Ev.step (fun k => laws_FnCentre.j0.eq_2 ..) (Ev.pos rfl (Ev.pos rfl (Ev.bind (same_ev (by show (0 : Int) ≤ _; omega)) (Ev.now _))))
  | true =>
    rw [h, if_pos rfl] at hs
    rw [if_pos rfl]
    refine Ev.some' (Ev.bind hs (Ev.neg Bool.false_ne_true (Ev.bind (same_ev (by show ((e9.filter (cenI t)).length : Int) ≤ _; omega)) (Ev.pos rfl ?_))))
    exact Ev.step (fun k => laws_FnCentre.j0.eq_2 ..) (Ev.neg Bool.false_ne_true (FnCentre_rows h))

end Go.Proofs.Yteioeojpomahgaa.Pure
