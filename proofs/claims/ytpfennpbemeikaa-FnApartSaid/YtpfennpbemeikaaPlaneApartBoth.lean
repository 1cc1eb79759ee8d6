/- PlaneApart: the program and the reference tell the same. Conditions: the table's length is an int's. -/
import Derived.Test.YtpfennpbemeikaaPlaneApart
import Derived.Test.YtpfennpbemeikaaPx13
import Derived.Test.YtpfennpbemeikaaPx14
set_option linter.unusedVariables false
set_option linter.unusedSimpArgs false
namespace Go.Proofs.Ytpfennpbemeikaa.Pure
open Go.RowKit Go.Proofs.Ytpfennpbemeikaa.P Go.Proofs.Ytpfennpbemeikaa.Nine Go.Proofs.YtpfennpbemeikaaW.PrintWords Go.Proofs.YtpfennpbemeikaaW.PrintLast

theorem apart_both {l : List Int} (hl : (l.length : Int) ≤ 9223372036854775806) (xs : List Int) :
    ∃ b : Bool, Ev (fun k => spec_PlaneApart.f k l xs) b ∧ Ev (fun k => impl_PlaneApart.f k l xs) b ∧ (b = true ↔ sysI l = true ∧ (3 ≤ (xs.length : Int) ∧ (xs.length : Int) ≤ 20) ∧ Apart (mOf l) xs) := by
  unfold spec_PlaneApart.f impl_PlaneApart.f
  rw [isSys_some]
  cases hs : sysI l with
  | false => exact ⟨false, Ev.bind (sysIn_ev hl) (by rw [hs]; exact Ev.neg (by decide) (Ev.now _)), Ev.some' (Ev.neg (by decide) (Ev.now _)), by simp⟩
  | true =>
    by_cases h3 : 3 ≤ (xs.length : Int)
    · by_cases h20 : (xs.length : Int) ≤ 20
      · obtain ⟨b, hb, hbi⟩ := apart_impl (xs := xs) hs (by omega)
        obtain ⟨c, hc, hci⟩ := apart_spec (xs := xs) hs (by omega)
        obtain rfl : c = b := by rw [Bool.eq_iff_iff, hbi, hci]
        refine ⟨c, Ev.bind (sysIn_ev hl) (Ev.pos hs ?_), Ev.some' (Ev.pos rfl (Ev.pos h3 (Ev.pos h20 (Ev.bind hb (Ev.now _))))), by rw [hbi]; exact ⟨fun z => ⟨rfl, ⟨h3, h20⟩, z⟩, fun z => z.2.2⟩⟩
        rw [show spec_l6In.f (xs.length : Int) 3 20 = some true by unfold spec_l6In.f; rw [if_pos h3, decide_eq_true h20]]
        exact Ev.some' (Ev.pos rfl (Ev.bind hc (Ev.now _)))
      · refine ⟨false, Ev.bind (sysIn_ev hl) (Ev.pos hs ?_), Ev.some' (Ev.pos rfl (Ev.pos h3 (Ev.neg h20 (Ev.now _)))), ?_⟩
        · rw [show spec_l6In.f (xs.length : Int) 3 20 = some false by unfold spec_l6In.f; rw [if_pos h3, decide_eq_false h20]]
          exact Ev.some' (Ev.neg (by decide) (Ev.now _))
        · constructor
          · intro z; cases z
          · intro z; exact absurd z.2.1.2 h20
    · refine ⟨false, Ev.bind (sysIn_ev hl) (Ev.pos hs ?_), Ev.some' (Ev.pos rfl (Ev.neg h3 (Ev.now _))), ?_⟩
      · rw [show spec_l6In.f (xs.length : Int) 3 20 = some false by unfold spec_l6In.f; rw [if_neg h3]]
        exact Ev.some' (Ev.neg (by decide) (Ev.now _))
      · constructor
        · intro z; cases z
        · intro z; exact absurd z.2.1.1 h3

end Go.Proofs.Ytpfennpbemeikaa.Pure
