/- Contracts of Go functions of the given program: each says, under its own hypotheses, what a call returns and leaves. Written by this claim's own program over the kit's print. -/
import Derived.Test.YtiobhhcbdcbajaaPx0
import Derived.Test.YtiobhhcbdcbajaaPx11
namespace Go.Proofs.Ytiobhhcbdcbajaa.P
open Go.RowKit Go.Proofs.YtiobhhcbdcbajaaW.PrintWords Go.Proofs.YtiobhhcbdcbajaaW.PrintLast Go.Proofs.YtiobhhcbdcbajaaW.PrintMore
attribute [local go_sem] max2_int min2_int max_two min_two max_three min_three max_four min_four   -- for this text's walks alone
set_option linter.unusedVariables false
set_option linter.unusedSimpArgs false

/-! ### impl_plane_closes: function 49 -/
def impl_plane_closes.f (k : Nat) (l0 : List Int) (l1 : List Int) : Option (Bool) := if (l1.length : Int) = 3 then (if (rd l1 0) = (rd l1 1) then (some true) else (if (rd l1 0) = (rd l1 2) then (some true) else (if (rd l1 1) = (rd l1 2) then (some true) else (impl_plane_three.f k l0 (rd l1 0) (rd l1 1) (rd l1 2))))) else (none)
theorem impl_plane_closes.mono : ∀ a0 a1 k, LeO (impl_plane_closes.f k a0 a1) (impl_plane_closes.f (k + 1) a0 a1) := by
  intro a0 a1 k
  unfold impl_plane_closes.f
  refine LeO.ite ?_ (LeO.refl _)
  refine LeO.ite (LeO.refl _) ?_
  refine LeO.ite (LeO.refl _) ?_
  exact LeO.ite (LeO.refl _) (impl_plane_three.mono _ _ _ _ _)
set_option maxHeartbeats 8000000 in
set_option maxRecDepth 100000 in
theorem impl_plane_closes.calls (k : Nat) (A0 : Option Addr) (c0 : Nat) (l0 : List Int) (A1 : Option Addr) (c1 : Nat) (l1 : List Int) (r : Bool) (w : World) (hr0 : Kd.C (Kd.int .i64) w A0 l0.length l0) (hc0 : l0.length ≤ c0) (hr1 : Kd.C (Kd.int .i64) w A1 l1.length l1) (hc1 : l1.length ≤ c1) (h : impl_plane_closes.f k l0 l1 = some r) :
    Calls Try.prog 49 #[.slice A0 l0.length c0, .slice A1 l1.length c1] w fun e w' => e = .returned (.bool r) ∧ Drawn0 w w' := by
  unfold impl_plane_closes.f at h
  have HR0 := Aside0.mk hr0
  have HR1 := Aside0.mk hr1
  have HC0 := Aside0.mk hc0
  have HC1 := Aside0.mk hc1
  clear hr0 hr1 hc0 hc1
  by_cases h3 : (l1.length : Int) = 3
  · rw [if_pos h3] at h
    have n3 : l1.length = 3 := by omega
    have N := Aside0.mk n3
    obtain ⟨ad, e1, _⟩ := Kd.at_int HR1.out 0 (Int.le_refl _) (by omega)
    subst e1
    rw [n3]
    clear h3 n3
    have AT : ∀ i : Nat, i < 3 → w.cell? (ad.add i) = some (.int .i64 (rd l1 (i : Int))) := fun i hi => by
      obtain ⟨ad', e1, hx⟩ := Kd.at_int HR1.out (i : Int) (by omega) (by have := N.out; omega)
      obtain rfl : ad = ad' := by injection e1
      exact hx
    have x0 : w.cell? ad = some (.int .i64 (rd l1 0)) := by have := AT 0 (by decide); rw [show ad.add 0 = ad by simp [Addr.add]] at this; exact this
    have x1 : w.cell? ⟨ad.block, ad.off + 1, none⟩ = some (.int .i64 (rd l1 1)) := by have := AT 1 (by decide); rw [show ad.add 1 = ⟨ad.block, ad.off + 1, none⟩ by simp [Addr.add]] at this; exact this
    have x2 : w.cell? ⟨ad.block, ad.off + 2, none⟩ = some (.int .i64 (rd l1 2)) := by have := AT 2 (by decide); rw [show ad.add 2 = ⟨ad.block, ad.off + 2, none⟩ by simp [Addr.add]] at this; exact this
    clear AT
    by_cases e01 : (rd l1 0) = (rd l1 1)
    · rw [if_pos e01] at h
      obtain rfl := Option.some.inj h
      have g0 : ((rd l1 0) == (rd l1 1)) = true := beq_iff_eq.mpr e01
      clear h e01
      go_enter Try.func49, Try.ntmps49
      go_wp2
      repeat (go_quiet (first | (fail)); try go_wp2)
      go_ret
      exact ⟨rfl, by repeat (first | exact Drawn0.refl _ | apply Drawn0.step)⟩
    · rw [if_neg e01] at h
      have g0 : ((rd l1 0) == (rd l1 1)) = false := beq_eq_false_iff_ne.mpr e01
      by_cases e02 : (rd l1 0) = (rd l1 2)
      · rw [if_pos e02] at h
        obtain rfl := Option.some.inj h
        have g0 : ((rd l1 0) == (rd l1 1)) = false := beq_eq_false_iff_ne.mpr e01
        have g1 : ((rd l1 0) == (rd l1 2)) = true := beq_iff_eq.mpr e02
        clear h e01 e02
        go_enter Try.func49, Try.ntmps49
        go_wp2
        repeat (go_quiet (first | (fail)); try go_wp2)
        go_ret
        exact ⟨rfl, by repeat (first | exact Drawn0.refl _ | apply Drawn0.step)⟩
      · rw [if_neg e02] at h
        by_cases e12 : (rd l1 1) = (rd l1 2)
        · rw [if_pos e12] at h
          obtain rfl := Option.some.inj h
          have g0 : ((rd l1 0) == (rd l1 1)) = false := beq_eq_false_iff_ne.mpr e01
          have g1 : ((rd l1 0) == (rd l1 2)) = false := beq_eq_false_iff_ne.mpr e02
          have g2 : ((rd l1 1) == (rd l1 2)) = true := beq_iff_eq.mpr e12
          clear h e01 e02 e12
          go_enter Try.func49, Try.ntmps49
          go_wp2
          repeat (go_quiet (first | (fail)); try go_wp2)
          go_ret
          exact ⟨rfl, by repeat (first | exact Drawn0.refl _ | apply Drawn0.step)⟩
        · rw [if_neg e12] at h
          have HT := Aside0.mk h
          have g0 : ((rd l1 0) == (rd l1 1)) = false := beq_eq_false_iff_ne.mpr e01
          have g1 : ((rd l1 0) == (rd l1 2)) = false := beq_eq_false_iff_ne.mpr e02
          have g2 : ((rd l1 1) == (rd l1 2)) = false := beq_eq_false_iff_ne.mpr e12
          clear h e01 e02 e12
          go_enter Try.func49, Try.ntmps49
          go_wp2_with (first | (go_at_call 56; (with_reducible refine (impl_plane_three.calls k A0 c0 l0 (rd l1 0) (rd l1 1) (rd l1 2) r _ ?side1 HC0.out HT.out).mono ?_); (case side1 => repeat (first | exact HR0.out | (with_reducible refine Kd.C_drewN ?_ _) | (with_reducible refine Kd.C_drew ?_))); rintro e w' ⟨rfl, ⟨nd, rfl⟩⟩; (try first | exact ⟨rfl, _, World.drewN_drewN _ _ _⟩ | exact ⟨rfl, _, Eq.trans (World.drewN_drewN _ _ _) (congrArg (World.drewN _) (Nat.add_assoc _ _ _))⟩)))
          repeat (go_quiet (first | (go_at_call 56; (with_reducible refine (impl_plane_three.calls k A0 c0 l0 (rd l1 0) (rd l1 1) (rd l1 2) r _ ?side1 HC0.out HT.out).mono ?_); (case side1 => repeat (first | exact HR0.out | (with_reducible refine Kd.C_drewN ?_ _) | (with_reducible refine Kd.C_drew ?_))); rintro e w' ⟨rfl, ⟨nd, rfl⟩⟩; (try first | exact ⟨rfl, _, World.drewN_drewN _ _ _⟩ | exact ⟨rfl, _, Eq.trans (World.drewN_drewN _ _ _) (congrArg (World.drewN _) (Nat.add_assoc _ _ _))⟩))); try go_wp2_with (first | (go_at_call 56; (with_reducible refine (impl_plane_three.calls k A0 c0 l0 (rd l1 0) (rd l1 1) (rd l1 2) r _ ?side1 HC0.out HT.out).mono ?_); (case side1 => repeat (first | exact HR0.out | (with_reducible refine Kd.C_drewN ?_ _) | (with_reducible refine Kd.C_drew ?_))); rintro e w' ⟨rfl, ⟨nd, rfl⟩⟩; (try first | exact ⟨rfl, _, World.drewN_drewN _ _ _⟩ | exact ⟨rfl, _, Eq.trans (World.drewN_drewN _ _ _) (congrArg (World.drewN _) (Nat.add_assoc _ _ _))⟩))))
          go_ret
          exact ⟨rfl, by repeat (first | exact Drawn0.refl _ | apply Drawn0.step)⟩
  · rw [if_neg h3] at h
    cases h

end Go.Proofs.Ytiobhhcbdcbajaa.P
