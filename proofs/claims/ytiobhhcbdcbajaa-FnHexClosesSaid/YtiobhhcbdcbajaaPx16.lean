/- Contracts of Go functions of the given program: each says, under its own hypotheses, what a call returns and leaves. Written by this claim's own program over the kit's print. -/
import Derived.Test.YtiobhhcbdcbajaaPx0
import Derived.Test.YtiobhhcbdcbajaaPx4
import Derived.Test.YtiobhhcbdcbajaaPx7
import Derived.Test.YtiobhhcbdcbajaaPx8
import Derived.Test.YtiobhhcbdcbajaaPx9
import Derived.Test.YtiobhhcbdcbajaaPx10
import Derived.Test.YtiobhhcbdcbajaaPx11
namespace Go.Proofs.Ytiobhhcbdcbajaa.P
open Go.RowKit Go.Proofs.YtiobhhcbdcbajaaW.PrintWords Go.Proofs.YtiobhhcbdcbajaaW.PrintLast Go.Proofs.YtiobhhcbdcbajaaW.PrintMore
attribute [local go_sem] max2_int min2_int max_two min_two max_three min_three max_four min_four   -- for this text's walks alone
set_option linter.unusedVariables false
set_option linter.unusedSimpArgs false

/-! ### impl_plane_isHex: function 41 -/
def impl_plane_isHex.f (k : Nat) (l0 : List Int) (l1 : List Int) : Option (Bool) := if (l1.length : Int) = 6 then ((impl_areDifferent.f k l1).bind fun d => (if d = true then ((impl_plane_three.f k l0 (rd l1 0) (rd l1 1) (rd l1 2)).bind fun a => (if a = true then ((impl_plane_three.f k l0 (rd l1 3) (rd l1 4) (rd l1 5)).bind fun b => (if b = true then ((impl_plane_join.f k l0 (rd l1 0) (rd l1 1)).bind fun u => (impl_plane_join.f k l0 (rd l1 3) (rd l1 4)).bind fun v => (if u = v then (some false) else ((impl_plane_meet.f k l0 u v).bind fun o => (slices_Contains_int_int.f k l1 o).bind fun c => some (!c)))) else (some false))) else (some false))) else (some false))) else (some false)
theorem impl_plane_isHex.mono : ∀ a0 a1 k, LeO (impl_plane_isHex.f k a0 a1) (impl_plane_isHex.f (k + 1) a0 a1) := by
  intro a0 a1 k
  unfold impl_plane_isHex.f
  refine LeO.ite ?_ (LeO.refl _)
  refine LeO.bind (impl_areDifferent.mono _ _) (fun _ => ?_)
  refine LeO.ite ?_ (LeO.refl _)
  refine LeO.bind (impl_plane_three.mono _ _ _ _ _) (fun _ => ?_)
  refine LeO.ite ?_ (LeO.refl _)
  refine LeO.bind (impl_plane_three.mono _ _ _ _ _) (fun _ => ?_)
  refine LeO.ite ?_ (LeO.refl _)
  refine LeO.bind (impl_plane_join.mono _ _ _ _) (fun _ => ?_)
  refine LeO.bind (impl_plane_join.mono _ _ _ _) (fun _ => ?_)
  refine LeO.ite (LeO.refl _) ?_
  refine LeO.bind (impl_plane_meet.mono _ _ _ _) (fun _ => ?_)
  exact LeO.bind (slices_Contains_int_int.mono _ _ _) (fun _ => LeO.refl _)
set_option maxHeartbeats 8000000 in
set_option maxRecDepth 100000 in
theorem impl_plane_isHex.calls (k : Nat) (A0 : Option Addr) (c0 : Nat) (l0 : List Int) (A1 : Option Addr) (c1 : Nat) (l1 : List Int) (r : Bool) (w : World) (hr0 : Kd.C (Kd.int .i64) w A0 l0.length l0) (hc0 : l0.length ≤ c0) (hr1 : Kd.C (Kd.int .i64) w A1 l1.length l1) (hc1 : l1.length ≤ c1) (h : impl_plane_isHex.f k l0 l1 = some r) :
    Calls Try.prog 41 #[.slice A0 l0.length c0, .slice A1 l1.length c1] w fun e w' => e = .returned (.bool r) ∧ Drawn0 w w' := by
  unfold impl_plane_isHex.f at h
  have HR0 := Aside0.mk hr0
  have HR1 := Aside0.mk hr1
  have HC0 := Aside0.mk hc0
  have HC1 := Aside0.mk hc1
  clear hr0 hr1 hc0 hc1
  by_cases h6 : (l1.length : Int) = 6
  · rw [if_pos h6] at h
    have n6 : l1.length = 6 := by omega
    have N := Aside0.mk n6
    obtain ⟨d, hd, h⟩ := Option.bind_eq_some_iff.mp h
    obtain ⟨ad, e1, _⟩ := Kd.at_int HR1.out 0 (Int.le_refl _) (by omega)
    subst e1
    have DC0 := fun W hw => impl_areDifferent.calls k (some ad) c1 l1 d W hw HC1.out hd
    rw [n6] at DC0 ⊢
    have HR1_ := HR1.out
    rw [n6] at HR1_
    clear h6 n6 hd
    have AT : ∀ i : Nat, i < 6 → w.cell? (ad.add i) = some (.int .i64 (rd l1 (i : Int))) := fun i hi => by
      obtain ⟨ad', e1, hx⟩ := Kd.at_int HR1.out (i : Int) (by omega) (by have := N.out; omega)
      obtain rfl : ad = ad' := by injection e1
      exact hx
    have x0 : w.cell? ad = some (.int .i64 (rd l1 0)) := by have := AT 0 (by decide); rw [show ad.add 0 = ad by simp [Addr.add]] at this; exact this
    have x1 : w.cell? ⟨ad.block, ad.off + 1, none⟩ = some (.int .i64 (rd l1 1)) := by have := AT 1 (by decide); rw [show ad.add 1 = ⟨ad.block, ad.off + 1, none⟩ by simp [Addr.add]] at this; exact this
    have x2 : w.cell? ⟨ad.block, ad.off + 2, none⟩ = some (.int .i64 (rd l1 2)) := by have := AT 2 (by decide); rw [show ad.add 2 = ⟨ad.block, ad.off + 2, none⟩ by simp [Addr.add]] at this; exact this
    have x3 : w.cell? ⟨ad.block, ad.off + 3, none⟩ = some (.int .i64 (rd l1 3)) := by have := AT 3 (by decide); rw [show ad.add 3 = ⟨ad.block, ad.off + 3, none⟩ by simp [Addr.add]] at this; exact this
    have x4 : w.cell? ⟨ad.block, ad.off + 4, none⟩ = some (.int .i64 (rd l1 4)) := by have := AT 4 (by decide); rw [show ad.add 4 = ⟨ad.block, ad.off + 4, none⟩ by simp [Addr.add]] at this; exact this
    have x5 : w.cell? ⟨ad.block, ad.off + 5, none⟩ = some (.int .i64 (rd l1 5)) := by have := AT 5 (by decide); rw [show ad.add 5 = ⟨ad.block, ad.off + 5, none⟩ by simp [Addr.add]] at this; exact this
    clear AT
    have DC := Aside0.mk DC0
    clear DC0
    have HR1 := Aside0.mk HR1_
    clear HR1_
    cases d with
    | false =>
      obtain rfl : false = r := by simpa using h
      clear h
      go_enter Try.func41, Try.ntmps41
      go_wp2
      repeat (go_quiet (first | (go_at_call 55; (with_reducible refine (DC.out _ ?side1).mono ?_); (case side1 => repeat (first | exact HR1.out | (with_reducible refine Kd.C_drewN ?_ _) | (with_reducible refine Kd.C_drew ?_))); rintro e w' ⟨rfl, ⟨nd, rfl⟩⟩; (try first | exact ⟨rfl, _, World.drewN_drewN _ _ _⟩ | exact ⟨rfl, _, Eq.trans (World.drewN_drewN _ _ _) (congrArg (World.drewN _) (Nat.add_assoc _ _ _))⟩))); try go_wp2)
      go_ret
      exact ⟨rfl, by repeat (first | exact Drawn0.refl _ | apply Drawn0.step)⟩
    | true =>
      replace h : ((impl_plane_three.f k l0 (rd l1 0) (rd l1 1) (rd l1 2)).bind fun a => (if a = true then ((impl_plane_three.f k l0 (rd l1 3) (rd l1 4) (rd l1 5)).bind fun b => (if b = true then ((impl_plane_join.f k l0 (rd l1 0) (rd l1 1)).bind fun u => (impl_plane_join.f k l0 (rd l1 3) (rd l1 4)).bind fun v => (if u = v then (some false) else ((impl_plane_meet.f k l0 u v).bind fun o => (slices_Contains_int_int.f k l1 o).bind fun c => some (!c)))) else (some false))) else (some false))) = some r := by simpa using h
      obtain ⟨a, ha, h⟩ := Option.bind_eq_some_iff.mp h
      have HA := Aside0.mk ha
      clear ha
      cases a with
      | false =>
        obtain rfl : false = r := by simpa using h
        clear h
        go_enter Try.func41, Try.ntmps41
        go_wp2
        repeat (go_quiet (first | (go_at_call 55; (with_reducible refine (DC.out _ ?side1).mono ?_); (case side1 => repeat (first | exact HR1.out | (with_reducible refine Kd.C_drewN ?_ _) | (with_reducible refine Kd.C_drew ?_))); rintro e w' ⟨rfl, ⟨nd, rfl⟩⟩; (try first | exact ⟨rfl, _, World.drewN_drewN _ _ _⟩ | exact ⟨rfl, _, Eq.trans (World.drewN_drewN _ _ _) (congrArg (World.drewN _) (Nat.add_assoc _ _ _))⟩)) | (go_at_call 56; (with_reducible refine (impl_plane_three.calls k A0 c0 l0 (rd l1 0) (rd l1 1) (rd l1 2) false _ ?side1 HC0.out HA.out).mono ?_); (case side1 => repeat (first | exact HR0.out | (with_reducible refine Kd.C_drewN ?_ _) | (with_reducible refine Kd.C_drew ?_))); rintro e w' ⟨rfl, ⟨nd, rfl⟩⟩; (try first | exact ⟨rfl, _, World.drewN_drewN _ _ _⟩ | exact ⟨rfl, _, Eq.trans (World.drewN_drewN _ _ _) (congrArg (World.drewN _) (Nat.add_assoc _ _ _))⟩))); try go_wp2)
        go_ret
        exact ⟨rfl, by repeat (first | exact Drawn0.refl _ | apply Drawn0.step)⟩
      | true =>
        replace h : ((impl_plane_three.f k l0 (rd l1 3) (rd l1 4) (rd l1 5)).bind fun b => (if b = true then ((impl_plane_join.f k l0 (rd l1 0) (rd l1 1)).bind fun u => (impl_plane_join.f k l0 (rd l1 3) (rd l1 4)).bind fun v => (if u = v then (some false) else ((impl_plane_meet.f k l0 u v).bind fun o => (slices_Contains_int_int.f k l1 o).bind fun c => some (!c)))) else (some false))) = some r := by simpa using h
        obtain ⟨b, hb, h⟩ := Option.bind_eq_some_iff.mp h
        have HB := Aside0.mk hb
        clear hb
        cases b with
        | false =>
          obtain rfl : false = r := by simpa using h
          clear h
          go_enter Try.func41, Try.ntmps41
          go_wp2
          repeat (go_quiet (first | (go_at_call 55; (with_reducible refine (DC.out _ ?side1).mono ?_); (case side1 => repeat (first | exact HR1.out | (with_reducible refine Kd.C_drewN ?_ _) | (with_reducible refine Kd.C_drew ?_))); rintro e w' ⟨rfl, ⟨nd, rfl⟩⟩; (try first | exact ⟨rfl, _, World.drewN_drewN _ _ _⟩ | exact ⟨rfl, _, Eq.trans (World.drewN_drewN _ _ _) (congrArg (World.drewN _) (Nat.add_assoc _ _ _))⟩)) | (go_at_call 56; (with_reducible refine (impl_plane_three.calls k A0 c0 l0 (rd l1 0) (rd l1 1) (rd l1 2) true _ ?side1 HC0.out HA.out).mono ?_); (case side1 => repeat (first | exact HR0.out | (with_reducible refine Kd.C_drewN ?_ _) | (with_reducible refine Kd.C_drew ?_))); rintro e w' ⟨rfl, ⟨nd, rfl⟩⟩; (try first | exact ⟨rfl, _, World.drewN_drewN _ _ _⟩ | exact ⟨rfl, _, Eq.trans (World.drewN_drewN _ _ _) (congrArg (World.drewN _) (Nat.add_assoc _ _ _))⟩)) | (go_at_call 56; (with_reducible refine (impl_plane_three.calls k A0 c0 l0 (rd l1 3) (rd l1 4) (rd l1 5) false _ ?side1 HC0.out HB.out).mono ?_); (case side1 => repeat (first | exact HR0.out | (with_reducible refine Kd.C_drewN ?_ _) | (with_reducible refine Kd.C_drew ?_))); rintro e w' ⟨rfl, ⟨nd, rfl⟩⟩; (try first | exact ⟨rfl, _, World.drewN_drewN _ _ _⟩ | exact ⟨rfl, _, Eq.trans (World.drewN_drewN _ _ _) (congrArg (World.drewN _) (Nat.add_assoc _ _ _))⟩))); try go_wp2)
          go_ret
          exact ⟨rfl, by repeat (first | exact Drawn0.refl _ | apply Drawn0.step)⟩
        | true =>
          replace h : ((impl_plane_join.f k l0 (rd l1 0) (rd l1 1)).bind fun u => (impl_plane_join.f k l0 (rd l1 3) (rd l1 4)).bind fun v => (if u = v then (some false) else ((impl_plane_meet.f k l0 u v).bind fun o => (slices_Contains_int_int.f k l1 o).bind fun c => some (!c)))) = some r := by simpa using h
          obtain ⟨u, hu, h⟩ := Option.bind_eq_some_iff.mp h
          obtain ⟨v, hv, h⟩ := Option.bind_eq_some_iff.mp h
          have HU := Aside0.mk hu
          have HV := Aside0.mk hv
          clear hu hv
          replace h : (if u = v then (some false) else ((impl_plane_meet.f k l0 u v).bind fun o => (slices_Contains_int_int.f k l1 o).bind fun c => some (!c))) = some r := h
          by_cases e : u = v
          · rw [if_pos e] at h
            obtain rfl := Option.some.inj h
            have f1 : (u != v) = false := bne_eq_false_iff_eq.mpr e
            clear h e
            go_enter Try.func41, Try.ntmps41
            go_wp2
            repeat (go_quiet (first | (go_at_call 55; (with_reducible refine (DC.out _ ?side1).mono ?_); (case side1 => repeat (first | exact HR1.out | (with_reducible refine Kd.C_drewN ?_ _) | (with_reducible refine Kd.C_drew ?_))); rintro e w' ⟨rfl, ⟨nd, rfl⟩⟩; (try first | exact ⟨rfl, _, World.drewN_drewN _ _ _⟩ | exact ⟨rfl, _, Eq.trans (World.drewN_drewN _ _ _) (congrArg (World.drewN _) (Nat.add_assoc _ _ _))⟩)) | (go_at_call 56; (with_reducible refine (impl_plane_three.calls k A0 c0 l0 (rd l1 0) (rd l1 1) (rd l1 2) true _ ?side1 HC0.out HA.out).mono ?_); (case side1 => repeat (first | exact HR0.out | (with_reducible refine Kd.C_drewN ?_ _) | (with_reducible refine Kd.C_drew ?_))); rintro e w' ⟨rfl, ⟨nd, rfl⟩⟩; (try first | exact ⟨rfl, _, World.drewN_drewN _ _ _⟩ | exact ⟨rfl, _, Eq.trans (World.drewN_drewN _ _ _) (congrArg (World.drewN _) (Nat.add_assoc _ _ _))⟩)) | (go_at_call 56; (with_reducible refine (impl_plane_three.calls k A0 c0 l0 (rd l1 3) (rd l1 4) (rd l1 5) true _ ?side1 HC0.out HB.out).mono ?_); (case side1 => repeat (first | exact HR0.out | (with_reducible refine Kd.C_drewN ?_ _) | (with_reducible refine Kd.C_drew ?_))); rintro e w' ⟨rfl, ⟨nd, rfl⟩⟩; (try first | exact ⟨rfl, _, World.drewN_drewN _ _ _⟩ | exact ⟨rfl, _, Eq.trans (World.drewN_drewN _ _ _) (congrArg (World.drewN _) (Nat.add_assoc _ _ _))⟩)) | (go_at_call 73; (with_reducible refine (impl_plane_join.calls k A0 c0 l0 (rd l1 0) (rd l1 1) u _ ?side1 HC0.out HU.out).mono ?_); (case side1 => repeat (first | exact HR0.out | (with_reducible refine Kd.C_drewN ?_ _) | (with_reducible refine Kd.C_drew ?_))); rintro e w' ⟨rfl, ⟨nd, rfl⟩⟩; (try first | exact ⟨rfl, _, World.drewN_drewN _ _ _⟩ | exact ⟨rfl, _, Eq.trans (World.drewN_drewN _ _ _) (congrArg (World.drewN _) (Nat.add_assoc _ _ _))⟩)) | (go_at_call 73; (with_reducible refine (impl_plane_join.calls k A0 c0 l0 (rd l1 3) (rd l1 4) v _ ?side1 HC0.out HV.out).mono ?_); (case side1 => repeat (first | exact HR0.out | (with_reducible refine Kd.C_drewN ?_ _) | (with_reducible refine Kd.C_drew ?_))); rintro e w' ⟨rfl, ⟨nd, rfl⟩⟩; (try first | exact ⟨rfl, _, World.drewN_drewN _ _ _⟩ | exact ⟨rfl, _, Eq.trans (World.drewN_drewN _ _ _) (congrArg (World.drewN _) (Nat.add_assoc _ _ _))⟩))); try go_wp2)
            go_ret
            exact ⟨rfl, by repeat (first | exact Drawn0.refl _ | apply Drawn0.step)⟩
          · rw [if_neg e] at h
            have f1 : (u != v) = true := bne_iff_ne.mpr e
            clear e
            obtain ⟨o, ho, h⟩ := Option.bind_eq_some_iff.mp h
            obtain ⟨c, hc, h⟩ := Option.bind_eq_some_iff.mp h
            have HO := Aside0.mk ho
            obtain rfl := Option.some.inj h
            have CC0 := fun W hw => slices_Contains_int_int.calls k (some ad) c1 l1 o c W hw HC1.out hc
            rw [N.out] at CC0
            have CC := Aside0.mk CC0
            clear ho hc h CC0
            go_enter Try.func41, Try.ntmps41
            go_wp2_with (first | (go_at_call 75; (with_reducible refine (impl_plane_meet.calls k A0 c0 l0 u v o _ ?side1 HC0.out HO.out).mono ?_); (case side1 => repeat (first | exact HR0.out | (with_reducible refine Kd.C_drewN ?_ _) | (with_reducible refine Kd.C_drew ?_))); rintro e w' ⟨rfl, ⟨nd, rfl⟩⟩; (try first | exact ⟨rfl, _, World.drewN_drewN _ _ _⟩ | exact ⟨rfl, _, Eq.trans (World.drewN_drewN _ _ _) (congrArg (World.drewN _) (Nat.add_assoc _ _ _))⟩)) | (go_at_call 74; (with_reducible refine (CC.out _ ?side1).mono ?_); (case side1 => repeat (first | exact HR1.out | (with_reducible refine Kd.C_drewN ?_ _) | (with_reducible refine Kd.C_drew ?_))); rintro e w' ⟨rfl, ⟨nd, rfl⟩⟩; (try first | exact ⟨rfl, _, World.drewN_drewN _ _ _⟩ | exact ⟨rfl, _, Eq.trans (World.drewN_drewN _ _ _) (congrArg (World.drewN _) (Nat.add_assoc _ _ _))⟩)))
            repeat (go_quiet (first | (go_at_call 55; (with_reducible refine (DC.out _ ?side1).mono ?_); (case side1 => repeat (first | exact HR1.out | (with_reducible refine Kd.C_drewN ?_ _) | (with_reducible refine Kd.C_drew ?_))); rintro e w' ⟨rfl, ⟨nd, rfl⟩⟩; (try first | exact ⟨rfl, _, World.drewN_drewN _ _ _⟩ | exact ⟨rfl, _, Eq.trans (World.drewN_drewN _ _ _) (congrArg (World.drewN _) (Nat.add_assoc _ _ _))⟩)) | (go_at_call 56; (with_reducible refine (impl_plane_three.calls k A0 c0 l0 (rd l1 0) (rd l1 1) (rd l1 2) true _ ?side1 HC0.out HA.out).mono ?_); (case side1 => repeat (first | exact HR0.out | (with_reducible refine Kd.C_drewN ?_ _) | (with_reducible refine Kd.C_drew ?_))); rintro e w' ⟨rfl, ⟨nd, rfl⟩⟩; (try first | exact ⟨rfl, _, World.drewN_drewN _ _ _⟩ | exact ⟨rfl, _, Eq.trans (World.drewN_drewN _ _ _) (congrArg (World.drewN _) (Nat.add_assoc _ _ _))⟩)) | (go_at_call 56; (with_reducible refine (impl_plane_three.calls k A0 c0 l0 (rd l1 3) (rd l1 4) (rd l1 5) true _ ?side1 HC0.out HB.out).mono ?_); (case side1 => repeat (first | exact HR0.out | (with_reducible refine Kd.C_drewN ?_ _) | (with_reducible refine Kd.C_drew ?_))); rintro e w' ⟨rfl, ⟨nd, rfl⟩⟩; (try first | exact ⟨rfl, _, World.drewN_drewN _ _ _⟩ | exact ⟨rfl, _, Eq.trans (World.drewN_drewN _ _ _) (congrArg (World.drewN _) (Nat.add_assoc _ _ _))⟩)) | (go_at_call 73; (with_reducible refine (impl_plane_join.calls k A0 c0 l0 (rd l1 0) (rd l1 1) u _ ?side1 HC0.out HU.out).mono ?_); (case side1 => repeat (first | exact HR0.out | (with_reducible refine Kd.C_drewN ?_ _) | (with_reducible refine Kd.C_drew ?_))); rintro e w' ⟨rfl, ⟨nd, rfl⟩⟩; (try first | exact ⟨rfl, _, World.drewN_drewN _ _ _⟩ | exact ⟨rfl, _, Eq.trans (World.drewN_drewN _ _ _) (congrArg (World.drewN _) (Nat.add_assoc _ _ _))⟩)) | (go_at_call 73; (with_reducible refine (impl_plane_join.calls k A0 c0 l0 (rd l1 3) (rd l1 4) v _ ?side1 HC0.out HV.out).mono ?_); (case side1 => repeat (first | exact HR0.out | (with_reducible refine Kd.C_drewN ?_ _) | (with_reducible refine Kd.C_drew ?_))); rintro e w' ⟨rfl, ⟨nd, rfl⟩⟩; (try first | exact ⟨rfl, _, World.drewN_drewN _ _ _⟩ | exact ⟨rfl, _, Eq.trans (World.drewN_drewN _ _ _) (congrArg (World.drewN _) (Nat.add_assoc _ _ _))⟩)) | (go_at_call 75; (with_reducible refine (impl_plane_meet.calls k A0 c0 l0 u v o _ ?side1 HC0.out HO.out).mono ?_); (case side1 => repeat (first | exact HR0.out | (with_reducible refine Kd.C_drewN ?_ _) | (with_reducible refine Kd.C_drew ?_))); rintro e w' ⟨rfl, ⟨nd, rfl⟩⟩; (try first | exact ⟨rfl, _, World.drewN_drewN _ _ _⟩ | exact ⟨rfl, _, Eq.trans (World.drewN_drewN _ _ _) (congrArg (World.drewN _) (Nat.add_assoc _ _ _))⟩)) | (go_at_call 74; (with_reducible refine (CC.out _ ?side1).mono ?_); (case side1 => repeat (first | exact HR1.out | (with_reducible refine Kd.C_drewN ?_ _) | (with_reducible refine Kd.C_drew ?_))); rintro e w' ⟨rfl, ⟨nd, rfl⟩⟩; (try first | exact ⟨rfl, _, World.drewN_drewN _ _ _⟩ | exact ⟨rfl, _, Eq.trans (World.drewN_drewN _ _ _) (congrArg (World.drewN _) (Nat.add_assoc _ _ _))⟩))); try go_wp2_with (first | (go_at_call 75; (with_reducible refine (impl_plane_meet.calls k A0 c0 l0 u v o _ ?side1 HC0.out HO.out).mono ?_); (case side1 => repeat (first | exact HR0.out | (with_reducible refine Kd.C_drewN ?_ _) | (with_reducible refine Kd.C_drew ?_))); rintro e w' ⟨rfl, ⟨nd, rfl⟩⟩; (try first | exact ⟨rfl, _, World.drewN_drewN _ _ _⟩ | exact ⟨rfl, _, Eq.trans (World.drewN_drewN _ _ _) (congrArg (World.drewN _) (Nat.add_assoc _ _ _))⟩)) | (go_at_call 74; (with_reducible refine (CC.out _ ?side1).mono ?_); (case side1 => repeat (first | exact HR1.out | (with_reducible refine Kd.C_drewN ?_ _) | (with_reducible refine Kd.C_drew ?_))); rintro e w' ⟨rfl, ⟨nd, rfl⟩⟩; (try first | exact ⟨rfl, _, World.drewN_drewN _ _ _⟩ | exact ⟨rfl, _, Eq.trans (World.drewN_drewN _ _ _) (congrArg (World.drewN _) (Nat.add_assoc _ _ _))⟩))))
            go_ret
            exact ⟨rfl, by repeat (first | exact Drawn0.refl _ | apply Drawn0.step)⟩
  · rw [if_neg h6] at h
    have h6b : ((l1.length : Int) != 6) = true := bne_iff_ne.mpr h6
    obtain rfl := Option.some.inj h
    clear h6 h
    go_enter Try.func41, Try.ntmps41
    go_wp2
    repeat (go_quiet (first | (fail)); try go_wp2)
    go_ret
    exact ⟨rfl, by repeat (first | exact Drawn0.refl _ | apply Drawn0.step)⟩

/-! ### impl_HexIn: function 15 -/
def impl_HexIn.f (k : Nat) (l0 : List Int) (l1 : List Int) : Option (Bool) := (impl_isSystem.f l0).bind fun t221 => (if t221 = true then ((impl_plane_isHex.f k l0 l1).bind fun t222 => (some t222)) else (some false))
theorem impl_HexIn.mono : ∀ a0 a1 k, LeO (impl_HexIn.f k a0 a1) (impl_HexIn.f (k + 1) a0 a1) := by
  intro a0 a1 k
  unfold impl_HexIn.f
  repeat' first
      | (with_reducible exact impl_plane_isHex.mono _ _ _)
      | (with_reducible exact LeO.refl _)
      | (with_reducible exact LeO.none _)
      | (with_reducible refine LeO.ite ?_ ?_)
      | (with_reducible refine LeO.bind ?_ (fun _ => ?_))
      | exact impl_plane_isHex.mono _ _ _
      | exact LeO.none _
      | refine LeO.ite ?_ ?_
      | refine LeO.bind ?_ (fun _ => ?_)
set_option maxHeartbeats 8000000 in
set_option maxRecDepth 100000 in
theorem impl_HexIn.calls (k : Nat) (A0 : Option Addr) (c0 : Nat) (l0 : List Int) (A1 : Option Addr) (c1 : Nat) (l1 : List Int) (r : Bool) (w : World) (hr0 : Kd.C (Kd.int .i64) w A0 l0.length l0) (hc0 : l0.length ≤ c0) (hr1 : Kd.C (Kd.int .i64) w A1 l1.length l1) (hc1 : l1.length ≤ c1) (h : impl_HexIn.f k l0 l1 = some r) :
    Calls Try.prog 15 #[.slice A0 l0.length c0, .slice A1 l1.length c1] w fun e w' => e = .returned (.bool r) ∧ Below w.heap.size w w' := by
  have HR0 := Aside0.mk hr0
  have HC0 := Aside0.mk hc0
  clear hr0 hc0
  have HR1 := Aside0.mk hr1
  have HC1 := Aside0.mk hc1
  clear hr1 hc1
  have HB := Aside0.mk (Below.refl w.heap.size w)
  have H : ((impl_isSystem.f l0).bind fun t221 => (if t221 = true then ((impl_plane_isHex.f k l0 l1).bind fun t222 => (some t222)) else (some false))) = some r := h
  clear h
  replace H := Option.bind_eq_some_iff.mp H
  obtain ⟨t221, A30, H⟩ := H
  replace H : (if t221 = true then ((impl_plane_isHex.f k l0 l1).bind fun t222 => (some t222)) else (some false)) = some r := H
  have A3 := Aside0.mk A30
  clear A30
  by_cases c4 : t221 = true
  · subst c4
    have H1 : ((impl_plane_isHex.f k l0 l1).bind fun t222 => (some t222)) = some r := by rw [if_pos rfl] at H; exact H
    clear H
    have H := H1
    clear H1
    replace H := Option.bind_eq_some_iff.mp H
    obtain ⟨t222, A50, H⟩ := H
    replace H : (some t222) = some r := H
    have A5 := Aside0.mk A50
    clear A50
    obtain rfl := Option.some.inj H
    go_enter Try.func15, Try.ntmps15
    go_wp2_with (first | ((with_reducible refine gate_callee (f := 40) rfl ?_); refine goesL_ (some 6) rfl rfl Try.func40 (by kernel_rfl) rfl #[.slice A0 l0.length c0] rfl (by (try simp only [List.map_toArray, List.map_cons, List.map_nil]); first | done | rfl | (simp only [List.length_drop, List.length_take]; rfl)) ?_; (with_reducible refine (impl_isSystem.calls _ _ l0 true _ ?side1 ?side2 A3.out).mono ?_); (case side1 => repeat (first | exact HR0.out | (with_reducible refine Kd.C_alloc ?_ _) | (with_reducible refine Kd.C_drewN ?_ _) | (with_reducible refine Kd.C_drew ?_))); (case side2 => exact HC0.out); rintro e w6 ⟨rfl, hb⟩; refine ⟨_, rfl, ?_⟩; have n0_ := Aside0.mk (below_step (by repeat (first | (with_reducible first | exact HB.out | apply below_alloc | apply pw_below_drewN | apply below_drew1) | exact HB.out)) hb); clear HB; have HB := n0_; clear n0_; (try clear hb); (try clear hb2); (try clear hk); (try clear hi)) | (go_at_call 41; (with_reducible refine (impl_plane_isHex.calls k _ _ l0 _ _ l1 t222 _ ?side1 ?side2 ?side3 ?side4 A5.out).mono ?_); (case side1 => repeat (first | exact (Kd.C_below HR0.out HB.out) | (with_reducible refine Kd.C_alloc ?_ _) | (with_reducible refine Kd.C_drewN ?_ _) | (with_reducible refine Kd.C_drew ?_))); (case side2 => exact HC0.out); (case side3 => repeat (first | exact (Kd.C_below HR1.out HB.out) | (with_reducible refine Kd.C_alloc ?_ _) | (with_reducible refine Kd.C_drewN ?_ _) | (with_reducible refine Kd.C_drew ?_))); (case side4 => exact HC1.out); rintro e w' ⟨rfl, ⟨nd, rfl⟩⟩))
    go_ret
    exact ⟨by first | rfl | (simp [errW_none, errW_some] <;> rfl) | (simp [*, errW_none, errW_some] <;> rfl), by repeat (first | (with_reducible first | exact HB.out | apply below_alloc | apply pw_below_drewN | apply below_drew1) | exact HB.out)⟩
  · replace c4 := Bool.eq_false_iff.mpr c4
    subst c4
    have H1 : (some false) = some r := by rw [if_neg (show ¬ (false = true) by decide)] at H; exact H
    clear H
    have H := H1
    clear H1
    obtain rfl := Option.some.inj H
    go_enter Try.func15, Try.ntmps15
    go_wp2_with (first | ((with_reducible refine gate_callee (f := 40) rfl ?_); refine goesL_ (some 6) rfl rfl Try.func40 (by kernel_rfl) rfl #[.slice A0 l0.length c0] rfl (by (try simp only [List.map_toArray, List.map_cons, List.map_nil]); first | done | rfl | (simp only [List.length_drop, List.length_take]; rfl)) ?_; (with_reducible refine (impl_isSystem.calls _ _ l0 false _ ?side1 ?side2 A3.out).mono ?_); (case side1 => repeat (first | exact HR0.out | (with_reducible refine Kd.C_alloc ?_ _) | (with_reducible refine Kd.C_drewN ?_ _) | (with_reducible refine Kd.C_drew ?_))); (case side2 => exact HC0.out); rintro e w7 ⟨rfl, hb⟩; refine ⟨_, rfl, ?_⟩; have n0_ := Aside0.mk (below_step (by repeat (first | (with_reducible first | exact HB.out | apply below_alloc | apply pw_below_drewN | apply below_drew1) | exact HB.out)) hb); clear HB; have HB := n0_; clear n0_; (try clear hb); (try clear hb2); (try clear hk); (try clear hi)))
    go_ret
    exact ⟨by first | rfl | (simp [errW_none, errW_some] <;> rfl) | (simp [*, errW_none, errW_some] <;> rfl), by repeat (first | (with_reducible first | exact HB.out | apply below_alloc | apply pw_below_drewN | apply below_drew1) | exact HB.out)⟩

/-! ### impl_plane_isTwin: function 58 -/
def impl_plane_isTwin.l0 : Nat → List Int → List Int → List Int → Int → Option (Bool)
  | 0, _, _, _, _ => none
  | k + 1, x0, x1, x2, x5 => if x5 ≤ 3 then ((impl_plane_join.f k x0 (rd x1 0) (rd x1 x5)).bind fun l => (impl_plane_on.f x0 (rd x1 (x5 + 3)) l).bind fun o => (if o = true then ((slices_Contains_int_int.f k x2 l).bind fun c => (if c = true then (some false) else (impl_plane_isTwin.l0 k x0 x1 (x2 ++ [l]) (x5 + 1)))) else (some false))) else (some true)
def impl_plane_isTwin.f (k : Nat) (l0 : List Int) (l1 : List Int) : Option (Bool) := if (l1.length : Int) = 7 then ((impl_areDifferent.f k l1).bind fun d => (if d = true then ((impl_plane_three.f k l0 (rd l1 1) (rd l1 2) (rd l1 3)).bind fun a => (if a = true then (some false) else ((impl_plane_three.f k l0 (rd l1 4) (rd l1 5) (rd l1 6)).bind fun b => (if b = true then (some false) else (impl_plane_isTwin.l0 k l0 l1 [] 1))))) else (some false))) else (some false)
theorem impl_plane_isTwin.mono_l : ∀ k, (∀ y0 y1 y2 y3, LeO (impl_plane_isTwin.l0 k y0 y1 y2 y3) (impl_plane_isTwin.l0 (k + 1) y0 y1 y2 y3))
  | 0 => fun _ _ _ _ r h => by simp [impl_plane_isTwin.l0] at h
  | k + 1 => by
    have ih := impl_plane_isTwin.mono_l k
    intro y0 y1 y2 y3
    simp only [impl_plane_isTwin.l0]
    refine LeO.ite ?_ (LeO.refl _)
    refine LeO.bind (impl_plane_join.mono _ _ _ _) (fun _ => ?_)
    refine LeO.bind (LeO.refl _) (fun _ => ?_)
    refine LeO.ite ?_ (LeO.refl _)
    refine LeO.bind (slices_Contains_int_int.mono _ _ _) (fun _ => ?_)
    exact LeO.ite (LeO.refl _) (ih _ _ _ _)
theorem impl_plane_isTwin.mono : ∀ a0 a1 k, LeO (impl_plane_isTwin.f k a0 a1) (impl_plane_isTwin.f (k + 1) a0 a1) := by
  intro a0 a1 k
  unfold impl_plane_isTwin.f
  refine LeO.ite ?_ (LeO.refl _)
  refine LeO.bind (impl_areDifferent.mono _ _) (fun _ => ?_)
  refine LeO.ite ?_ (LeO.refl _)
  refine LeO.bind (impl_plane_three.mono _ _ _ _ _) (fun _ => ?_)
  refine LeO.ite (LeO.refl _) ?_
  refine LeO.bind (impl_plane_three.mono _ _ _ _ _) (fun _ => ?_)
  exact LeO.ite (LeO.refl _) (impl_plane_isTwin.mono_l k _ _ _ _)
theorem info_isTwin : (Try.prog.info? 3).map (fun i => (i.zero, i.size, i.bytes)) = some (some (.int .i64 0), 1, 8) := by kernel_rfl
set_option maxHeartbeats 8000000 in
set_option maxRecDepth 100000 in
theorem impl_plane_isTwin.calls (k : Nat) (A0 : Option Addr) (c0 : Nat) (l0 : List Int) (A1 : Option Addr) (c1 : Nat) (l1 : List Int) (r : Bool) (w : World) (hr0 : Kd.C (Kd.int .i64) w A0 l0.length l0) (hc0 : l0.length ≤ c0) (hr1 : Kd.C (Kd.int .i64) w A1 l1.length l1) (hc1 : l1.length ≤ c1) (h : impl_plane_isTwin.f k l0 l1 = some r) :
    Calls Try.prog 58 #[.slice A0 l0.length c0, .slice A1 l1.length c1] w fun e w' => e = .returned (.bool r) ∧ Below w.heap.size w w' := by
  unfold impl_plane_isTwin.f at h
  have HR0 := Aside0.mk hr0
  have HR1 := Aside0.mk hr1
  have HC0 := Aside0.mk hc0
  have HC1 := Aside0.mk hc1
  clear hr0 hr1 hc0 hc1
  by_cases h7 : (l1.length : Int) = 7
  · rw [if_pos h7] at h
    have n7 : l1.length = 7 := by omega
    have N := Aside0.mk n7
    obtain ⟨d, hd, h⟩ := Option.bind_eq_some_iff.mp h
    obtain ⟨ad, e1, _⟩ := Kd.at_int HR1.out 0 (Int.le_refl _) (by omega)
    subst e1
    have HAT := Aside0.mk (show ∀ i : Int, 0 ≤ i → i < 7 → w.cell? (ad.add i.toNat) = some (.int .i64 (rd l1 i)) from fun i i0 i1 => by
      obtain ⟨ad', e1, hx⟩ := Kd.at_int HR1.out i i0 (by omega)
      obtain rfl : ad = ad' := by injection e1
      exact hx)
    have DC0 := fun W hw => impl_areDifferent.calls k (some ad) c1 l1 d W hw HC1.out hd
    rw [n7] at DC0 ⊢
    have HR1_ := HR1.out
    rw [n7] at HR1_
    clear h7 n7 hd
    have AT : ∀ i : Nat, i < 7 → w.cell? (ad.add i) = some (.int .i64 (rd l1 (i : Int))) := fun i hi => by
      obtain ⟨ad', e1, hx⟩ := Kd.at_int HR1.out (i : Int) (by omega) (by have := N.out; omega)
      obtain rfl : ad = ad' := by injection e1
      exact hx
    have x0 : w.cell? ad = some (.int .i64 (rd l1 0)) := by have := AT 0 (by decide); rw [show ad.add 0 = ad by simp [Addr.add]] at this; exact this
    have x1 : w.cell? ⟨ad.block, ad.off + 1, none⟩ = some (.int .i64 (rd l1 1)) := by have := AT 1 (by decide); rw [show ad.add 1 = ⟨ad.block, ad.off + 1, none⟩ by simp [Addr.add]] at this; exact this
    have x2 : w.cell? ⟨ad.block, ad.off + 2, none⟩ = some (.int .i64 (rd l1 2)) := by have := AT 2 (by decide); rw [show ad.add 2 = ⟨ad.block, ad.off + 2, none⟩ by simp [Addr.add]] at this; exact this
    have x3 : w.cell? ⟨ad.block, ad.off + 3, none⟩ = some (.int .i64 (rd l1 3)) := by have := AT 3 (by decide); rw [show ad.add 3 = ⟨ad.block, ad.off + 3, none⟩ by simp [Addr.add]] at this; exact this
    have x4 : w.cell? ⟨ad.block, ad.off + 4, none⟩ = some (.int .i64 (rd l1 4)) := by have := AT 4 (by decide); rw [show ad.add 4 = ⟨ad.block, ad.off + 4, none⟩ by simp [Addr.add]] at this; exact this
    have x5 : w.cell? ⟨ad.block, ad.off + 5, none⟩ = some (.int .i64 (rd l1 5)) := by have := AT 5 (by decide); rw [show ad.add 5 = ⟨ad.block, ad.off + 5, none⟩ by simp [Addr.add]] at this; exact this
    have x6 : w.cell? ⟨ad.block, ad.off + 6, none⟩ = some (.int .i64 (rd l1 6)) := by have := AT 6 (by decide); rw [show ad.add 6 = ⟨ad.block, ad.off + 6, none⟩ by simp [Addr.add]] at this; exact this
    clear AT
    have DC := Aside0.mk DC0
    clear DC0
    have HR1 := Aside0.mk HR1_
    clear HR1_
    cases d with
    | false =>
      obtain rfl : false = r := by simpa using h
      clear h
      go_enter Try.func58, Try.ntmps58
      go_wp2
      repeat (go_quiet (first | (go_at_call 55; (with_reducible refine (DC.out _ ?side1).mono ?_); (case side1 => repeat (first | exact HR1.out | (with_reducible refine Kd.C_drewN ?_ _) | (with_reducible refine Kd.C_drew ?_))); rintro e w' ⟨rfl, ⟨nd, rfl⟩⟩; (try first | exact ⟨rfl, _, World.drewN_drewN _ _ _⟩ | exact ⟨rfl, _, Eq.trans (World.drewN_drewN _ _ _) (congrArg (World.drewN _) (Nat.add_assoc _ _ _))⟩))); try go_wp2)
      go_ret
      exact ⟨rfl, by repeat (first | exact Below.refl _ _ | apply pw_below_drewN | apply below_drew)⟩
    | true =>
      replace h : ((impl_plane_three.f k l0 (rd l1 1) (rd l1 2) (rd l1 3)).bind fun a => (if a = true then (some false) else ((impl_plane_three.f k l0 (rd l1 4) (rd l1 5) (rd l1 6)).bind fun b => (if b = true then (some false) else (impl_plane_isTwin.l0 k l0 l1 [] 1))))) = some r := by simpa using h
      obtain ⟨a, ha, h⟩ := Option.bind_eq_some_iff.mp h
      have HA := Aside0.mk ha
      clear ha
      cases a with
      | true =>
        obtain rfl : false = r := by simpa using h
        clear h
        go_enter Try.func58, Try.ntmps58
        go_wp2
        repeat (go_quiet (first | (go_at_call 55; (with_reducible refine (DC.out _ ?side1).mono ?_); (case side1 => repeat (first | exact HR1.out | (with_reducible refine Kd.C_drewN ?_ _) | (with_reducible refine Kd.C_drew ?_))); rintro e w' ⟨rfl, ⟨nd, rfl⟩⟩; (try first | exact ⟨rfl, _, World.drewN_drewN _ _ _⟩ | exact ⟨rfl, _, Eq.trans (World.drewN_drewN _ _ _) (congrArg (World.drewN _) (Nat.add_assoc _ _ _))⟩)) | (go_at_call 56; (with_reducible refine (impl_plane_three.calls k A0 c0 l0 (rd l1 1) (rd l1 2) (rd l1 3) true _ ?side1 HC0.out HA.out).mono ?_); (case side1 => repeat (first | exact HR0.out | (with_reducible refine Kd.C_drewN ?_ _) | (with_reducible refine Kd.C_drew ?_))); rintro e w' ⟨rfl, ⟨nd, rfl⟩⟩; (try first | exact ⟨rfl, _, World.drewN_drewN _ _ _⟩ | exact ⟨rfl, _, Eq.trans (World.drewN_drewN _ _ _) (congrArg (World.drewN _) (Nat.add_assoc _ _ _))⟩))); try go_wp2)
        go_ret
        exact ⟨rfl, by repeat (first | exact Below.refl _ _ | apply pw_below_drewN | apply below_drew)⟩
      | false =>
        replace h : ((impl_plane_three.f k l0 (rd l1 4) (rd l1 5) (rd l1 6)).bind fun b => (if b = true then (some false) else (impl_plane_isTwin.l0 k l0 l1 [] 1))) = some r := by simpa using h
        obtain ⟨b, hb, h⟩ := Option.bind_eq_some_iff.mp h
        have HB := Aside0.mk hb
        clear hb
        cases b with
        | true =>
          obtain rfl : false = r := by simpa using h
          clear h
          go_enter Try.func58, Try.ntmps58
          go_wp2
          repeat (go_quiet (first | (go_at_call 55; (with_reducible refine (DC.out _ ?side1).mono ?_); (case side1 => repeat (first | exact HR1.out | (with_reducible refine Kd.C_drewN ?_ _) | (with_reducible refine Kd.C_drew ?_))); rintro e w' ⟨rfl, ⟨nd, rfl⟩⟩; (try first | exact ⟨rfl, _, World.drewN_drewN _ _ _⟩ | exact ⟨rfl, _, Eq.trans (World.drewN_drewN _ _ _) (congrArg (World.drewN _) (Nat.add_assoc _ _ _))⟩)) | (go_at_call 56; (with_reducible refine (impl_plane_three.calls k A0 c0 l0 (rd l1 1) (rd l1 2) (rd l1 3) false _ ?side1 HC0.out HA.out).mono ?_); (case side1 => repeat (first | exact HR0.out | (with_reducible refine Kd.C_drewN ?_ _) | (with_reducible refine Kd.C_drew ?_))); rintro e w' ⟨rfl, ⟨nd, rfl⟩⟩; (try first | exact ⟨rfl, _, World.drewN_drewN _ _ _⟩ | exact ⟨rfl, _, Eq.trans (World.drewN_drewN _ _ _) (congrArg (World.drewN _) (Nat.add_assoc _ _ _))⟩)) | (go_at_call 56; (with_reducible refine (impl_plane_three.calls k A0 c0 l0 (rd l1 4) (rd l1 5) (rd l1 6) true _ ?side1 HC0.out HB.out).mono ?_); (case side1 => repeat (first | exact HR0.out | (with_reducible refine Kd.C_drewN ?_ _) | (with_reducible refine Kd.C_drew ?_))); rintro e w' ⟨rfl, ⟨nd, rfl⟩⟩; (try first | exact ⟨rfl, _, World.drewN_drewN _ _ _⟩ | exact ⟨rfl, _, Eq.trans (World.drewN_drewN _ _ _) (congrArg (World.drewN _) (Nat.add_assoc _ _ _))⟩))); try go_wp2)
          go_ret
          exact ⟨rfl, by repeat (first | exact Below.refl _ _ | apply pw_below_drewN | apply below_drew)⟩
        | false =>
          have H' := Aside0.mk (show impl_plane_isTwin.l0 k l0 l1 [] 1 = some r by simpa using h)
          clear h
          go_enter Try.func58, Try.ntmps58
          go_wp2
          go_quiet (first | (go_at_call 55; (with_reducible refine (DC.out _ ?side1).mono ?_); (case side1 => repeat (first | exact HR1.out | (with_reducible refine Kd.C_drewN ?_ _) | (with_reducible refine Kd.C_drew ?_))); rintro e w' ⟨rfl, ⟨nd, rfl⟩⟩; (try first | exact ⟨rfl, _, World.drewN_drewN _ _ _⟩ | exact ⟨rfl, _, Eq.trans (World.drewN_drewN _ _ _) (congrArg (World.drewN _) (Nat.add_assoc _ _ _))⟩)) | (go_at_call 56; (with_reducible refine (impl_plane_three.calls k A0 c0 l0 (rd l1 1) (rd l1 2) (rd l1 3) false _ ?side1 HC0.out HA.out).mono ?_); (case side1 => repeat (first | exact HR0.out | (with_reducible refine Kd.C_drewN ?_ _) | (with_reducible refine Kd.C_drew ?_))); rintro e w' ⟨rfl, ⟨nd, rfl⟩⟩; (try first | exact ⟨rfl, _, World.drewN_drewN _ _ _⟩ | exact ⟨rfl, _, Eq.trans (World.drewN_drewN _ _ _) (congrArg (World.drewN _) (Nat.add_assoc _ _ _))⟩)) | (go_at_call 56; (with_reducible refine (impl_plane_three.calls k A0 c0 l0 (rd l1 4) (rd l1 5) (rd l1 6) false _ ?side1 HC0.out HB.out).mono ?_); (case side1 => repeat (first | exact HR0.out | (with_reducible refine Kd.C_drewN ?_ _) | (with_reducible refine Kd.C_drew ?_))); rintro e w' ⟨rfl, ⟨nd, rfl⟩⟩; (try first | exact ⟨rfl, _, World.drewN_drewN _ _ _⟩ | exact ⟨rfl, _, Eq.trans (World.drewN_drewN _ _ _) (congrArg (World.drewN _) (Nat.add_assoc _ _ _))⟩)))
          go_wp2_with ((with_reducible refine gate_dst (N := 42) rfl ?_); refine Kd.R_lit (Kd.int .i64) _ 3 ?hg (N := 42) ?hd (xs := ([] : List Int)) (inner := []) (ok := fun _ => True) (okp := fun _ => True) ?hr ?hp (fun _ hk => hk) trivial (Below.refl _ _) (Nat.le_refl _) (by simp) ?_; (case hd => rfl); (case hg => rfl); (case hr => first | (go_simp; done) | (go_simp; rfl)); (case hp => exact (Reps.none _ _)); intro v1 w1 ho hb hg_ hnew_; clear hg_ hnew_; have HO1 := Aside0.mk ho; have HB1 := Aside0.mk hb; clear ho hb)
          have HB2 := Aside0.mk (show Below w.heap.size w w1 from below_then (pw_below_drewN (Below.refl _ _) _) (Nat.le_refl _) HB1.out)
          go_loopg [5, 6] k (fun kq v5 v6 w2 => ∃ (xs : List Int) (i : Int), v6 = .int .i64 i ∧ Aside0 (1 ≤ i ∧ i ≤ 4 ∧ (xs.length : Int) + 1 = i) ∧ Aside0 (impl_plane_isTwin.l0 kq l0 l1 xs i = some r) ∧ Aside0 (kq ≤ k) ∧ Aside0 (Kd.R (Kd.int .i64) 3 w2 w.heap.size (fun _ => True) v5 xs) ∧ Aside0 (Below w.heap.size w w2))
          case atStart => exact ⟨[], 1, rfl, ⟨by decide⟩, H', ⟨Nat.le_refl _⟩, HO1, HB2⟩
          case round =>
            clear H' HO1 HB1 HB2 x0 x1 x2 x3 x4 x5 x6
            obtain ⟨xs, i, rfl, I0, HL, HK1, HO1, HB2⟩ := hrel
            cases gk with
            | zero => exact absurd HL.out (by simp [impl_plane_isTwin.l0])
            | succ k1 =>
              have H := HL.out
              clear HL
              simp only [impl_plane_isTwin.l0] at H
              have HRb := Aside0.mk (Kd.C_below HR0.out HB2.out)
              by_cases hi : i ≤ 3
              · rw [if_pos hi] at H
                have hib : decide (i ≤ 3) = true := decide_eq_true hi
                have x0 : wr.cell? ad = some (.int .i64 (rd l1 0)) := by have := pw_cell_below HB2.out (HAT.out 0 (by omega) (by omega)); rw [show ad.add (0 : Int).toNat = ad by simp [Addr.add]] at this; exact this
                have xi := pw_cell_below HB2.out (HAT.out i (by have := I0.out; omega) (by omega))
                have xi3 := pw_cell_below HB2.out (HAT.out (i + 3) (by have := I0.out; omega) (by omega))
                obtain ⟨t, ht, H⟩ := Option.bind_eq_some_iff.mp H
                obtain ⟨o, ho, H⟩ := Option.bind_eq_some_iff.mp H
                obtain ⟨j, hj⟩ : ∃ j, i + 3 = j := ⟨_, rfl⟩
                rw [hj] at xi3 ho
                have wj : IntKind.i64.wrap (i + 3) = j := by rw [← hj]; exact w_in (by have := I0.out; omega) (by omega)
                have wi : IntKind.i64.wrap (i + 1) = i + 1 := w_in (by have := I0.out; omega) (by omega)
                have p1 : (0 ≤ i) = True := eq_true (by have := I0.out; omega)
                have p2 : (i < 7) = True := eq_true (by omega)
                have p3 : (0 ≤ j) = True := eq_true (by have := I0.out; omega)
                have p4 : (j < 7) = True := eq_true (by omega)
                have d1 : decide (0 ≤ i) = true := decide_eq_true (of_eq_true p1)
                have d2 : decide (i < 7) = true := decide_eq_true (of_eq_true p2)
                have d3 : decide (0 ≤ j) = true := decide_eq_true (of_eq_true p3)
                have d4 : decide (j < 7) = true := decide_eq_true (of_eq_true p4)
                have HJ := Aside0.mk ht
                have HO := Aside0.mk ho
                have HI := Aside0.mk hi
                clear ht ho hj hi
                obtain ⟨Ao, co, eo⟩ := Kd.R_slice HO1.out
                subst eo
                have HCL := Aside0.mk (Kd.R_reads' HO1.out).2.2
                have HCL2 := Aside0.mk (Kd.R_reads' HO1.out).2.1
                cases o with
                | false =>
                  obtain rfl : false = r := by simpa using H
                  clear H
                  go_wp2
                  go_quiet (first | (go_at_call 73; (with_reducible refine (impl_plane_join.calls k1 A0 c0 l0 (rd l1 0) (rd l1 i) t _ ?side1 HC0.out HJ.out).mono ?_); (case side1 => repeat (first | exact HRb.out | (with_reducible refine Kd.C_drewN ?_ _) | (with_reducible refine Kd.C_drew ?_))); rintro e w' ⟨rfl, ⟨nd, rfl⟩⟩; (try first | exact ⟨rfl, _, World.drewN_drewN _ _ _⟩ | exact ⟨rfl, _, Eq.trans (World.drewN_drewN _ _ _) (congrArg (World.drewN _) (Nat.add_assoc _ _ _))⟩)))
                  go_wp2_with (first | (go_at_call 87; (with_reducible refine (impl_plane_on.calls A0 c0 l0 (rd l1 j) t false _ ?side1 HC0.out HO.out).mono ?_); (case side1 => repeat (first | exact HRb.out | (with_reducible refine Kd.C_drewN ?_ _) | (with_reducible refine Kd.C_drew ?_))); rintro e w' ⟨rfl, ⟨nd, rfl⟩⟩; (try first | exact ⟨rfl, _, World.drewN_drewN _ _ _⟩ | exact ⟨rfl, _, Eq.trans (World.drewN_drewN _ _ _) (congrArg (World.drewN _) (Nat.add_assoc _ _ _))⟩)))
                  go_ret
                  exact ⟨rfl, by repeat (first | exact HB2.out | apply pw_below_drewN | apply below_drew)⟩
                | true =>
                  obtain ⟨c, hc, H⟩ : ∃ c, slices_Contains_int_int.f k1 xs t = some c ∧ (if c = true then (some false) else (impl_plane_isTwin.l0 k1 l0 l1 (xs ++ [t]) (i + 1))) = some r := Option.bind_eq_some_iff.mp (by simpa using H)
                  have CC := Aside0.mk (fun W hw => slices_Contains_int_int.calls k1 Ao co xs t c W hw HCL2.out hc)
                  clear hc
                  cases c with
                  | true =>
                    obtain rfl : false = r := by simpa using H
                    clear H
                    go_wp2
                    go_quiet (first | (go_at_call 73; (with_reducible refine (impl_plane_join.calls k1 A0 c0 l0 (rd l1 0) (rd l1 i) t _ ?side1 HC0.out HJ.out).mono ?_); (case side1 => repeat (first | exact HRb.out | (with_reducible refine Kd.C_drewN ?_ _) | (with_reducible refine Kd.C_drew ?_))); rintro e w' ⟨rfl, ⟨nd, rfl⟩⟩; (try first | exact ⟨rfl, _, World.drewN_drewN _ _ _⟩ | exact ⟨rfl, _, Eq.trans (World.drewN_drewN _ _ _) (congrArg (World.drewN _) (Nat.add_assoc _ _ _))⟩)))
                    go_wp2_with (first | (go_at_call 87; (with_reducible refine (impl_plane_on.calls A0 c0 l0 (rd l1 j) t true _ ?side1 HC0.out HO.out).mono ?_); (case side1 => repeat (first | exact HRb.out | (with_reducible refine Kd.C_drewN ?_ _) | (with_reducible refine Kd.C_drew ?_))); rintro e w' ⟨rfl, ⟨nd, rfl⟩⟩; (try first | exact ⟨rfl, _, World.drewN_drewN _ _ _⟩ | exact ⟨rfl, _, Eq.trans (World.drewN_drewN _ _ _) (congrArg (World.drewN _) (Nat.add_assoc _ _ _))⟩)) | (go_at_call 74; (with_reducible refine (CC.out _ ?side1).mono ?_); (case side1 => repeat (first | exact HCL.out | (with_reducible refine Kd.C_drewN ?_ _) | (with_reducible refine Kd.C_drew ?_))); rintro e w' ⟨rfl, ⟨nd, rfl⟩⟩; (try first | exact ⟨rfl, _, World.drewN_drewN _ _ _⟩ | exact ⟨rfl, _, Eq.trans (World.drewN_drewN _ _ _) (congrArg (World.drewN _) (Nat.add_assoc _ _ _))⟩)))
                    go_ret
                    exact ⟨rfl, by repeat (first | exact HB2.out | apply pw_below_drewN | apply below_drew)⟩
                  | false =>
                    have H2 := Aside0.mk (show impl_plane_isTwin.l0 k1 l0 l1 (xs ++ [t]) (i + 1) = some r by simpa using H)
                    clear H
                    go_wp2
                    go_quiet (first | (go_at_call 73; (with_reducible refine (impl_plane_join.calls k1 A0 c0 l0 (rd l1 0) (rd l1 i) t _ ?side1 HC0.out HJ.out).mono ?_); (case side1 => repeat (first | exact HRb.out | (with_reducible refine Kd.C_drewN ?_ _) | (with_reducible refine Kd.C_drew ?_))); rintro e w' ⟨rfl, ⟨nd, rfl⟩⟩; (try first | exact ⟨rfl, _, World.drewN_drewN _ _ _⟩ | exact ⟨rfl, _, Eq.trans (World.drewN_drewN _ _ _) (congrArg (World.drewN _) (Nat.add_assoc _ _ _))⟩)))
                    obtain ⟨ys, hys⟩ : ∃ ys, ys = xs ++ [t] := ⟨_, rfl⟩
                    have NY := Aside0.mk hys
                    clear hys
                    have LL : Aside0 (xs.length ≤ 9) := ⟨by have := I0.out; omega⟩
                    go_wp2_with (first | (go_at_call 87; (with_reducible refine (impl_plane_on.calls A0 c0 l0 (rd l1 j) t true _ ?side1 HC0.out HO.out).mono ?_); (case side1 => repeat (first | exact HRb.out | (with_reducible refine Kd.C_drewN ?_ _) | (with_reducible refine Kd.C_drew ?_))); rintro e w' ⟨rfl, ⟨nd, rfl⟩⟩; (try first | exact ⟨rfl, _, World.drewN_drewN _ _ _⟩ | exact ⟨rfl, _, Eq.trans (World.drewN_drewN _ _ _) (congrArg (World.drewN _) (Nat.add_assoc _ _ _))⟩)) | (go_at_call 74; (with_reducible refine (CC.out _ ?side1).mono ?_); (case side1 => repeat (first | exact HCL.out | (with_reducible refine Kd.C_drewN ?_ _) | (with_reducible refine Kd.C_drew ?_))); rintro e w' ⟨rfl, ⟨nd, rfl⟩⟩; (try first | exact ⟨rfl, _, World.drewN_drewN _ _ _⟩ | exact ⟨rfl, _, Eq.trans (World.drewN_drewN _ _ _) (congrArg (World.drewN _) (Nat.add_assoc _ _ _))⟩)) | (at_builtin; refine Kd.R_append (Kd.int .i64) (w0 := w) w.heap.size rfl (.tmp 70) (.tmp 72) 23 3 (.int .i64 0) 8 rfl Try.underlying23 info_isTwin rfl (by decide) (by omega) (.slice Ao xs.length co) xs t [.int .i64 t] (fun _ => True) (fun _ => False) rfl rfl ?aP (fun _ hk => hk.elim) ?aF ?aO ?aB ?aS ?aL ?_; (case aP => exact rfl); (case aB => repeat (first | exact HB2.out | apply pw_below_drewN | apply below_drew)); (case aF => exact (fun _ _ => trivial)); (case aO => repeat (first | exact HO1.out | (with_reducible refine Kd.R_drewN ?_ _) | (with_reducible refine Kd.R_drew ?_))); (case aS => exact (below_size (by repeat (first | exact HB2.out | apply pw_below_drewN | apply below_drew)))); (case aL => have := LL.out; omega); intro v2 w3 ho hb hg hat; rw [← NY.out] at ho; have HO3 := Aside0.mk ho; have HB3 := Aside0.mk hb; clear ho hb hg hat))
                    go_roundg k1
                    case measure => have := HK1.out; omega
                    case rel => exact ⟨ys, i + 1, by go_num, ⟨by have := I0.out; have := HI.out; rw [NY.out, List.length_append]; show _ ∧ _ ∧ ((xs.length + 1 : Nat) : Int) + 1 = i + 1; omega⟩, ⟨by rw [NY.out]; exact H2.out⟩, ⟨by have := HK1.out; omega⟩, HO3, HB3⟩
              · rw [if_neg hi] at H
                have hib : decide (i ≤ 3) = false := decide_eq_false hi
                obtain rfl := Option.some.inj H
                go_wp2
                go_ret
                exact ⟨rfl, by repeat (first | exact HB2.out | apply pw_below_drewN | apply below_drew)⟩
  · rw [if_neg h7] at h
    have h7b : ((l1.length : Int) != 7) = true := bne_iff_ne.mpr h7
    obtain rfl := Option.some.inj h
    clear h7 h
    go_enter Try.func58, Try.ntmps58
    go_wp2
    repeat (go_quiet (first | (fail)); try go_wp2)
    go_ret
    exact ⟨rfl, by repeat (first | exact Below.refl _ _ | apply pw_below_drewN | apply below_drew)⟩

/-! ### impl_TwinIn: function 28 -/
def impl_TwinIn.f (k : Nat) (l0 : List Int) (l1 : List Int) : Option (Bool) := (impl_isSystem.f l0).bind fun t472 => (if t472 = true then ((impl_plane_isTwin.f k l0 l1).bind fun t473 => (some t473)) else (some false))
theorem impl_TwinIn.mono : ∀ a0 a1 k, LeO (impl_TwinIn.f k a0 a1) (impl_TwinIn.f (k + 1) a0 a1) := by
  intro a0 a1 k
  unfold impl_TwinIn.f
  repeat' first
      | (with_reducible exact impl_plane_isTwin.mono _ _ _)
      | (with_reducible exact LeO.refl _)
      | (with_reducible exact LeO.none _)
      | (with_reducible refine LeO.ite ?_ ?_)
      | (with_reducible refine LeO.bind ?_ (fun _ => ?_))
      | exact impl_plane_isTwin.mono _ _ _
      | exact LeO.none _
      | refine LeO.ite ?_ ?_
      | refine LeO.bind ?_ (fun _ => ?_)
set_option maxHeartbeats 8000000 in
set_option maxRecDepth 100000 in
theorem impl_TwinIn.calls (k : Nat) (A0 : Option Addr) (c0 : Nat) (l0 : List Int) (A1 : Option Addr) (c1 : Nat) (l1 : List Int) (r : Bool) (w : World) (hr0 : Kd.C (Kd.int .i64) w A0 l0.length l0) (hc0 : l0.length ≤ c0) (hr1 : Kd.C (Kd.int .i64) w A1 l1.length l1) (hc1 : l1.length ≤ c1) (h : impl_TwinIn.f k l0 l1 = some r) :
    Calls Try.prog 28 #[.slice A0 l0.length c0, .slice A1 l1.length c1] w fun e w' => e = .returned (.bool r) ∧ Below w.heap.size w w' := by
  have HR0 := Aside0.mk hr0
  have HC0 := Aside0.mk hc0
  clear hr0 hc0
  have HR1 := Aside0.mk hr1
  have HC1 := Aside0.mk hc1
  clear hr1 hc1
  have HB := Aside0.mk (Below.refl w.heap.size w)
  have H : ((impl_isSystem.f l0).bind fun t472 => (if t472 = true then ((impl_plane_isTwin.f k l0 l1).bind fun t473 => (some t473)) else (some false))) = some r := h
  clear h
  replace H := Option.bind_eq_some_iff.mp H
  obtain ⟨t472, A30, H⟩ := H
  replace H : (if t472 = true then ((impl_plane_isTwin.f k l0 l1).bind fun t473 => (some t473)) else (some false)) = some r := H
  have A3 := Aside0.mk A30
  clear A30
  by_cases c4 : t472 = true
  · subst c4
    have H1 : ((impl_plane_isTwin.f k l0 l1).bind fun t473 => (some t473)) = some r := by rw [if_pos rfl] at H; exact H
    clear H
    have H := H1
    clear H1
    replace H := Option.bind_eq_some_iff.mp H
    obtain ⟨t473, A50, H⟩ := H
    replace H : (some t473) = some r := H
    have A5 := Aside0.mk A50
    clear A50
    obtain rfl := Option.some.inj H
    go_enter Try.func28, Try.ntmps28
    go_wp2_with (first | ((with_reducible refine gate_callee (f := 40) rfl ?_); refine goesL_ (some 6) rfl rfl Try.func40 (by kernel_rfl) rfl #[.slice A0 l0.length c0] rfl (by (try simp only [List.map_toArray, List.map_cons, List.map_nil]); first | done | rfl | (simp only [List.length_drop, List.length_take]; rfl)) ?_; (with_reducible refine (impl_isSystem.calls _ _ l0 true _ ?side1 ?side2 A3.out).mono ?_); (case side1 => repeat (first | exact HR0.out | (with_reducible refine Kd.C_alloc ?_ _) | (with_reducible refine Kd.C_drewN ?_ _) | (with_reducible refine Kd.C_drew ?_))); (case side2 => exact HC0.out); rintro e w6 ⟨rfl, hb⟩; refine ⟨_, rfl, ?_⟩; have n0_ := Aside0.mk (below_step (by repeat (first | (with_reducible first | exact HB.out | apply below_alloc | apply pw_below_drewN | apply below_drew1) | exact HB.out)) hb); clear HB; have HB := n0_; clear n0_; (try clear hb); (try clear hb2); (try clear hk); (try clear hi)) | (go_at_call 58; (with_reducible refine (impl_plane_isTwin.calls k _ _ l0 _ _ l1 t473 _ ?side1 ?side2 ?side3 ?side4 A5.out).mono ?_); (case side1 => repeat (first | exact (Kd.C_below HR0.out HB.out) | (with_reducible refine Kd.C_alloc ?_ _) | (with_reducible refine Kd.C_drewN ?_ _) | (with_reducible refine Kd.C_drew ?_))); (case side2 => exact HC0.out); (case side3 => repeat (first | exact (Kd.C_below HR1.out HB.out) | (with_reducible refine Kd.C_alloc ?_ _) | (with_reducible refine Kd.C_drewN ?_ _) | (with_reducible refine Kd.C_drew ?_))); (case side4 => exact HC1.out); rintro e w7 ⟨rfl, hb⟩; have n0_ := Aside0.mk (below_step (by repeat (first | (with_reducible first | exact HB.out | apply below_alloc | apply pw_below_drewN | apply below_drew1) | exact HB.out)) hb); clear HB; have HB := n0_; clear n0_; (try clear hb); (try clear hb2); (try clear hk); (try clear hi)))
    go_ret
    exact ⟨by first | rfl | (simp [errW_none, errW_some] <;> rfl) | (simp [*, errW_none, errW_some] <;> rfl), by repeat (first | (with_reducible first | exact HB.out | apply below_alloc | apply pw_below_drewN | apply below_drew1) | exact HB.out)⟩
  · replace c4 := Bool.eq_false_iff.mpr c4
    subst c4
    have H1 : (some false) = some r := by rw [if_neg (show ¬ (false = true) by decide)] at H; exact H
    clear H
    have H := H1
    clear H1
    obtain rfl := Option.some.inj H
    go_enter Try.func28, Try.ntmps28
    go_wp2_with (first | ((with_reducible refine gate_callee (f := 40) rfl ?_); refine goesL_ (some 6) rfl rfl Try.func40 (by kernel_rfl) rfl #[.slice A0 l0.length c0] rfl (by (try simp only [List.map_toArray, List.map_cons, List.map_nil]); first | done | rfl | (simp only [List.length_drop, List.length_take]; rfl)) ?_; (with_reducible refine (impl_isSystem.calls _ _ l0 false _ ?side1 ?side2 A3.out).mono ?_); (case side1 => repeat (first | exact HR0.out | (with_reducible refine Kd.C_alloc ?_ _) | (with_reducible refine Kd.C_drewN ?_ _) | (with_reducible refine Kd.C_drew ?_))); (case side2 => exact HC0.out); rintro e w8 ⟨rfl, hb⟩; refine ⟨_, rfl, ?_⟩; have n0_ := Aside0.mk (below_step (by repeat (first | (with_reducible first | exact HB.out | apply below_alloc | apply pw_below_drewN | apply below_drew1) | exact HB.out)) hb); clear HB; have HB := n0_; clear n0_; (try clear hb); (try clear hb2); (try clear hk); (try clear hi)))
    go_ret
    exact ⟨by first | rfl | (simp [errW_none, errW_some] <;> rfl) | (simp [*, errW_none, errW_some] <;> rfl), by repeat (first | (with_reducible first | exact HB.out | apply below_alloc | apply pw_below_drewN | apply below_drew1) | exact HB.out)⟩

end Go.Proofs.Ytiobhhcbdcbajaa.P
