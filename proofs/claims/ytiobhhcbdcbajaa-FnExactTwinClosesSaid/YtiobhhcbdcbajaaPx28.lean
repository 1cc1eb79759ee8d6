/- Contracts of Go functions of the given program: each says, under its own hypotheses, what a call returns and leaves. Written by this claim's own program over the kit's print. -/
import Derived.Test.YtiobhhcbdcbajaaPx0
import Derived.Test.YtiobhhcbdcbajaaPx4
import Derived.Test.YtiobhhcbdcbajaaPx6
import Derived.Test.YtiobhhcbdcbajaaPx9
import Derived.Test.YtiobhhcbdcbajaaPx11
import Derived.Test.YtiobhhcbdcbajaaPx14
namespace Go.Proofs.Ytiobhhcbdcbajaa.P
open Go.RowKit Go.Proofs.YtiobhhcbdcbajaaW.PrintWords Go.Proofs.YtiobhhcbdcbajaaW.PrintLast Go.Proofs.YtiobhhcbdcbajaaW.PrintMore
attribute [local go_sem] max2_int min2_int max_two min_two max_three min_three max_four min_four   -- for this text's walks alone
set_option linter.unusedVariables false
set_option linter.unusedSimpArgs false

/-! ### spec_TwinIn: function 26 -/
def spec_TwinIn.tail (k : Nat) (x0 x1 : List Int) : Option (Bool) := (spec_l3Join.f k x0 (rd x1 0) (rd x1 1)).bind fun a => (spec_l3Join.f k x0 (rd x1 0) (rd x1 2)).bind fun b => (spec_l3Join.f k x0 (rd x1 0) (rd x1 3)).bind fun c => (if a = b then (some false) else (if a = c then (some false) else (if b = c then (some false) else ((spec_l3Three.f k x0 (rd x1 1) (rd x1 2) (rd x1 3)).bind fun u => (if u = true then (some false) else ((spec_l3Three.f k x0 (rd x1 4) (rd x1 5) (rd x1 6)).bind fun v => some (!v)))))))
def spec_TwinIn.l0 : Nat → List Int → List Int → Int → Option (Bool)
  | 0, _, _, _ => none
  | k + 1, x0, x1, x5 => if x5 ≤ 3 then ((spec_l3Three.f k x0 (rd x1 0) (rd x1 x5) (rd x1 (x5 + 3))).bind fun t => (if t = true then (spec_TwinIn.l0 k x0 x1 (x5 + 1)) else (some false))) else (spec_TwinIn.tail k x0 x1)
def spec_TwinIn.f (k : Nat) (l0 : List Int) (l1 : List Int) : Option (Bool) := (spec_SystemIn.f k l0).bind fun t => (if t = true then (if (l1.length : Int) = 7 then ((spec_l4Different.f k l1).bind fun d => (if d = true then (spec_TwinIn.l0 k l0 l1 1) else (some false))) else (some false)) else (some false))
theorem spec_TwinIn.tail_mono (k : Nat) (x0 x1 : List Int) : LeO (spec_TwinIn.tail k x0 x1) (spec_TwinIn.tail (k + 1) x0 x1) := by
  unfold spec_TwinIn.tail
  refine LeO.bind (spec_l3Join.mono _ _ _ _) (fun _ => ?_)
  refine LeO.bind (spec_l3Join.mono _ _ _ _) (fun _ => ?_)
  refine LeO.bind (spec_l3Join.mono _ _ _ _) (fun _ => ?_)
  refine LeO.ite (LeO.refl _) ?_
  refine LeO.ite (LeO.refl _) ?_
  refine LeO.ite (LeO.refl _) ?_
  refine LeO.bind (spec_l3Three.mono _ _ _ _ _) (fun _ => ?_)
  refine LeO.ite (LeO.refl _) ?_
  exact LeO.bind (spec_l3Three.mono _ _ _ _ _) (fun _ => LeO.refl _)
theorem spec_TwinIn.mono_l : ∀ k, (∀ y0 y1 y2, LeO (spec_TwinIn.l0 k y0 y1 y2) (spec_TwinIn.l0 (k + 1) y0 y1 y2))
  | 0 => fun _ _ _ r h => by simp [spec_TwinIn.l0] at h
  | k + 1 => by
    have ih := spec_TwinIn.mono_l k
    intro y0 y1 y2
    simp only [spec_TwinIn.l0]
    refine LeO.ite ?_ ?_
    · refine LeO.bind (spec_l3Three.mono _ _ _ _ _) (fun _ => ?_)
      exact LeO.ite (ih _ _ _) (LeO.refl _)
    · exact spec_TwinIn.tail_mono _ _ _
theorem spec_TwinIn.mono : ∀ a0 a1 k, LeO (spec_TwinIn.f k a0 a1) (spec_TwinIn.f (k + 1) a0 a1) := by
  intro a0 a1 k
  unfold spec_TwinIn.f
  refine LeO.bind (spec_SystemIn.mono _ _) (fun _ => ?_)
  refine LeO.ite ?_ (LeO.refl _)
  refine LeO.ite ?_ (LeO.refl _)
  refine LeO.bind (spec_l4Different.mono _ _) (fun _ => ?_)
  exact LeO.ite (spec_TwinIn.mono_l k _ _ _) (LeO.refl _)
set_option maxHeartbeats 8000000 in
set_option maxRecDepth 100000 in
theorem spec_TwinIn.calls (k : Nat) (A0 : Option Addr) (c0 : Nat) (l0 : List Int) (A1 : Option Addr) (c1 : Nat) (l1 : List Int) (r : Bool) (w : World) (hr0 : Kd.C (Kd.int .i64) w A0 l0.length l0) (hc0 : l0.length ≤ c0) (hr1 : Kd.C (Kd.int .i64) w A1 l1.length l1) (hc1 : l1.length ≤ c1) (h : spec_TwinIn.f k l0 l1 = some r) :
    Calls Try.prog 26 #[.slice A0 l0.length c0, .slice A1 l1.length c1] w fun e w' => e = .returned (.bool r) ∧ Below w.heap.size w w' := by
  unfold spec_TwinIn.f at h
  obtain ⟨s, hs, h⟩ := Option.bind_eq_some_iff.mp h
  have SC := Aside0.mk (spec_SystemIn.calls k A0 c0 l0 s w hr0 hc0 hs)
  have HR0 := Aside0.mk hr0
  have HR1 := Aside0.mk hr1
  have HC0 := Aside0.mk hc0
  have HC1 := Aside0.mk hc1
  clear hr0 hr1 hc0 hc1 hs
  cases s with
  | false =>
    rw [if_neg (by decide)] at h
    obtain rfl := Option.some.inj h
    go_enter Try.func26, Try.ntmps26
    go_wp2_with (fail)
    refine SC.out.mono ?_
    rintro e w1 ⟨rfl, hb⟩
    have HB1 := Aside0.mk hb
    clear hb SC
    go_wp2
    go_ret
    exact ⟨rfl, HB1.out⟩
  | true =>
    rw [if_pos rfl] at h
    by_cases h7 : (l1.length : Int) = 7
    · rw [if_pos h7] at h
      have h7b : ((l1.length : Int) != 7) = false := bne_eq_false_iff_eq.mpr h7
      have L7 := Aside0.mk h7
      obtain ⟨d, hd, h⟩ := Option.bind_eq_some_iff.mp h
      have HD := Aside0.mk hd
      clear hd h7
      cases d with
      | false =>
        rw [if_neg (by decide)] at h
        obtain rfl := Option.some.inj h
        go_enter Try.func26, Try.ntmps26
        go_wp2_with (fail)
        refine SC.out.mono ?_
        rintro e w1 ⟨rfl, hb⟩
        have HB1 := Aside0.mk hb
        have DC := Aside0.mk (spec_l4Different.calls k A1 c1 l1 false w1 (Kd.C_below HR1.out hb) HC1.out HD.out)
        clear hb SC
        go_wp2_with (fail)
        refine DC.out.mono ?_
        rintro e w' ⟨rfl, ⟨nd, rfl⟩⟩
        go_wp2
        go_ret
        exact ⟨rfl, by repeat (first | exact HB1.out | apply pw_below_drewN | apply below_drew)⟩
      | true =>
        rw [if_pos rfl] at h
        have H' := Aside0.mk h
        clear h
        obtain ⟨ad, e1, _⟩ := Kd.at_int HR1.out 0 (Int.le_refl _) (by have := L7.out; omega)
        subst e1
        have n7 : l1.length = 7 := by have := L7.out; omega
        rw [n7]
        have N7 := Aside0.mk n7
        clear n7 h7b
        go_enter Try.func26, Try.ntmps26
        go_wp2_with (fail)
        refine SC.out.mono ?_
        rintro e w1 ⟨rfl, hb⟩
        have HB1 := Aside0.mk hb
        have HR01 := Aside0.mk (Kd.C_below HR0.out hb)
        have HR11 := Aside0.mk (Kd.C_below HR1.out hb)
        have DC0 := spec_l4Different.calls k (some ad) c1 l1 true w1 HR11.out HC1.out HD.out
        rw [N7.out] at DC0
        have DC := Aside0.mk DC0
        clear DC0
        have AT : ∀ i : Int, 0 ≤ i → i < 7 → w1.cell? (ad.add i.toNat) = some (.int .i64 (rd l1 i)) := fun i i0 i1 => by
          obtain ⟨ad', e1, hx⟩ := Kd.at_int HR11.out i i0 (by have := L7.out; omega)
          obtain rfl : ad = ad' := by injection e1
          exact hx
        have HAT := Aside0.mk AT
        have x0 : w1.cell? ad = some (.int .i64 (rd l1 0)) := by have := AT 0 (by omega) (by omega); rw [show ad.add (0 : Int).toNat = ad by simp [Addr.add]] at this; exact this
        clear hb SC AT HD HR0 HR1
        go_wp2_with (fail)
        refine DC.out.mono ?_
        rintro e w' ⟨rfl, ⟨nd, rfl⟩⟩
        clear DC
        go_wp2
        go_loopg [5] k (fun kq v5 w2 => ∃ (i : Int), v5 = .int .i64 i ∧ Aside0 (1 ≤ i ∧ i ≤ 4) ∧ Aside0 (spec_TwinIn.l0 kq l0 l1 i = some r) ∧ Aside0 (kq ≤ k) ∧ Drawn0 w1 w2)
        case atStart => exact ⟨1, rfl, ⟨by omega⟩, H', ⟨Nat.le_refl _⟩, by repeat (first | exact Drawn0.refl _ | apply Drawn0.step)⟩
        case round =>
          clear H'
          obtain ⟨i, rfl, I0, HA, HK1, ⟨m1, rfl⟩⟩ := hrel
          cases gk with
          | zero => exact absurd HA.out (by simp [spec_TwinIn.l0])
          | succ k1 =>
            have H := HA.out
            clear HA
            simp only [spec_TwinIn.l0] at H
            by_cases hi : i ≤ 3
            · rw [if_pos hi] at H
              have hib : decide (i ≤ 3) = true := decide_eq_true hi
              obtain ⟨t, ht, H⟩ := Option.bind_eq_some_iff.mp H
              have xi := HAT.out i (by have := I0.out; omega) (by omega)
              have xi3 := HAT.out (i + 3) (by have := I0.out; omega) (by omega)
              obtain ⟨j, hj⟩ : ∃ j, i + 3 = j := ⟨_, rfl⟩
              rw [hj] at xi3
              rw [hj] at ht
              have wj : IntKind.i64.wrap (i + 3) = j := by rw [← hj]; exact w_in (by have := I0.out; omega) (by omega)
              have wi : IntKind.i64.wrap (i + 1) = i + 1 := w_in (by have := I0.out; omega) (by omega)
              have p1 : (0 ≤ i) = True := eq_true (by have := I0.out; omega)
              have p2 : (i < 7) = True := eq_true (by omega)
              have p3 : (0 ≤ j) = True := eq_true (by have := I0.out; omega)
              have p4 : (j < 7) = True := eq_true (by omega)
              have d1 : decide (0 ≤ i) = true := decide_eq_true (of_eq_true p1)
              have d2 : decide (i < 7) = true := decide_eq_true (of_eq_true p2)
              have d3 : decide (0 ≤ j) = true := decide_eq_true (of_eq_true p3)
              have d4 : decide (j < 7) = true := decide_eq_true (of_eq_true p4)
              have HT := Aside0.mk ht
              have HI := Aside0.mk hi
              have H2 := Aside0.mk H
              clear H ht hj hi
              cases t with
              | true =>
                go_wp2
                repeat (go_quiet (first | (go_at_call 44; (with_reducible refine (spec_l3Three.calls k1 A0 c0 l0 (rd l1 0) (rd l1 i) (rd l1 j) true _ ?side1 HC0.out HT.out).mono ?_); (case side1 => repeat (first | exact HR01.out | (with_reducible refine Kd.C_drewN ?_ _) | (with_reducible refine Kd.C_drew ?_))); rintro e w' ⟨rfl, ⟨nd, rfl⟩⟩; (try first | exact ⟨rfl, _, World.drewN_drewN _ _ _⟩ | exact ⟨rfl, _, Eq.trans (World.drewN_drewN _ _ _) (congrArg (World.drewN _) (Nat.add_assoc _ _ _))⟩))); try go_wp2)
                have H3 := H2.out
                have H4 := Aside0.mk (show spec_TwinIn.l0 k1 l0 l1 (i + 1) = some r by simpa using H3)
                clear H3 H2
                go_roundg k1
                case measure => have := HK1.out; omega
                case rel => exact ⟨i + 1, by go_num, ⟨by have := I0.out; have := HI.out; omega⟩, H4, ⟨by have := HK1.out; omega⟩, by repeat (first | exact Drawn0.refl _ | apply Drawn0.step)⟩
              | false =>
                have H3 := H2.out
                obtain rfl : false = r := by simpa using H3
                clear H3 H2
                go_wp2
                repeat (go_quiet (first | (go_at_call 44; (with_reducible refine (spec_l3Three.calls k1 A0 c0 l0 (rd l1 0) (rd l1 i) (rd l1 j) false _ ?side1 HC0.out HT.out).mono ?_); (case side1 => repeat (first | exact HR01.out | (with_reducible refine Kd.C_drewN ?_ _) | (with_reducible refine Kd.C_drew ?_))); rintro e w' ⟨rfl, ⟨nd, rfl⟩⟩; (try first | exact ⟨rfl, _, World.drewN_drewN _ _ _⟩ | exact ⟨rfl, _, Eq.trans (World.drewN_drewN _ _ _) (congrArg (World.drewN _) (Nat.add_assoc _ _ _))⟩))); try go_wp2)
                go_ret
                exact ⟨rfl, by repeat (first | exact HB1.out | apply pw_below_drewN | apply below_drew)⟩
            · rw [if_neg hi] at H
              have hib : decide (i ≤ 3) = false := decide_eq_false hi
              unfold spec_TwinIn.tail at H
              obtain ⟨a, ha, H⟩ := Option.bind_eq_some_iff.mp H
              obtain ⟨b, hb, H⟩ := Option.bind_eq_some_iff.mp H
              obtain ⟨c, hc, H⟩ := Option.bind_eq_some_iff.mp H
              have HJa := Aside0.mk ha
              have HJb := Aside0.mk hb
              have HJc := Aside0.mk hc
              have AT1 : ∀ n : Nat, n < 7 → w1.cell? (ad.add n) = some (.int .i64 (rd l1 n)) := fun n hn => HAT.out (n : Int) (by omega) (by omega)
              have y1 : w1.cell? ⟨ad.block, ad.off + 1, none⟩ = some (.int .i64 (rd l1 1)) := by have := AT1 1 (by decide); rw [show ad.add 1 = ⟨ad.block, ad.off + 1, none⟩ by simp [Addr.add]] at this; exact this
              have y2 : w1.cell? ⟨ad.block, ad.off + 2, none⟩ = some (.int .i64 (rd l1 2)) := by have := AT1 2 (by decide); rw [show ad.add 2 = ⟨ad.block, ad.off + 2, none⟩ by simp [Addr.add]] at this; exact this
              have y3 : w1.cell? ⟨ad.block, ad.off + 3, none⟩ = some (.int .i64 (rd l1 3)) := by have := AT1 3 (by decide); rw [show ad.add 3 = ⟨ad.block, ad.off + 3, none⟩ by simp [Addr.add]] at this; exact this
              have y4 : w1.cell? ⟨ad.block, ad.off + 4, none⟩ = some (.int .i64 (rd l1 4)) := by have := AT1 4 (by decide); rw [show ad.add 4 = ⟨ad.block, ad.off + 4, none⟩ by simp [Addr.add]] at this; exact this
              have y5 : w1.cell? ⟨ad.block, ad.off + 5, none⟩ = some (.int .i64 (rd l1 5)) := by have := AT1 5 (by decide); rw [show ad.add 5 = ⟨ad.block, ad.off + 5, none⟩ by simp [Addr.add]] at this; exact this
              have y6 : w1.cell? ⟨ad.block, ad.off + 6, none⟩ = some (.int .i64 (rd l1 6)) := by have := AT1 6 (by decide); rw [show ad.add 6 = ⟨ad.block, ad.off + 6, none⟩ by simp [Addr.add]] at this; exact this
              clear ha hb hc AT1 hi
              replace H : (if a = b then (some false) else (if a = c then (some false) else (if b = c then (some false) else ((spec_l3Three.f k1 l0 (rd l1 1) (rd l1 2) (rd l1 3)).bind fun u => (if u = true then (some false) else ((spec_l3Three.f k1 l0 (rd l1 4) (rd l1 5) (rd l1 6)).bind fun v => some (!v))))))) = some r := H
              by_cases e1 : a = b
              · rw [if_pos e1] at H
                obtain rfl := Option.some.inj H
                have f1 : (a != b) = false := bne_eq_false_iff_eq.mpr e1
                clear H e1
                go_wp2
                repeat (go_quiet (first | (go_at_call 45; (with_reducible refine (spec_l3Join.calls k1 A0 c0 l0 (rd l1 0) (rd l1 1) a _ ?side1 HC0.out HJa.out).mono ?_); (case side1 => repeat (first | exact HR01.out | (with_reducible refine Kd.C_drewN ?_ _) | (with_reducible refine Kd.C_drew ?_))); rintro e w' ⟨rfl, ⟨nd, rfl⟩⟩; (try first | exact ⟨rfl, _, World.drewN_drewN _ _ _⟩ | exact ⟨rfl, _, Eq.trans (World.drewN_drewN _ _ _) (congrArg (World.drewN _) (Nat.add_assoc _ _ _))⟩)) | (go_at_call 45; (with_reducible refine (spec_l3Join.calls k1 A0 c0 l0 (rd l1 0) (rd l1 2) b _ ?side1 HC0.out HJb.out).mono ?_); (case side1 => repeat (first | exact HR01.out | (with_reducible refine Kd.C_drewN ?_ _) | (with_reducible refine Kd.C_drew ?_))); rintro e w' ⟨rfl, ⟨nd, rfl⟩⟩; (try first | exact ⟨rfl, _, World.drewN_drewN _ _ _⟩ | exact ⟨rfl, _, Eq.trans (World.drewN_drewN _ _ _) (congrArg (World.drewN _) (Nat.add_assoc _ _ _))⟩)) | (go_at_call 45; (with_reducible refine (spec_l3Join.calls k1 A0 c0 l0 (rd l1 0) (rd l1 3) c _ ?side1 HC0.out HJc.out).mono ?_); (case side1 => repeat (first | exact HR01.out | (with_reducible refine Kd.C_drewN ?_ _) | (with_reducible refine Kd.C_drew ?_))); rintro e w' ⟨rfl, ⟨nd, rfl⟩⟩; (try first | exact ⟨rfl, _, World.drewN_drewN _ _ _⟩ | exact ⟨rfl, _, Eq.trans (World.drewN_drewN _ _ _) (congrArg (World.drewN _) (Nat.add_assoc _ _ _))⟩))); try go_wp2)
                go_ret
                exact ⟨rfl, by repeat (first | exact HB1.out | apply pw_below_drewN | apply below_drew)⟩
              · rw [if_neg e1] at H
                have f1 : (a != b) = true := bne_iff_ne.mpr e1
                clear e1
                by_cases e2 : a = c
                · rw [if_pos e2] at H
                  obtain rfl := Option.some.inj H
                  have f2 : (a != c) = false := bne_eq_false_iff_eq.mpr e2
                  clear H e2
                  go_wp2
                  repeat (go_quiet (first | (go_at_call 45; (with_reducible refine (spec_l3Join.calls k1 A0 c0 l0 (rd l1 0) (rd l1 1) a _ ?side1 HC0.out HJa.out).mono ?_); (case side1 => repeat (first | exact HR01.out | (with_reducible refine Kd.C_drewN ?_ _) | (with_reducible refine Kd.C_drew ?_))); rintro e w' ⟨rfl, ⟨nd, rfl⟩⟩; (try first | exact ⟨rfl, _, World.drewN_drewN _ _ _⟩ | exact ⟨rfl, _, Eq.trans (World.drewN_drewN _ _ _) (congrArg (World.drewN _) (Nat.add_assoc _ _ _))⟩)) | (go_at_call 45; (with_reducible refine (spec_l3Join.calls k1 A0 c0 l0 (rd l1 0) (rd l1 2) b _ ?side1 HC0.out HJb.out).mono ?_); (case side1 => repeat (first | exact HR01.out | (with_reducible refine Kd.C_drewN ?_ _) | (with_reducible refine Kd.C_drew ?_))); rintro e w' ⟨rfl, ⟨nd, rfl⟩⟩; (try first | exact ⟨rfl, _, World.drewN_drewN _ _ _⟩ | exact ⟨rfl, _, Eq.trans (World.drewN_drewN _ _ _) (congrArg (World.drewN _) (Nat.add_assoc _ _ _))⟩)) | (go_at_call 45; (with_reducible refine (spec_l3Join.calls k1 A0 c0 l0 (rd l1 0) (rd l1 3) c _ ?side1 HC0.out HJc.out).mono ?_); (case side1 => repeat (first | exact HR01.out | (with_reducible refine Kd.C_drewN ?_ _) | (with_reducible refine Kd.C_drew ?_))); rintro e w' ⟨rfl, ⟨nd, rfl⟩⟩; (try first | exact ⟨rfl, _, World.drewN_drewN _ _ _⟩ | exact ⟨rfl, _, Eq.trans (World.drewN_drewN _ _ _) (congrArg (World.drewN _) (Nat.add_assoc _ _ _))⟩))); try go_wp2)
                  go_ret
                  exact ⟨rfl, by repeat (first | exact HB1.out | apply pw_below_drewN | apply below_drew)⟩
                · rw [if_neg e2] at H
                  have f2 : (a != c) = true := bne_iff_ne.mpr e2
                  clear e2
                  by_cases e3 : b = c
                  · rw [if_pos e3] at H
                    obtain rfl := Option.some.inj H
                    have f3 : (b != c) = false := bne_eq_false_iff_eq.mpr e3
                    clear H e3
                    go_wp2
                    repeat (go_quiet (first | (go_at_call 45; (with_reducible refine (spec_l3Join.calls k1 A0 c0 l0 (rd l1 0) (rd l1 1) a _ ?side1 HC0.out HJa.out).mono ?_); (case side1 => repeat (first | exact HR01.out | (with_reducible refine Kd.C_drewN ?_ _) | (with_reducible refine Kd.C_drew ?_))); rintro e w' ⟨rfl, ⟨nd, rfl⟩⟩; (try first | exact ⟨rfl, _, World.drewN_drewN _ _ _⟩ | exact ⟨rfl, _, Eq.trans (World.drewN_drewN _ _ _) (congrArg (World.drewN _) (Nat.add_assoc _ _ _))⟩)) | (go_at_call 45; (with_reducible refine (spec_l3Join.calls k1 A0 c0 l0 (rd l1 0) (rd l1 2) b _ ?side1 HC0.out HJb.out).mono ?_); (case side1 => repeat (first | exact HR01.out | (with_reducible refine Kd.C_drewN ?_ _) | (with_reducible refine Kd.C_drew ?_))); rintro e w' ⟨rfl, ⟨nd, rfl⟩⟩; (try first | exact ⟨rfl, _, World.drewN_drewN _ _ _⟩ | exact ⟨rfl, _, Eq.trans (World.drewN_drewN _ _ _) (congrArg (World.drewN _) (Nat.add_assoc _ _ _))⟩)) | (go_at_call 45; (with_reducible refine (spec_l3Join.calls k1 A0 c0 l0 (rd l1 0) (rd l1 3) c _ ?side1 HC0.out HJc.out).mono ?_); (case side1 => repeat (first | exact HR01.out | (with_reducible refine Kd.C_drewN ?_ _) | (with_reducible refine Kd.C_drew ?_))); rintro e w' ⟨rfl, ⟨nd, rfl⟩⟩; (try first | exact ⟨rfl, _, World.drewN_drewN _ _ _⟩ | exact ⟨rfl, _, Eq.trans (World.drewN_drewN _ _ _) (congrArg (World.drewN _) (Nat.add_assoc _ _ _))⟩))); try go_wp2)
                    go_ret
                    exact ⟨rfl, by repeat (first | exact HB1.out | apply pw_below_drewN | apply below_drew)⟩
                  · rw [if_neg e3] at H
                    have f3 : (b != c) = true := bne_iff_ne.mpr e3
                    clear e3
                    obtain ⟨u, hu, H⟩ := Option.bind_eq_some_iff.mp H
                    have HT1 := Aside0.mk hu
                    clear hu
                    cases u with
                    | true =>
                      obtain rfl : false = r := by simpa using H
                      clear H
                      go_wp2
                      repeat (go_quiet (first | (go_at_call 45; (with_reducible refine (spec_l3Join.calls k1 A0 c0 l0 (rd l1 0) (rd l1 1) a _ ?side1 HC0.out HJa.out).mono ?_); (case side1 => repeat (first | exact HR01.out | (with_reducible refine Kd.C_drewN ?_ _) | (with_reducible refine Kd.C_drew ?_))); rintro e w' ⟨rfl, ⟨nd, rfl⟩⟩; (try first | exact ⟨rfl, _, World.drewN_drewN _ _ _⟩ | exact ⟨rfl, _, Eq.trans (World.drewN_drewN _ _ _) (congrArg (World.drewN _) (Nat.add_assoc _ _ _))⟩)) | (go_at_call 45; (with_reducible refine (spec_l3Join.calls k1 A0 c0 l0 (rd l1 0) (rd l1 2) b _ ?side1 HC0.out HJb.out).mono ?_); (case side1 => repeat (first | exact HR01.out | (with_reducible refine Kd.C_drewN ?_ _) | (with_reducible refine Kd.C_drew ?_))); rintro e w' ⟨rfl, ⟨nd, rfl⟩⟩; (try first | exact ⟨rfl, _, World.drewN_drewN _ _ _⟩ | exact ⟨rfl, _, Eq.trans (World.drewN_drewN _ _ _) (congrArg (World.drewN _) (Nat.add_assoc _ _ _))⟩)) | (go_at_call 45; (with_reducible refine (spec_l3Join.calls k1 A0 c0 l0 (rd l1 0) (rd l1 3) c _ ?side1 HC0.out HJc.out).mono ?_); (case side1 => repeat (first | exact HR01.out | (with_reducible refine Kd.C_drewN ?_ _) | (with_reducible refine Kd.C_drew ?_))); rintro e w' ⟨rfl, ⟨nd, rfl⟩⟩; (try first | exact ⟨rfl, _, World.drewN_drewN _ _ _⟩ | exact ⟨rfl, _, Eq.trans (World.drewN_drewN _ _ _) (congrArg (World.drewN _) (Nat.add_assoc _ _ _))⟩)) | (go_at_call 44; (with_reducible refine (spec_l3Three.calls k1 A0 c0 l0 (rd l1 1) (rd l1 2) (rd l1 3) true _ ?side1 HC0.out HT1.out).mono ?_); (case side1 => repeat (first | exact HR01.out | (with_reducible refine Kd.C_drewN ?_ _) | (with_reducible refine Kd.C_drew ?_))); rintro e w' ⟨rfl, ⟨nd, rfl⟩⟩; (try first | exact ⟨rfl, _, World.drewN_drewN _ _ _⟩ | exact ⟨rfl, _, Eq.trans (World.drewN_drewN _ _ _) (congrArg (World.drewN _) (Nat.add_assoc _ _ _))⟩))); try go_wp2)
                      go_ret
                      exact ⟨rfl, by repeat (first | exact HB1.out | apply pw_below_drewN | apply below_drew)⟩
                    | false =>
                      obtain ⟨v, hv, H⟩ : ∃ v, spec_l3Three.f k1 l0 (rd l1 4) (rd l1 5) (rd l1 6) = some v ∧ some (!v) = some r := Option.bind_eq_some_iff.mp (by simpa using H)
                      have HT2 := Aside0.mk hv
                      obtain rfl := Option.some.inj H
                      clear hv H
                      go_wp2
                      repeat (go_quiet (first | (go_at_call 45; (with_reducible refine (spec_l3Join.calls k1 A0 c0 l0 (rd l1 0) (rd l1 1) a _ ?side1 HC0.out HJa.out).mono ?_); (case side1 => repeat (first | exact HR01.out | (with_reducible refine Kd.C_drewN ?_ _) | (with_reducible refine Kd.C_drew ?_))); rintro e w' ⟨rfl, ⟨nd, rfl⟩⟩; (try first | exact ⟨rfl, _, World.drewN_drewN _ _ _⟩ | exact ⟨rfl, _, Eq.trans (World.drewN_drewN _ _ _) (congrArg (World.drewN _) (Nat.add_assoc _ _ _))⟩)) | (go_at_call 45; (with_reducible refine (spec_l3Join.calls k1 A0 c0 l0 (rd l1 0) (rd l1 2) b _ ?side1 HC0.out HJb.out).mono ?_); (case side1 => repeat (first | exact HR01.out | (with_reducible refine Kd.C_drewN ?_ _) | (with_reducible refine Kd.C_drew ?_))); rintro e w' ⟨rfl, ⟨nd, rfl⟩⟩; (try first | exact ⟨rfl, _, World.drewN_drewN _ _ _⟩ | exact ⟨rfl, _, Eq.trans (World.drewN_drewN _ _ _) (congrArg (World.drewN _) (Nat.add_assoc _ _ _))⟩)) | (go_at_call 45; (with_reducible refine (spec_l3Join.calls k1 A0 c0 l0 (rd l1 0) (rd l1 3) c _ ?side1 HC0.out HJc.out).mono ?_); (case side1 => repeat (first | exact HR01.out | (with_reducible refine Kd.C_drewN ?_ _) | (with_reducible refine Kd.C_drew ?_))); rintro e w' ⟨rfl, ⟨nd, rfl⟩⟩; (try first | exact ⟨rfl, _, World.drewN_drewN _ _ _⟩ | exact ⟨rfl, _, Eq.trans (World.drewN_drewN _ _ _) (congrArg (World.drewN _) (Nat.add_assoc _ _ _))⟩)) | (go_at_call 44; (with_reducible refine (spec_l3Three.calls k1 A0 c0 l0 (rd l1 1) (rd l1 2) (rd l1 3) false _ ?side1 HC0.out HT1.out).mono ?_); (case side1 => repeat (first | exact HR01.out | (with_reducible refine Kd.C_drewN ?_ _) | (with_reducible refine Kd.C_drew ?_))); rintro e w' ⟨rfl, ⟨nd, rfl⟩⟩; (try first | exact ⟨rfl, _, World.drewN_drewN _ _ _⟩ | exact ⟨rfl, _, Eq.trans (World.drewN_drewN _ _ _) (congrArg (World.drewN _) (Nat.add_assoc _ _ _))⟩)) | (go_at_call 44; (with_reducible refine (spec_l3Three.calls k1 A0 c0 l0 (rd l1 4) (rd l1 5) (rd l1 6) v _ ?side1 HC0.out HT2.out).mono ?_); (case side1 => repeat (first | exact HR01.out | (with_reducible refine Kd.C_drewN ?_ _) | (with_reducible refine Kd.C_drew ?_))); rintro e w' ⟨rfl, ⟨nd, rfl⟩⟩; (try first | exact ⟨rfl, _, World.drewN_drewN _ _ _⟩ | exact ⟨rfl, _, Eq.trans (World.drewN_drewN _ _ _) (congrArg (World.drewN _) (Nat.add_assoc _ _ _))⟩))); try go_wp2)
                      go_ret
                      exact ⟨rfl, by repeat (first | exact HB1.out | apply pw_below_drewN | apply below_drew)⟩
    · rw [if_neg h7] at h
      have h7b : ((l1.length : Int) != 7) = true := bne_iff_ne.mpr h7
      obtain rfl := Option.some.inj h
      clear h7
      go_enter Try.func26, Try.ntmps26
      go_wp2_with (fail)
      refine SC.out.mono ?_
      rintro e w1 ⟨rfl, hb⟩
      have HB1 := Aside0.mk hb
      clear hb SC
      go_wp2
      go_ret
      exact ⟨rfl, HB1.out⟩

end Go.Proofs.Ytiobhhcbdcbajaa.P
