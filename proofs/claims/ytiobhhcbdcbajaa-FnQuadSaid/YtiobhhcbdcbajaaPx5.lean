/- Contracts of Go functions of the given program: each says, under its own hypotheses, what a call returns and leaves. Written by this claim's own program over the kit's print. -/
import Derived.Test.YtiobhhcbdcbajaaPx0
import Derived.Test.YtiobhhcbdcbajaaPx1
import Derived.Test.YtiobhhcbdcbajaaPx4
namespace Go.Proofs.Ytiobhhcbdcbajaa.P
open Go.RowKit Go.Proofs.YtiobhhcbdcbajaaW.PrintWords Go.Proofs.YtiobhhcbdcbajaaW.PrintLast Go.Proofs.YtiobhhcbdcbajaaW.PrintMore
attribute [local go_sem] max2_int min2_int max_two min_two max_three min_three max_four min_four   -- for this text's walks alone
set_option linter.unusedVariables false
set_option linter.unusedSimpArgs false

/-! ### spec_l2Table: function 76 -/
def spec_l2Table.l0 : Nat → List Int → Int → Option (Bool)
  | 0, _, _ => none
  | k + 1, x0, x3 => if x3 < (x0.length : Int) then (if 0 ≤ x3 then ((spec_l1In.f (rd x0 x3)).bind fun t103 => (if t103 = true then (spec_l2Table.l0 k x0 (wrap64 (x3 + 1))) else (some false))) else (none)) else (some ((x0.length : Int) == 81))
def spec_l2Table.f (k : Nat) (l0 : List Int) : Option (Bool) := spec_l2Table.l0 k l0 0
theorem spec_l2Table.mono_l : ∀ k, (∀ y0 y1, LeO (spec_l2Table.l0 k y0 y1) (spec_l2Table.l0 (k + 1) y0 y1))
  | 0 => fun _ _ r h => by simp [spec_l2Table.l0] at h
  | k + 1 => by
    have ih0 := spec_l2Table.mono_l k
    · intro y0 y1
      unfold spec_l2Table.l0
      repeat' first
      | (with_reducible exact ih0 _ _)
      | (with_reducible exact LeO.refl _)
      | (with_reducible exact LeO.none _)
      | (with_reducible refine LeO.ite ?_ ?_)
      | (with_reducible refine LeO.bind ?_ (fun _ => ?_))
      | exact ih0 _ _
      | exact LeO.none _
      | refine LeO.ite ?_ ?_
      | refine LeO.bind ?_ (fun _ => ?_)
theorem spec_l2Table.mono : ∀ a0 k, LeO (spec_l2Table.f k a0) (spec_l2Table.f (k + 1) a0) := by
  intro a0 k
  have ih0 := spec_l2Table.mono_l k
  unfold spec_l2Table.f
  repeat' first
      | (with_reducible exact ih0 _ _)
      | (with_reducible exact LeO.refl _)
      | (with_reducible exact LeO.none _)
      | (with_reducible refine LeO.ite ?_ ?_)
      | (with_reducible refine LeO.bind ?_ (fun _ => ?_))
      | exact ih0 _ _
      | exact LeO.none _
      | refine LeO.ite ?_ ?_
      | refine LeO.bind ?_ (fun _ => ?_)
set_option maxHeartbeats 8000000 in
set_option maxRecDepth 100000 in
theorem spec_l2Table.calls (k : Nat) (A0 : Option Addr) (c0 : Nat) (l0 : List Int) (r : Bool) (w : World) (hr0 : Kd.C (Kd.int .i64) w A0 l0.length l0) (hc0 : l0.length ≤ c0) (h : spec_l2Table.f k l0 = some r) :
    Calls Try.prog 76 #[.slice A0 l0.length c0] w fun e w' => e = .returned (.bool r) ∧ Drawn0 w w' := by
  have HR0 := Aside0.mk hr0
  have HC0 := Aside0.mk hc0
  clear hr0 hc0
  have H : (spec_l2Table.l0 k l0 0) = some r := h
  clear h
  have H' := Aside0.mk H
  clear H
  go_enter Try.func76, Try.ntmps76
  go_wp2
  go_loopg [3] k (fun kq v3 w' => ∃ (x3_1 : Int), v3 = .int .i64 x3_1 ∧ Aside0 (spec_l2Table.l0 kq l0 x3_1 = some r) ∧ Aside0 (kq ≤ k) ∧ Drawn0 w w')
  case atStart => exact ⟨(0), (by first | rfl | (simp; done) | (simp [*]; done)), H', ⟨Nat.le_refl _⟩, by repeat (first | exact Drawn0.refl _ | apply Drawn0.step)⟩
  case round =>
    clear H'
    obtain ⟨x3_1, rfl, HA, HK1, ⟨m1, rfl⟩⟩ := hrel
    cases gk with
    | zero => exact absurd HA.out (by simp [spec_l2Table.l0])
    | succ k1 =>
      have H := HA.out
      clear HA
      simp only [spec_l2Table.l0] at H
      by_cases c2 : x3_1 < (l0.length : Int)
      · rw [if_pos c2] at H
        have c2b0 : decide (x3_1 < (l0.length : Int)) = true := decide_eq_true c2
        clear c2
        by_cases c3 : 0 ≤ x3_1
        · rw [if_pos c3] at H
          have c3b0 : decide (0 ≤ x3_1) = true := decide_eq_true c3
          clear c3
          replace H := Option.bind_eq_some_iff.mp H
          obtain ⟨t103, A40, H⟩ := H
          replace H : (if t103 = true then (spec_l2Table.l0 k1 l0 (wrap64 (x3_1 + 1))) else (some false)) = some r := H
          have A4 := Aside0.mk A40
          clear A40
          by_cases c5 : t103 = true
          · subst c5
            have H1 : (spec_l2Table.l0 k1 l0 (wrap64 (x3_1 + 1))) = some r := by rw [if_pos rfl] at H; exact H
            clear H
            have H := H1
            clear H1
            have H' := Aside0.mk H
            clear H
            have p102 : 0 ≤ (x3_1 : Int) := of_decide_eq_true (by first | (with_reducible assumption) | assumption)
            have q102 : x3_1 < (l0.length : Int) := of_decide_eq_true (by first | (with_reducible assumption) | assumption)
            obtain ⟨ad102, e102, hx102_0⟩ := Kd.at_int HR0.out x3_1 p102 q102
            cases e102
            replace p102 := eq_true p102
            replace q102 := eq_true q102
            go_wp2_with (first | ((with_reducible refine gate_callee (f := 97) rfl ?_); refine goesL_ (some 14) rfl rfl Try.func97 (by kernel_rfl) rfl #[.int .i64 (rd l0 x3_1)] rfl (by (try simp only [List.map_toArray, List.map_cons, List.map_nil]); first | done | rfl | (simp only [List.length_drop, List.length_take]; rfl)) ?_; (with_reducible refine (spec_l1In.calls (rd l0 x3_1) true _ A4.out).mono ?_); rintro e w' ⟨rfl, ⟨nd, rfl⟩⟩; refine ⟨_, rfl, ?_⟩))
            go_roundg k1
            case measure => have := HK1.out; omega
            case rel => exact ⟨(wrap64 (x3_1 + 1)), (by first | rfl | (simp; done) | (simp [*]; done)), H', ⟨by have := HK1.out; omega⟩, by repeat (first | exact Drawn0.refl _ | apply Drawn0.step)⟩
          · replace c5 := Bool.eq_false_iff.mpr c5
            subst c5
            have H1 : (some false) = some r := by rw [if_neg (show ¬ (false = true) by decide)] at H; exact H
            clear H
            have H := H1
            clear H1
            obtain rfl := Option.some.inj H
            have p102 : 0 ≤ (x3_1 : Int) := of_decide_eq_true (by first | (with_reducible assumption) | assumption)
            have q102 : x3_1 < (l0.length : Int) := of_decide_eq_true (by first | (with_reducible assumption) | assumption)
            obtain ⟨ad102, e102, hx102_0⟩ := Kd.at_int HR0.out x3_1 p102 q102
            cases e102
            replace p102 := eq_true p102
            replace q102 := eq_true q102
            go_wp2_with (first | ((with_reducible refine gate_callee (f := 97) rfl ?_); refine goesL_ (some 14) rfl rfl Try.func97 (by kernel_rfl) rfl #[.int .i64 (rd l0 x3_1)] rfl (by (try simp only [List.map_toArray, List.map_cons, List.map_nil]); first | done | rfl | (simp only [List.length_drop, List.length_take]; rfl)) ?_; (with_reducible refine (spec_l1In.calls (rd l0 x3_1) false _ A4.out).mono ?_); rintro e w' ⟨rfl, ⟨nd, rfl⟩⟩; refine ⟨_, rfl, ?_⟩))
            go_ret
            exact ⟨by first | rfl | (simp; done) | (simp [*]; done), by repeat (first | exact Drawn0.refl _ | apply Drawn0.step)⟩
        · rw [if_neg c3] at H
          exact absurd H (by simp)
      · rw [if_neg c2] at H
        have c2b0 : decide (x3_1 < (l0.length : Int)) = false := decide_eq_false c2
        clear c2
        obtain rfl := Option.some.inj H
        go_wp2
        go_ret
        exact ⟨by first | rfl | (simp; done) | (simp [*]; done), by repeat (first | exact Drawn0.refl _ | apply Drawn0.step)⟩

/-! ### spec_l2Units: function 77 -/
def spec_l2Units.l0 : Nat → List Int → Int → Option (Bool)
  | 0, _, _ => none
  | k + 1, x0, x3 => if x3 < 9 then (if 0 ≤ x3 then (if x3 < (x0.length : Int) then (if (rd x0 x3) = 0 then (if 0 ≤ (wrap64 (9 * x3)) then (if (wrap64 (9 * x3)) < (x0.length : Int) then (if (rd x0 (wrap64 (9 * x3))) = 0 then (if 0 ≤ (wrap64 (9 + x3)) then (if (wrap64 (9 + x3)) < (x0.length : Int) then (if (rd x0 (wrap64 (9 + x3))) = x3 then (if 0 ≤ (wrap64 ((wrap64 (9 * x3)) + 1)) then (if (wrap64 ((wrap64 (9 * x3)) + 1)) < (x0.length : Int) then (if (rd x0 (wrap64 ((wrap64 (9 * x3)) + 1))) = x3 then (spec_l2Units.l0 k x0 (wrap64 (x3 + 1))) else (some false)) else (none)) else (none)) else (some false)) else (none)) else (none)) else (some false)) else (none)) else (none)) else (some false)) else (none)) else (none)) else (some true)
def spec_l2Units.f (k : Nat) (l0 : List Int) : Option (Bool) := spec_l2Units.l0 k l0 0
theorem spec_l2Units.mono_l : ∀ k, (∀ y0 y1, LeO (spec_l2Units.l0 k y0 y1) (spec_l2Units.l0 (k + 1) y0 y1))
  | 0 => fun _ _ r h => by simp [spec_l2Units.l0] at h
  | k + 1 => by
    have ih0 := spec_l2Units.mono_l k
    · intro y0 y1
      unfold spec_l2Units.l0
      repeat' first
      | (with_reducible exact ih0 _ _)
      | (with_reducible exact LeO.refl _)
      | (with_reducible exact LeO.none _)
      | (with_reducible refine LeO.ite ?_ ?_)
      | (with_reducible refine LeO.bind ?_ (fun _ => ?_))
      | exact ih0 _ _
      | exact LeO.none _
      | refine LeO.ite ?_ ?_
      | refine LeO.bind ?_ (fun _ => ?_)
theorem spec_l2Units.mono : ∀ a0 k, LeO (spec_l2Units.f k a0) (spec_l2Units.f (k + 1) a0) := by
  intro a0 k
  have ih0 := spec_l2Units.mono_l k
  unfold spec_l2Units.f
  repeat' first
      | (with_reducible exact ih0 _ _)
      | (with_reducible exact LeO.refl _)
      | (with_reducible exact LeO.none _)
      | (with_reducible refine LeO.ite ?_ ?_)
      | (with_reducible refine LeO.bind ?_ (fun _ => ?_))
      | exact ih0 _ _
      | exact LeO.none _
      | refine LeO.ite ?_ ?_
      | refine LeO.bind ?_ (fun _ => ?_)
set_option maxHeartbeats 8000000 in
set_option maxRecDepth 100000 in
theorem spec_l2Units.calls (k : Nat) (A0 : Option Addr) (c0 : Nat) (l0 : List Int) (r : Bool) (w : World) (hr0 : Kd.C (Kd.int .i64) w A0 l0.length l0) (hc0 : l0.length ≤ c0) (h : spec_l2Units.f k l0 = some r) :
    Calls Try.prog 77 #[.slice A0 l0.length c0] w fun e w' => e = .returned (.bool r) ∧ Drawn0 w w' := by
  have HR0 := Aside0.mk hr0
  have HC0 := Aside0.mk hc0
  clear hr0 hc0
  have H : (spec_l2Units.l0 k l0 0) = some r := h
  clear h
  have H' := Aside0.mk H
  clear H
  go_enter Try.func77, Try.ntmps77
  go_wp2
  go_loopg [3] k (fun kq v3 w' => ∃ (x3_1 : Int), v3 = .int .i64 x3_1 ∧ Aside0 (spec_l2Units.l0 kq l0 x3_1 = some r) ∧ Aside0 (kq ≤ k) ∧ Drawn0 w w')
  case atStart => exact ⟨(0), (by first | rfl | (simp; done) | (simp [*]; done)), H', ⟨Nat.le_refl _⟩, by repeat (first | exact Drawn0.refl _ | apply Drawn0.step)⟩
  case round =>
    clear H'
    obtain ⟨x3_1, rfl, HA, HK1, ⟨m1, rfl⟩⟩ := hrel
    cases gk with
    | zero => exact absurd HA.out (by simp [spec_l2Units.l0])
    | succ k1 =>
      have H := HA.out
      clear HA
      simp only [spec_l2Units.l0] at H
      by_cases c2 : x3_1 < 9
      · rw [if_pos c2] at H
        have c2b0 : decide (x3_1 < 9) = true := decide_eq_true c2
        clear c2
        by_cases c3 : 0 ≤ x3_1
        · rw [if_pos c3] at H
          have c3b0 : decide (0 ≤ x3_1) = true := decide_eq_true c3
          clear c3
          by_cases c4 : x3_1 < (l0.length : Int)
          · rw [if_pos c4] at H
            have c4b0 : decide (x3_1 < (l0.length : Int)) = true := decide_eq_true c4
            clear c4
            by_cases c5 : (rd l0 x3_1) = 0
            · rw [if_pos c5] at H
              have c5b0 : ((rd l0 x3_1) == 0) = true := beq_iff_eq.mpr c5
              have c5b1 : ((rd l0 x3_1) != 0) = false := bne_eq_false_iff_eq.mpr c5
              clear c5
              obtain ⟨ji6, hji6⟩ : ∃ j_ : Int, (wrap64 (9 * x3_1)) = j_ := ⟨_, rfl⟩
              replace H : (if 0 ≤ (ji6) then (if (ji6) < (l0.length : Int) then (if (rd l0 (ji6)) = 0 then (if 0 ≤ (wrap64 (9 + x3_1)) then (if (wrap64 (9 + x3_1)) < (l0.length : Int) then (if (rd l0 (wrap64 (9 + x3_1))) = x3_1 then (if 0 ≤ (wrap64 ((ji6) + 1)) then (if (wrap64 ((ji6) + 1)) < (l0.length : Int) then (if (rd l0 (wrap64 ((ji6) + 1))) = x3_1 then (spec_l2Units.l0 k1 l0 (wrap64 (x3_1 + 1))) else (some false)) else (none)) else (none)) else (some false)) else (none)) else (none)) else (some false)) else (none)) else (none)) = some r := by first | (rw [hji6] at H; exact H) | (simp only [hji6] at H ⊢; exact H)
              have hji6w : (IntKind.i64.wrap (9 * x3_1)) = ji6 := (i64_w _).trans hji6
              by_cases c7 : 0 ≤ (ji6)
              · rw [if_pos c7] at H
                have c7b0 : decide (0 ≤ (ji6)) = true := decide_eq_true c7
                clear c7
                by_cases c8 : (ji6) < (l0.length : Int)
                · rw [if_pos c8] at H
                  have c8b0 : decide ((ji6) < (l0.length : Int)) = true := decide_eq_true c8
                  clear c8
                  by_cases c9 : (rd l0 (ji6)) = 0
                  · rw [if_pos c9] at H
                    have c9b0 : ((rd l0 (ji6)) == 0) = true := beq_iff_eq.mpr c9
                    have c9b1 : ((rd l0 (ji6)) != 0) = false := bne_eq_false_iff_eq.mpr c9
                    clear c9
                    obtain ⟨ji10, hji10⟩ : ∃ j_ : Int, (wrap64 (9 + x3_1)) = j_ := ⟨_, rfl⟩
                    replace H : (if 0 ≤ (ji10) then (if (ji10) < (l0.length : Int) then (if (rd l0 (ji10)) = x3_1 then (if 0 ≤ (wrap64 ((ji6) + 1)) then (if (wrap64 ((ji6) + 1)) < (l0.length : Int) then (if (rd l0 (wrap64 ((ji6) + 1))) = x3_1 then (spec_l2Units.l0 k1 l0 (wrap64 (x3_1 + 1))) else (some false)) else (none)) else (none)) else (some false)) else (none)) else (none)) = some r := by first | (rw [hji10] at H; exact H) | (simp only [hji10] at H ⊢; exact H)
                    have hji10w : (IntKind.i64.wrap (9 + x3_1)) = ji10 := (i64_w _).trans hji10
                    by_cases c11 : 0 ≤ (ji10)
                    · rw [if_pos c11] at H
                      have c11b0 : decide (0 ≤ (ji10)) = true := decide_eq_true c11
                      clear c11
                      by_cases c12 : (ji10) < (l0.length : Int)
                      · rw [if_pos c12] at H
                        have c12b0 : decide ((ji10) < (l0.length : Int)) = true := decide_eq_true c12
                        clear c12
                        by_cases c13 : (rd l0 (ji10)) = x3_1
                        · rw [if_pos c13] at H
                          have c13b0 : ((rd l0 (ji10)) == x3_1) = true := beq_iff_eq.mpr c13
                          have c13b1 : ((rd l0 (ji10)) != x3_1) = false := bne_eq_false_iff_eq.mpr c13
                          clear c13
                          obtain ⟨ji14, hji14⟩ : ∃ j_ : Int, (wrap64 ((ji6) + 1)) = j_ := ⟨_, rfl⟩
                          replace H : (if 0 ≤ (ji14) then (if (ji14) < (l0.length : Int) then (if (rd l0 (ji14)) = x3_1 then (spec_l2Units.l0 k1 l0 (wrap64 (x3_1 + 1))) else (some false)) else (none)) else (none)) = some r := by first | (rw [hji14] at H; exact H) | (simp only [hji14] at H ⊢; exact H)
                          have hji14w : (IntKind.i64.wrap ((ji6) + 1)) = ji14 := (i64_w _).trans hji14
                          by_cases c15 : 0 ≤ (ji14)
                          · rw [if_pos c15] at H
                            have c15b0 : decide (0 ≤ (ji14)) = true := decide_eq_true c15
                            clear c15
                            by_cases c16 : (ji14) < (l0.length : Int)
                            · rw [if_pos c16] at H
                              have c16b0 : decide ((ji14) < (l0.length : Int)) = true := decide_eq_true c16
                              clear c16
                              by_cases c17 : (rd l0 (ji14)) = x3_1
                              · rw [if_pos c17] at H
                                have c17b0 : ((rd l0 (ji14)) == x3_1) = true := beq_iff_eq.mpr c17
                                have c17b1 : ((rd l0 (ji14)) != x3_1) = false := bne_eq_false_iff_eq.mpr c17
                                clear c17
                                have H' := Aside0.mk H
                                clear H
                                have p104 : 0 ≤ (x3_1 : Int) := of_decide_eq_true (by first | (with_reducible assumption) | assumption)
                                have q104 : x3_1 < (l0.length : Int) := of_decide_eq_true (by first | (with_reducible assumption) | assumption)
                                obtain ⟨ad104, e104, hx104_0⟩ := Kd.at_int HR0.out x3_1 p104 q104
                                cases e104
                                replace p104 := eq_true p104
                                replace q104 := eq_true q104
                                have p105 : 0 ≤ ((ji6) : Int) := of_decide_eq_true (by first | (with_reducible assumption) | assumption)
                                have q105 : (ji6) < (l0.length : Int) := of_decide_eq_true (by first | (with_reducible assumption) | assumption)
                                obtain ⟨ad105, e105, hx105_0⟩ := Kd.at_int HR0.out (ji6) p105 q105
                                obtain rfl : ad104 = ad105 := (by injection e105)
                                replace p105 := eq_true p105
                                replace q105 := eq_true q105
                                have p106 : 0 ≤ ((ji10) : Int) := of_decide_eq_true (by first | (with_reducible assumption) | assumption)
                                have q106 : (ji10) < (l0.length : Int) := of_decide_eq_true (by first | (with_reducible assumption) | assumption)
                                obtain ⟨ad106, e106, hx106_0⟩ := Kd.at_int HR0.out (ji10) p106 q106
                                obtain rfl : ad104 = ad106 := (by injection e106)
                                replace p106 := eq_true p106
                                replace q106 := eq_true q106
                                have p107 : 0 ≤ ((ji14) : Int) := of_decide_eq_true (by first | (with_reducible assumption) | assumption)
                                have q107 : (ji14) < (l0.length : Int) := of_decide_eq_true (by first | (with_reducible assumption) | assumption)
                                obtain ⟨ad107, e107, hx107_0⟩ := Kd.at_int HR0.out (ji14) p107 q107
                                obtain rfl : ad104 = ad107 := (by injection e107)
                                replace p107 := eq_true p107
                                replace q107 := eq_true q107
                                go_wp2
                                go_roundg k1
                                case measure => have := HK1.out; omega
                                case rel => exact ⟨(wrap64 (x3_1 + 1)), (by first | rfl | (simp; done) | (simp [*]; done)), H', ⟨by have := HK1.out; omega⟩, by repeat (first | exact Drawn0.refl _ | apply Drawn0.step)⟩
                              · rw [if_neg c17] at H
                                have c17b0 : ((rd l0 (ji14)) == x3_1) = false := beq_eq_false_iff_ne.mpr c17
                                have c17b1 : ((rd l0 (ji14)) != x3_1) = true := bne_iff_ne.mpr c17
                                obtain rfl := Option.some.inj H
                                have p104 : 0 ≤ (x3_1 : Int) := of_decide_eq_true (by first | (with_reducible assumption) | assumption)
                                have q104 : x3_1 < (l0.length : Int) := of_decide_eq_true (by first | (with_reducible assumption) | assumption)
                                obtain ⟨ad104, e104, hx104_0⟩ := Kd.at_int HR0.out x3_1 p104 q104
                                cases e104
                                replace p104 := eq_true p104
                                replace q104 := eq_true q104
                                have p105 : 0 ≤ ((ji6) : Int) := of_decide_eq_true (by first | (with_reducible assumption) | assumption)
                                have q105 : (ji6) < (l0.length : Int) := of_decide_eq_true (by first | (with_reducible assumption) | assumption)
                                obtain ⟨ad105, e105, hx105_0⟩ := Kd.at_int HR0.out (ji6) p105 q105
                                obtain rfl : ad104 = ad105 := (by injection e105)
                                replace p105 := eq_true p105
                                replace q105 := eq_true q105
                                have p106 : 0 ≤ ((ji10) : Int) := of_decide_eq_true (by first | (with_reducible assumption) | assumption)
                                have q106 : (ji10) < (l0.length : Int) := of_decide_eq_true (by first | (with_reducible assumption) | assumption)
                                obtain ⟨ad106, e106, hx106_0⟩ := Kd.at_int HR0.out (ji10) p106 q106
                                obtain rfl : ad104 = ad106 := (by injection e106)
                                replace p106 := eq_true p106
                                replace q106 := eq_true q106
                                have p107 : 0 ≤ ((ji14) : Int) := of_decide_eq_true (by first | (with_reducible assumption) | assumption)
                                have q107 : (ji14) < (l0.length : Int) := of_decide_eq_true (by first | (with_reducible assumption) | assumption)
                                obtain ⟨ad107, e107, hx107_0⟩ := Kd.at_int HR0.out (ji14) p107 q107
                                obtain rfl : ad104 = ad107 := (by injection e107)
                                replace p107 := eq_true p107
                                replace q107 := eq_true q107
                                go_wp2
                                go_ret
                                exact ⟨by first | rfl | (simp; done) | (simp only [← hji6, ← hji10, ← hji14] <;> (first | rfl | simp)) | (simp [*]; done), by repeat (first | exact Drawn0.refl _ | apply Drawn0.step)⟩
                            · rw [if_neg c16] at H
                              exact absurd H (by simp)
                          · rw [if_neg c15] at H
                            exact absurd H (by simp)
                        · rw [if_neg c13] at H
                          have c13b0 : ((rd l0 (ji10)) == x3_1) = false := beq_eq_false_iff_ne.mpr c13
                          have c13b1 : ((rd l0 (ji10)) != x3_1) = true := bne_iff_ne.mpr c13
                          obtain rfl := Option.some.inj H
                          have p104 : 0 ≤ (x3_1 : Int) := of_decide_eq_true (by first | (with_reducible assumption) | assumption)
                          have q104 : x3_1 < (l0.length : Int) := of_decide_eq_true (by first | (with_reducible assumption) | assumption)
                          obtain ⟨ad104, e104, hx104_0⟩ := Kd.at_int HR0.out x3_1 p104 q104
                          cases e104
                          replace p104 := eq_true p104
                          replace q104 := eq_true q104
                          have p105 : 0 ≤ ((ji6) : Int) := of_decide_eq_true (by first | (with_reducible assumption) | assumption)
                          have q105 : (ji6) < (l0.length : Int) := of_decide_eq_true (by first | (with_reducible assumption) | assumption)
                          obtain ⟨ad105, e105, hx105_0⟩ := Kd.at_int HR0.out (ji6) p105 q105
                          obtain rfl : ad104 = ad105 := (by injection e105)
                          replace p105 := eq_true p105
                          replace q105 := eq_true q105
                          have p106 : 0 ≤ ((ji10) : Int) := of_decide_eq_true (by first | (with_reducible assumption) | assumption)
                          have q106 : (ji10) < (l0.length : Int) := of_decide_eq_true (by first | (with_reducible assumption) | assumption)
                          obtain ⟨ad106, e106, hx106_0⟩ := Kd.at_int HR0.out (ji10) p106 q106
                          obtain rfl : ad104 = ad106 := (by injection e106)
                          replace p106 := eq_true p106
                          replace q106 := eq_true q106
                          go_wp2
                          go_ret
                          exact ⟨by first | rfl | (simp; done) | (simp only [← hji6, ← hji10] <;> (first | rfl | simp)) | (simp [*]; done), by repeat (first | exact Drawn0.refl _ | apply Drawn0.step)⟩
                      · rw [if_neg c12] at H
                        exact absurd H (by simp)
                    · rw [if_neg c11] at H
                      exact absurd H (by simp)
                  · rw [if_neg c9] at H
                    have c9b0 : ((rd l0 (ji6)) == 0) = false := beq_eq_false_iff_ne.mpr c9
                    have c9b1 : ((rd l0 (ji6)) != 0) = true := bne_iff_ne.mpr c9
                    obtain rfl := Option.some.inj H
                    have p104 : 0 ≤ (x3_1 : Int) := of_decide_eq_true (by first | (with_reducible assumption) | assumption)
                    have q104 : x3_1 < (l0.length : Int) := of_decide_eq_true (by first | (with_reducible assumption) | assumption)
                    obtain ⟨ad104, e104, hx104_0⟩ := Kd.at_int HR0.out x3_1 p104 q104
                    cases e104
                    replace p104 := eq_true p104
                    replace q104 := eq_true q104
                    have p105 : 0 ≤ ((ji6) : Int) := of_decide_eq_true (by first | (with_reducible assumption) | assumption)
                    have q105 : (ji6) < (l0.length : Int) := of_decide_eq_true (by first | (with_reducible assumption) | assumption)
                    obtain ⟨ad105, e105, hx105_0⟩ := Kd.at_int HR0.out (ji6) p105 q105
                    obtain rfl : ad104 = ad105 := (by injection e105)
                    replace p105 := eq_true p105
                    replace q105 := eq_true q105
                    go_wp2
                    go_ret
                    exact ⟨by first | rfl | (simp; done) | (simp only [← hji6] <;> (first | rfl | simp)) | (simp [*]; done), by repeat (first | exact Drawn0.refl _ | apply Drawn0.step)⟩
                · rw [if_neg c8] at H
                  exact absurd H (by simp)
              · rw [if_neg c7] at H
                exact absurd H (by simp)
            · rw [if_neg c5] at H
              have c5b0 : ((rd l0 x3_1) == 0) = false := beq_eq_false_iff_ne.mpr c5
              have c5b1 : ((rd l0 x3_1) != 0) = true := bne_iff_ne.mpr c5
              obtain rfl := Option.some.inj H
              have p104 : 0 ≤ (x3_1 : Int) := of_decide_eq_true (by first | (with_reducible assumption) | assumption)
              have q104 : x3_1 < (l0.length : Int) := of_decide_eq_true (by first | (with_reducible assumption) | assumption)
              obtain ⟨ad104, e104, hx104_0⟩ := Kd.at_int HR0.out x3_1 p104 q104
              cases e104
              replace p104 := eq_true p104
              replace q104 := eq_true q104
              go_wp2
              go_ret
              exact ⟨by first | rfl | (simp; done) | (simp [*]; done), by repeat (first | exact Drawn0.refl _ | apply Drawn0.step)⟩
          · rw [if_neg c4] at H
            exact absurd H (by simp)
        · rw [if_neg c3] at H
          exact absurd H (by simp)
      · rw [if_neg c2] at H
        have c2b0 : decide (x3_1 < 9) = false := decide_eq_false c2
        clear c2
        obtain rfl := Option.some.inj H
        go_wp2
        go_ret
        exact ⟨by first | rfl | (simp; done) | (simp [*]; done), by repeat (first | exact Drawn0.refl _ | apply Drawn0.step)⟩

/-! ### spec_l2Shares: function 78 -/
def spec_l2Shares.f (l : List Int) : Option Bool := if nines l 81 = true then some (all3 (shareI l)) else none
set_option maxHeartbeats 8000000 in
set_option maxRecDepth 100000 in
theorem spec_l2Shares.at81 (ad : Addr) (c0 : Nat) (l : List Int) (r : Bool) (w : World) (hn : nines l 81 = true) (hat : RowAt w ad l) (h : all3 (shareI l) = r) :
    Calls Try.prog 78 #[.slice (some ad) 81 c0] w fun e w' => e = .returned (.bool r) ∧ Drawn0 w w' := by
  have HN := Aside0.mk hn
  have HA := Aside0.mk hat
  have HR := Aside0.mk h
  clear hn hat h
  go_enter Try.func78, Try.ntmps78
  go_wp2
  go_loopg [3] 9 (fun kq v3 w1 => ∃ i : Int, v3 = .int .i64 i ∧ Aside0 (0 ≤ i ∧ i ≤ 9 ∧ (9 - i).toNat ≤ kq) ∧ Aside0 (∀ a b c, 0 ≤ a → a < i → 0 ≤ b → b ≤ 8 → 0 ≤ c → c ≤ 8 → shareI l a b c = true) ∧ Drawn0 w w1)
  case atStart => exact ⟨0, rfl, ⟨by omega, by omega, by decide⟩, ⟨fun a b c h0 h1 => absurd h1 (by omega)⟩, by repeat (first | exact Drawn0.refl _ | apply Drawn0.step)⟩
  case round =>
    obtain ⟨i, rfl, B1, A1, ⟨m1, rfl⟩⟩ := hrel
    have i0 := B1.out.1
    have it := B1.out.2.1
    by_cases hi : i < 9
    · have hib : decide (i < 9) = true := decide_eq_true hi
      have i1 : i ≤ 8 := by omega
      go_wp2
      go_loopg [4] 9 (fun kq v4 w1 => ∃ j : Int, v4 = .int .i64 j ∧ Aside0 (0 ≤ j ∧ j ≤ 9 ∧ (9 - j).toNat ≤ kq) ∧ Aside0 (∀ b c, 0 ≤ b → b < j → 0 ≤ c → c ≤ 8 → shareI l i b c = true) ∧ Drawn0 w w1)
      case atStart => exact ⟨0, rfl, ⟨by omega, by omega, by decide⟩, ⟨fun b c h0 h1 => absurd h1 (by omega)⟩, by repeat (first | exact Drawn0.refl _ | apply Drawn0.step)⟩
      case round =>
        obtain ⟨j, rfl, B2, A2, ⟨m2, rfl⟩⟩ := hrel
        have j0 := B2.out.1
        have jt := B2.out.2.1
        by_cases hj : j < 9
        · have hjb : decide (j < 9) = true := decide_eq_true hj
          have j1 : j ≤ 8 := by omega
          go_wp2
          go_loopg [5] 9 (fun kq v5 w1 => ∃ c : Int, v5 = .int .i64 c ∧ Aside0 (0 ≤ c ∧ c ≤ 9 ∧ (9 - c).toNat ≤ kq) ∧ Aside0 (∀ c', 0 ≤ c' → c' < c → shareI l i j c' = true) ∧ Drawn0 w w1)
          case atStart => exact ⟨0, rfl, ⟨by omega, by omega, by decide⟩, ⟨fun c h0 h1 => absurd h1 (by omega)⟩, by repeat (first | exact Drawn0.refl _ | apply Drawn0.step)⟩
          case round =>
            obtain ⟨c, rfl, B3, A3, ⟨m3, rfl⟩⟩ := hrel
            have c0' := B3.out.1
            have ct := B3.out.2.1
            by_cases hc : c < 9
            · have hcb : decide (c < 9) = true := decide_eq_true hc
              have c1 : c ≤ 8 := by omega
              obtain ⟨q, hq⟩ : ∃ q, shareI l i j c = q := ⟨_, rfl⟩
              have HQ := Aside0.mk hq
              have h := hq
              clear hq
              unfold shareI at h
              have sm := addP_mem i0 i1 j0 j1
              have F1 := addS_some i0 i1 j0 j1
              obtain ⟨s, sE⟩ : ∃ z, addP i j = z := ⟨_, rfl⟩
              rw [sE] at F1 h sm
              obtain ⟨s0, s1⟩ := sm
              have kk2 := HA.out (9 * s + c) (by omega) (by omega)
              have w2 : IntKind.i64.wrap (9 * s) = 9 * s := w_in (by omega) (by omega)
              obtain ⟨jj2, e2⟩ : ∃ z, 9 * s + c = z := ⟨_, rfl⟩
              have g2 : IntKind.i64.wrap (9 * s + c) = jj2 := by rw [← e2]; exact w_in (by omega) (by omega)
              have p2 : 0 ≤ jj2 := by omega
              have q2 : jj2 < 81 := by omega
              rw [e2] at kk2 h
              obtain ⟨x1, x1E⟩ : ∃ z, rd l jj2 = z := ⟨_, rfl⟩
              rw [x1E] at kk2 h
              have kk3 := HA.out (9 * i + c) (by omega) (by omega)
              have x2m := rd_mem HN.out (9 * i + c)
              have w3 : IntKind.i64.wrap (9 * i) = 9 * i := w_in (by omega) (by omega)
              obtain ⟨jj3, e3⟩ : ∃ z, 9 * i + c = z := ⟨_, rfl⟩
              have g3 : IntKind.i64.wrap (9 * i + c) = jj3 := by rw [← e3]; exact w_in (by omega) (by omega)
              have p3 : 0 ≤ jj3 := by omega
              have q3 : jj3 < 81 := by omega
              rw [e3] at kk3 h x2m
              obtain ⟨x2, x2E⟩ : ∃ z, rd l jj3 = z := ⟨_, rfl⟩
              rw [x2E] at kk3 h x2m
              obtain ⟨x20, x21⟩ := x2m
              have kk4 := HA.out (9 * j + c) (by omega) (by omega)
              have x3m := rd_mem HN.out (9 * j + c)
              have w4 : IntKind.i64.wrap (9 * j) = 9 * j := w_in (by omega) (by omega)
              obtain ⟨jj4, e4⟩ : ∃ z, 9 * j + c = z := ⟨_, rfl⟩
              have g4 : IntKind.i64.wrap (9 * j + c) = jj4 := by rw [← e4]; exact w_in (by omega) (by omega)
              have p4 : 0 ≤ jj4 := by omega
              have q4 : jj4 < 81 := by omega
              rw [e4] at kk4 h x3m
              obtain ⟨x3, x3E⟩ : ∃ z, rd l jj4 = z := ⟨_, rfl⟩
              rw [x3E] at kk4 h x3m
              obtain ⟨x30, x31⟩ := x3m
              have F5 := addS_some x20 x21 x30 x31
              obtain ⟨y, yE⟩ : ∃ z, addP x2 x3 = z := ⟨_, rfl⟩
              rw [yE] at F5 h
              clear s0 s1 sE e2 x1E e3 x2E x20 x21 e4 x3E x30 x31 yE
              have F1 := Aside0.mk F1
              have F5 := Aside0.mk F5
              by_cases e : x1 = y
              · have eb : (x1 != y) = false := bne_eq_false_iff_eq.mpr e
                rw [decide_eq_true e] at h
                subst h
                clear e
                go_wp2
                repeat (go_quiet (first | (go_at_call 98; (with_reducible refine (spec_l1Add.calls i j s _ F1.out).mono ?_); rintro e w' ⟨rfl, ⟨nd, rfl⟩⟩; (try first | exact ⟨rfl, _, World.drewN_drewN _ _ _⟩ | exact ⟨rfl, _, Eq.trans (World.drewN_drewN _ _ _) (congrArg (World.drewN _) (Nat.add_assoc _ _ _))⟩)) | (go_at_call 98; (with_reducible refine (spec_l1Add.calls x2 x3 y _ F5.out).mono ?_); rintro e w' ⟨rfl, ⟨nd, rfl⟩⟩; (try first | exact ⟨rfl, _, World.drewN_drewN _ _ _⟩ | exact ⟨rfl, _, Eq.trans (World.drewN_drewN _ _ _) (congrArg (World.drewN _) (Nat.add_assoc _ _ _))⟩))); try go_wp2)
                go_roundg (8 - c).toNat
                case measure => have := B3.out.2.2; omega
                case rel => exact ⟨c + 1, by go_num, ⟨by omega, by omega, by omega⟩, ⟨fun c' h0 h1 => by
                    by_cases e : c' = c
                    · rw [e]; exact HQ.out
                    · exact A3.out c' h0 (by omega)⟩, by repeat (first | exact Drawn0.refl _ | apply Drawn0.step)⟩
              · have eb : (x1 != y) = true := bne_iff_ne.mpr e
                rw [decide_eq_false e] at h
                subst h
                clear e
                have hr : r = false := by rw [← HR.out]; exact all3_not i0 i1 j0 j1 c0' c1 HQ.out
                subst hr
                clear HR
                go_wp2
                repeat (go_quiet (first | (go_at_call 98; (with_reducible refine (spec_l1Add.calls i j s _ F1.out).mono ?_); rintro e w' ⟨rfl, ⟨nd, rfl⟩⟩; (try first | exact ⟨rfl, _, World.drewN_drewN _ _ _⟩ | exact ⟨rfl, _, Eq.trans (World.drewN_drewN _ _ _) (congrArg (World.drewN _) (Nat.add_assoc _ _ _))⟩)) | (go_at_call 98; (with_reducible refine (spec_l1Add.calls x2 x3 y _ F5.out).mono ?_); rintro e w' ⟨rfl, ⟨nd, rfl⟩⟩; (try first | exact ⟨rfl, _, World.drewN_drewN _ _ _⟩ | exact ⟨rfl, _, Eq.trans (World.drewN_drewN _ _ _) (congrArg (World.drewN _) (Nat.add_assoc _ _ _))⟩))); try go_wp2)
                go_ret
                exact ⟨rfl, by repeat (first | exact Drawn0.refl _ | apply Drawn0.step)⟩
            · have hcb : decide (c < 9) = false := decide_eq_false hc
              go_wp2
              go_roundg (8 - j).toNat
              case measure => have := B2.out.2.2; omega
              case rel => exact ⟨j + 1, by go_num, ⟨by omega, by omega, by omega⟩, ⟨fun b c' h0 h1 h2 h3 => by
                  by_cases e : b = j
                  · rw [e]; exact A3.out c' h2 (by omega)
                  · exact A2.out b c' h0 (by omega) h2 h3⟩, by repeat (first | exact Drawn0.refl _ | apply Drawn0.step)⟩
        · have hjb : decide (j < 9) = false := decide_eq_false hj
          go_wp2
          go_roundg (8 - i).toNat
          case measure => have := B1.out.2.2; omega
          case rel => exact ⟨i + 1, by go_num, ⟨by omega, by omega, by omega⟩, ⟨fun a b c' h0 h1 h2 h3 h4 h5 => by
              by_cases e : a = i
              · rw [e]; exact A2.out b c' h2 (by omega) h4 h5
              · exact A1.out a b c' h0 (by omega) h2 h3 h4 h5⟩, by repeat (first | exact Drawn0.refl _ | apply Drawn0.step)⟩
    · have hib : decide (i < 9) = false := decide_eq_false hi
      have hr : r = true := by rw [← HR.out]; exact all3_iff.mpr fun a b c' h0 h1 h2 h3 h4 h5 => A1.out a b c' h0 (by omega) h2 h3 h4 h5
      subst hr
      clear HR
      go_wp2
      go_ret
      exact ⟨rfl, by repeat (first | exact Drawn0.refl _ | apply Drawn0.step)⟩
theorem spec_l2Shares.calls (A0 : Option Addr) (c0 : Nat) (l0 : List Int) (r : Bool) (w : World) (hr0 : Kd.C (Kd.int .i64) w A0 l0.length l0) (hc0 : l0.length ≤ c0) (h : spec_l2Shares.f l0 = some r) :
    Calls Try.prog 78 #[.slice A0 l0.length c0] w fun e w' => e = .returned (.bool r) ∧ Drawn0 w w' := by
  unfold spec_l2Shares.f at h
  by_cases hn : nines l0 81 = true
  · rw [if_pos hn] at h
    have hl := nines_len hn
    obtain ⟨ad, rfl, hat⟩ := RowAt.mk' hl hr0
    rw [hl]
    exact spec_l2Shares.at81 ad c0 l0 r w hn hat (Option.some.inj h)
  · rw [if_neg hn] at h
    cases h

/-! ### spec_l2Solves: function 79 -/
def spec_l2Solves.f (l : List Int) (a1 a2 : Int) : Option Bool := if nines l 81 = true ∧ 0 ≤ a1 ∧ a1 ≤ 8 ∧ 0 ≤ a2 ∧ a2 ≤ 8 then some (once (lessI l a1 a2)) else none
set_option maxHeartbeats 8000000 in
set_option maxRecDepth 100000 in
theorem spec_l2Solves.at81 (ad : Addr) (c0 : Nat) (l : List Int) (c d : Int) (r : Bool) (w : World) (hn : nines l 81 = true) (hat : RowAt w ad l) (c0' : 0 ≤ c) (c1 : c ≤ 8) (d0 : 0 ≤ d) (d1 : d ≤ 8) (h : once (lessI l c d) = r) :
    Calls Try.prog 79 #[.slice (some ad) 81 c0, .int .i64 c, .int .i64 d] w fun e w' => e = .returned (.bool r) ∧ Below w.heap.size w w' := by
  have HN := Aside0.mk hn
  have HR := Aside0.mk h
  have HS := Aside0.mk (Seen.start w 4)
  have HB := Aside0.mk (below_alloc (Below.refl w.heap.size w) (.cells #[.bool false, .bool false, .bool false, .bool false, .bool false, .bool false, .bool false, .bool false, .bool false] 4))
  have HA := Aside0.mk hat
  have hmk : ∀ W : World, (Instr.makeSlice 58 (.int .i64 9) (.int .i64 9)).run Try.prog W = .ok (.slice (some ⟨W.heap.size, 0, none⟩) 9 9) (W.alloc (.cells #[.bool false, .bool false, .bool false, .bool false, .bool false, .bool false, .bool false, .bool false, .bool false] 4)) := fun W => by kernel_rfl
  clear hn hat h
  go_enter Try.func79, Try.ntmps79
  go_wp2
  go_loopg [8] 9 (fun kq v8 w1 => ∃ (s : Int → Bool) (i : Int), v8 = .int .i64 i ∧ Aside0 (0 ≤ i ∧ i ≤ 9 ∧ (9 - i).toNat ≤ kq) ∧ Aside0 (∀ j, s j = true ↔ ∃ x, 0 ≤ x ∧ x < i ∧ lessI l c d x = j) ∧ Aside0 (∀ x y, 0 ≤ x → x < y → y < i → lessI l c d x ≠ lessI l c d y) ∧ Aside0 (Seen w1 w.heap.size s) ∧ Aside0 (Below w.heap.size w w1))
  case atStart => exact ⟨fun _ => false, 0, rfl, ⟨by omega, by omega, by decide⟩, ⟨fun j => ⟨fun h => (by cases h), fun ⟨x, h0, h1, _⟩ => (by omega)⟩⟩, ⟨fun x y h0 h1 h2 => by omega⟩, HS, HB⟩
  case round =>
    clear HS HB
    obtain ⟨s, i, rfl, B1, A1, D1, HS1, HB1⟩ := hrel
    have HA1 := Aside0.mk (HA.out.below HB1.out)
    have i0 := B1.out.1
    have it := B1.out.2.1
    by_cases hi : i < 9
    · have hib : decide (i < 9) = true := decide_eq_true hi
      have i1 : i ≤ 8 := by omega
      obtain ⟨v', hv'⟩ : ∃ z, lessI l c d i = z := ⟨_, rfl⟩
      have h := hv'
      have HV := Aside0.mk hv'
      clear hv'
      unfold lessI at h
      have kk1 := HA1.out (9 * i + c) (by omega) (by omega)
      have x1m := rd_mem HN.out (9 * i + c)
      have w1 : IntKind.i64.wrap (9 * i) = 9 * i := w_in (by omega) (by omega)
      obtain ⟨jj1, e1⟩ : ∃ z, 9 * i + c = z := ⟨_, rfl⟩
      have g1 : IntKind.i64.wrap (9 * i + c) = jj1 := by rw [← e1]; exact w_in (by omega) (by omega)
      have p1 : 0 ≤ jj1 := by omega
      have q1 : jj1 < 81 := by omega
      rw [e1] at kk1 h x1m
      obtain ⟨x1, x1E⟩ : ∃ z, rd l jj1 = z := ⟨_, rfl⟩
      rw [x1E] at kk1 h x1m
      obtain ⟨x10, x11⟩ := x1m
      have kk2 := HA1.out (9 * i + d) (by omega) (by omega)
      have x2m := rd_mem HN.out (9 * i + d)
      obtain ⟨jj2, e2⟩ : ∃ z, 9 * i + d = z := ⟨_, rfl⟩
      have g2 : IntKind.i64.wrap (9 * i + d) = jj2 := by rw [← e2]; exact w_in (by omega) (by omega)
      have p2 : 0 ≤ jj2 := by omega
      have q2 : jj2 < 81 := by omega
      rw [e2] at kk2 h x2m
      obtain ⟨x2, x2E⟩ : ∃ z, rd l jj2 = z := ⟨_, rfl⟩
      rw [x2E] at kk2 h x2m
      obtain ⟨x20, x21⟩ := x2m
      have ym := minusP_mem x20 x21
      have F3 := minusS_some x20 x21
      obtain ⟨y, yE⟩ : ∃ z, minusP x2 = z := ⟨_, rfl⟩
      rw [yE] at F3 h ym
      obtain ⟨y0, y1⟩ := ym
      have vm := addP_mem x10 x11 y0 y1
      have F4 := addS_some x10 x11 y0 y1
      obtain ⟨v, vE⟩ : ∃ z, addP x1 y = z := ⟨_, rfl⟩
      rw [vE] at F4 h vm
      obtain ⟨v0, v1⟩ := vm
      clear e1 x1E x10 x11 e2 x2E x20 x21 y0 y1 yE vE
      have F3 := Aside0.mk F3
      have F4 := Aside0.mk F4
      subst h
      have v2 : v < 9 := by omega
      have hc := HS1.out.cell v v0 v2
      have hf := HS1.out.free v v0 v2
      cases hq : s v with
      | true =>
        rw [hq] at hc
        have HQ := Aside0.mk hq
        clear hq
        obtain ⟨x, x0', x1', hx⟩ := (A1.out v).mp HQ.out
        have hr : r = false := by
          rw [← HR.out]
          refine Bool.eq_false_iff.mpr fun ht => ?_
          exact once_iff.mp ht x i x0' (by omega) i0 (by omega) (by omega) (by rw [hx, HV.out])
        subst hr
        clear HR hx x0' x1'
        go_wp2
        repeat (go_quiet (first | (go_at_call 99; (with_reducible refine (spec_l1Minus.calls x2 y _ F3.out).mono ?_); rintro e w' ⟨rfl, ⟨nd, rfl⟩⟩; (try first | exact ⟨rfl, _, World.drewN_drewN _ _ _⟩ | exact ⟨rfl, _, Eq.trans (World.drewN_drewN _ _ _) (congrArg (World.drewN _) (Nat.add_assoc _ _ _))⟩)) | (go_at_call 98; (with_reducible refine (spec_l1Add.calls x1 y v _ F4.out).mono ?_); rintro e w' ⟨rfl, ⟨nd, rfl⟩⟩; (try first | exact ⟨rfl, _, World.drewN_drewN _ _ _⟩ | exact ⟨rfl, _, Eq.trans (World.drewN_drewN _ _ _) (congrArg (World.drewN _) (Nat.add_assoc _ _ _))⟩))); try go_wp2)
        go_ret
        exact ⟨rfl, by repeat (first | exact HB1.out | apply pw_below_drewN | apply below_drew)⟩
      | false =>
        rw [hq] at hc
        have HQ := Aside0.mk hq
        clear hq
        go_wp2
        repeat (go_quiet (first | (go_at_call 99; (with_reducible refine (spec_l1Minus.calls x2 y _ F3.out).mono ?_); rintro e w' ⟨rfl, ⟨nd, rfl⟩⟩; (try first | exact ⟨rfl, _, World.drewN_drewN _ _ _⟩ | exact ⟨rfl, _, Eq.trans (World.drewN_drewN _ _ _) (congrArg (World.drewN _) (Nat.add_assoc _ _ _))⟩)) | (go_at_call 98; (with_reducible refine (spec_l1Add.calls x1 y v _ F4.out).mono ?_); rintro e w' ⟨rfl, ⟨nd, rfl⟩⟩; (try first | exact ⟨rfl, _, World.drewN_drewN _ _ _⟩ | exact ⟨rfl, _, Eq.trans (World.drewN_drewN _ _ _) (congrArg (World.drewN _) (Nat.add_assoc _ _ _))⟩))); try go_wp2)
        go_roundg (8 - i).toNat
        case measure => have := B1.out.2.2; omega
        case rel => exact ⟨fun j => decide (j = v) || s j, i + 1, by go_num, ⟨by omega, by omega, by omega⟩, ⟨fun j => by
            rw [Bool.or_eq_true, decide_eq_true_eq, A1.out j]
            constructor
            · rintro (e | ⟨x, h0, h1, h2⟩)
              · exact ⟨i, i0, by omega, by rw [HV.out, e]⟩
              · exact ⟨x, h0, by omega, h2⟩
            · rintro ⟨x, h0, h1, h2⟩
              by_cases e : x = i
              · subst e
                exact .inl (by rw [← h2, HV.out])
              · exact .inr ⟨x, h0, by omega, h2⟩⟩, ⟨fun x y h0 h1 h2 => by
            by_cases e : y = i
            · subst e
              intro hxy
              have : s v = true := (A1.out v).mpr ⟨x, h0, h1, by rw [hxy, HV.out]⟩
              rw [HQ.out] at this
              cases this
            · exact D1.out x y h0 h1 (by omega)⟩, ⟨Seen.put (HS1.out.below (by repeat (first | exact Below.refl _ _ | apply pw_below_drewN | apply below_drew))) v0 v2⟩, ⟨below_set (by repeat (first | exact HB1.out | apply pw_below_drewN | apply below_drew)) (Nat.le_refl _)⟩⟩
    · have hib : decide (i < 9) = false := decide_eq_false hi
      have hr : r = true := by
        rw [← HR.out, once_iff]
        intro x y h0 h1 h2 h3 hne
        rcases Int.lt_or_gt_of_ne hne with hlt | hlt
        · exact D1.out x y h0 hlt (by omega)
        · exact fun e => D1.out y x h2 hlt (by omega) e.symm
      subst hr
      clear HR
      go_wp2
      go_ret
      exact ⟨rfl, HB1.out⟩
theorem spec_l2Solves.calls (A0 : Option Addr) (c0 : Nat) (l0 : List Int) (a1 : Int) (a2 : Int) (r : Bool) (w : World) (hr0 : Kd.C (Kd.int .i64) w A0 l0.length l0) (hc0 : l0.length ≤ c0) (h : spec_l2Solves.f l0 a1 a2 = some r) :
    Calls Try.prog 79 #[.slice A0 l0.length c0, .int .i64 a1, .int .i64 a2] w fun e w' => e = .returned (.bool r) ∧ Below w.heap.size w w' := by
  unfold spec_l2Solves.f at h
  by_cases hn : nines l0 81 = true ∧ 0 ≤ a1 ∧ a1 ≤ 8 ∧ 0 ≤ a2 ∧ a2 ≤ 8
  · rw [if_pos hn] at h
    have hl := nines_len hn.1
    obtain ⟨ad, rfl, hat⟩ := RowAt.mk' hl hr0
    rw [hl]
    exact spec_l2Solves.at81 ad c0 l0 a1 a2 r w hn.1 hat hn.2.1 hn.2.2.1 hn.2.2.2.1 hn.2.2.2.2 (Option.some.inj h)
  · rw [if_neg hn] at h
    cases h

end Go.Proofs.Ytiobhhcbdcbajaa.P
