/- Contracts of Go functions of the given program: each says, under its own hypotheses, what a call returns and leaves. Written by this claim's own program over the kit's print. -/
import Derived.Test.YtpkcbpjhgaeeoaaPx0
import Derived.Test.YtpkcbpjhgaeeoaaPx2
import Derived.Test.YtpkcbpjhgaeeoaaPx3
import Derived.Test.YtpkcbpjhgaeeoaaPx5
namespace Go.Proofs.Ytpkcbpjhgaeeoaa.P
open Go.RowKit Go.Proofs.YtpkcbpjhgaeeoaaW.PrintWords Go.Proofs.YtpkcbpjhgaeeoaaW.PrintLast Go.Proofs.YtpkcbpjhgaeeoaaW.PrintMore
attribute [local go_sem] max2_int min2_int max_two min_two max_three min_three max_four min_four   -- for this text's walks alone
set_option linter.unusedVariables false
set_option linter.unusedSimpArgs false

/-! ### laws_FnSquare: function 17 -/
def laws_FnSquare.j0 : Nat → Int → Bool → Bool → Bool → Option (Bool)
  | 0, _, _, _, _ => none
  | k + 1, x3, x4, x5, x22 => if x22 = true then (some (x4 == x5)) else ((impl_NineOrder.f k x3).bind fun t256 => (if t256 = 1 then ((impl_NineTimes.f x3 4).bind fun t257 => ((impl_NineSquare.f k t257).bind fun t258 => (some (!t258)))) else (if t256 = 2 then ((impl_NineTimes.f x3 4).bind fun t259 => ((impl_NineSquare.f k t259).bind fun t260 => (some (!t260)))) else (if t256 = 4 then ((impl_NineTimes.f x3 4).bind fun t261 => ((impl_NineSquare.f k t261).bind fun t262 => (some (!t262)))) else (some false)))))
def laws_FnSquare.f (k : Nat) (l0 : List Int) : Option (Bool) := if (l0.length : Int) > 1048576 then (some true) else ((spec_DrawNineSquare.f k l0).bind fun t253 => ((impl_NineSquare.f k t253).bind fun t254 => ((spec_NineSquare.f k t253).bind fun t255 => (if (t254 != t255) = true then (laws_FnSquare.j0 k t253 t254 t255 true) else (laws_FnSquare.j0 k t253 t254 t255 (!t254))))))
theorem laws_FnSquare.mono_l : ∀ k, (∀ y0 y1 y2 y3, LeO (laws_FnSquare.j0 k y0 y1 y2 y3) (laws_FnSquare.j0 (k + 1) y0 y1 y2 y3))
  | 0 => fun _ _ _ _ r h => by simp [laws_FnSquare.j0] at h
  | k + 1 => by
    have ih0 := laws_FnSquare.mono_l k
    · intro y0 y1 y2 y3
      unfold laws_FnSquare.j0
      repeat' first
      | (with_reducible exact ih0 _ _ _ _)
      | (with_reducible exact impl_NineOrder.mono _ _)
      | (with_reducible exact impl_NineSquare.mono _ _)
      | (with_reducible exact spec_DrawNineSquare.mono _ _)
      | (with_reducible exact spec_NineSquare.mono _ _)
      | (with_reducible exact LeO.refl _)
      | (with_reducible exact LeO.none _)
      | (with_reducible refine LeO.ite ?_ ?_)
      | (with_reducible refine LeO.bind ?_ (fun _ => ?_))
      | exact ih0 _ _ _ _
      | exact impl_NineOrder.mono _ _
      | exact impl_NineSquare.mono _ _
      | exact spec_DrawNineSquare.mono _ _
      | exact spec_NineSquare.mono _ _
      | exact LeO.none _
      | refine LeO.ite ?_ ?_
      | refine LeO.bind ?_ (fun _ => ?_)
theorem laws_FnSquare.mono : ∀ a0 k, LeO (laws_FnSquare.f k a0) (laws_FnSquare.f (k + 1) a0) := by
  intro a0 k
  have ih0 := laws_FnSquare.mono_l k
  unfold laws_FnSquare.f
  repeat' first
      | (with_reducible exact ih0 _ _ _ _)
      | (with_reducible exact impl_NineOrder.mono _ _)
      | (with_reducible exact impl_NineSquare.mono _ _)
      | (with_reducible exact spec_DrawNineSquare.mono _ _)
      | (with_reducible exact spec_NineSquare.mono _ _)
      | (with_reducible exact LeO.refl _)
      | (with_reducible exact LeO.none _)
      | (with_reducible refine LeO.ite ?_ ?_)
      | (with_reducible refine LeO.bind ?_ (fun _ => ?_))
      | exact ih0 _ _ _ _
      | exact impl_NineOrder.mono _ _
      | exact impl_NineSquare.mono _ _
      | exact spec_DrawNineSquare.mono _ _
      | exact spec_NineSquare.mono _ _
      | exact LeO.none _
      | refine LeO.ite ?_ ?_
      | refine LeO.bind ?_ (fun _ => ?_)
set_option maxHeartbeats 8000000 in
set_option maxRecDepth 100000 in
theorem laws_FnSquare.calls (k : Nat) (A0 : Option Addr) (c0 : Nat) (l0 : List Int) (r : Bool) (w : World) (hr0 : Kd.C (Kd.int .u8) w A0 l0.length l0) (hc0 : l0.length ≤ c0) (h : laws_FnSquare.f k l0 = some r) :
    Calls Try.prog 17 #[.slice A0 l0.length c0] w fun e w' => e = .returned (.bool r) ∧ Below w.heap.size w w' := by
  have HR0 := Aside0.mk hr0
  have HC0 := Aside0.mk hc0
  clear hr0 hc0
  have HB := Aside0.mk (Below.refl w.heap.size w)
  have H : (if (l0.length : Int) > 1048576 then (some true) else ((spec_DrawNineSquare.f k l0).bind fun t253 => ((impl_NineSquare.f k t253).bind fun t254 => ((spec_NineSquare.f k t253).bind fun t255 => (if (t254 != t255) = true then (laws_FnSquare.j0 k t253 t254 t255 true) else (laws_FnSquare.j0 k t253 t254 t255 (!t254))))))) = some r := h
  clear h
  by_cases c2 : (l0.length : Int) > 1048576
  · rw [if_pos c2] at H
    have c2b0 : decide (1048576 < (l0.length : Int)) = true := decide_eq_true c2
    have c2b1 : decide (1048576 < l0.length) = true := decide_eq_true (by omega)
    clear c2
    obtain rfl := Option.some.inj H
    go_enter Try.func17, Try.ntmps17
    go_wp2
    go_ret
    exact ⟨by first | rfl | (simp [errW_none, errW_some] <;> rfl) | (simp [*, errW_none, errW_some] <;> rfl), by repeat (first | (with_reducible first | exact HB.out | apply below_alloc | apply pw_below_drewN | apply below_drew1) | exact HB.out)⟩
  · rw [if_neg c2] at H
    have c2b0 : decide (1048576 < (l0.length : Int)) = false := decide_eq_false c2
    have c2b1 : decide (1048576 < l0.length) = false := decide_eq_false (by omega)
    clear c2
    replace H := Option.bind_eq_some_iff.mp H
    obtain ⟨t253, A30, H⟩ := H
    replace H : ((impl_NineSquare.f k t253).bind fun t254 => ((spec_NineSquare.f k t253).bind fun t255 => (if (t254 != t255) = true then (laws_FnSquare.j0 k t253 t254 t255 true) else (laws_FnSquare.j0 k t253 t254 t255 (!t254))))) = some r := H
    have A3 := Aside0.mk A30
    clear A30
    replace H := Option.bind_eq_some_iff.mp H
    obtain ⟨t254, A40, H⟩ := H
    replace H : ((spec_NineSquare.f k t253).bind fun t255 => (if (t254 != t255) = true then (laws_FnSquare.j0 k t253 t254 t255 true) else (laws_FnSquare.j0 k t253 t254 t255 (!t254)))) = some r := H
    have A4 := Aside0.mk A40
    clear A40
    replace H := Option.bind_eq_some_iff.mp H
    obtain ⟨t255, A50, H⟩ := H
    replace H : (if (t254 != t255) = true then (laws_FnSquare.j0 k t253 t254 t255 true) else (laws_FnSquare.j0 k t253 t254 t255 (!t254))) = some r := H
    have A5 := Aside0.mk A50
    clear A50
    have HC6 := Aside0.mk H
    clear H
    go_enter Try.func17, Try.ntmps17
    go_upto_region 6 with (first | ((with_reducible refine gate_callee (f := 39) rfl ?_); refine goesL_ (some 11) rfl rfl Try.func39 (by kernel_rfl) rfl #[.slice A0 l0.length c0] rfl (by (try simp only [List.map_toArray, List.map_cons, List.map_nil]); first | done | rfl | (simp only [List.length_drop, List.length_take]; rfl)) ?_; (with_reducible refine (spec_DrawNineSquare.calls k _ _ l0 t253 _ ?side1 ?side2 A3.out).mono ?_); (case side1 => repeat (first | exact HR0.out | (with_reducible refine Kd.C_alloc ?_ _) | (with_reducible refine Kd.C_drewN ?_ _) | (with_reducible refine Kd.C_drew ?_))); (case side2 => exact HC0.out); rintro e w7 ⟨rfl, hb⟩; refine ⟨_, rfl, ?_⟩; have n0_ := Aside0.mk (below_step (by repeat (first | (with_reducible first | exact HB.out | apply below_alloc | apply pw_below_drewN | apply below_drew1) | exact HB.out)) hb); clear HB; have HB := n0_; clear n0_; (try clear hb); (try clear hb2); (try clear hk); (try clear hi)) | ((with_reducible refine gate_callee (f := 32) rfl ?_); refine goesL_ (some 13) rfl rfl Try.func32 (by kernel_rfl) rfl #[.int .i64 t253] rfl (by (try simp only [List.map_toArray, List.map_cons, List.map_nil]); first | done | rfl | (simp only [List.length_drop, List.length_take]; rfl)) ?_; (with_reducible refine (impl_NineSquare.calls k t253 t254 _ A4.out).mono ?_); rintro e w' ⟨rfl, ⟨nd, rfl⟩⟩; refine ⟨_, rfl, ?_⟩) | ((with_reducible refine gate_callee (f := 31) rfl ?_); refine goesL_ (some 15) rfl rfl Try.func31 (by kernel_rfl) rfl #[.int .i64 t253] rfl (by (try simp only [List.map_toArray, List.map_cons, List.map_nil]); first | done | rfl | (simp only [List.length_drop, List.length_take]; rfl)) ?_; (with_reducible refine (spec_NineSquare.calls k t253 t255 _ A5.out).mono ?_); rintro e w' ⟨rfl, ⟨nd, rfl⟩⟩; refine ⟨_, rfl, ?_⟩))
    (try simp only [Act.put, List.setIfInBounds_toArray, List.set_cons_zero, List.set_cons_succ])
    go_cut [22] (fun v22 wc => ∃ (kq : Nat) (x22_5 : Bool), v22 = .bool x22_5 ∧ Aside0 (laws_FnSquare.j0 kq t253 t254 t255 x22_5 = some r) ∧ Aside0 (kq ≤ k) ∧ Aside0 (Below w.heap.size w wc))
    case first =>
      have H := HC6.out
      clear HC6
      by_cases c8 : (t254 != t255) = true
      · rw [if_pos c8] at H
        have c8b0 : (t254 != t255) = true := c8
        (try (have c8b1 : decide (t254 = t255) = false := by simpa using c8))
        (try (have c8b2 : (t254 == t255) = false := by simpa using c8))
        (try (have c8b3 : ¬ (t254 = t255) := by simpa using c8))
        clear c8
        (first | rw [c8b0] | (simp only [i64_w, i32_w]; rw [c8b0]) | skip)
        have H' := Aside0.mk H
        clear H
        go_wp2
        go_meet
        case rel => exact ⟨_, (true), (by first | rfl | (simp; done) | (simp [*]; done)), H', ⟨by first | omega | exact Nat.le_refl _⟩, ⟨by repeat (first | (with_reducible first | exact HB.out | apply below_alloc | apply pw_below_drewN | apply below_drew1) | exact HB.out)⟩⟩
      · rw [if_neg c8] at H
        have c8b0 : (t254 != t255) = false := by simpa using c8
        (try (have c8b1 : decide (t254 = t255) = true := by simpa using c8))
        (try (have c8b2 : (t254 == t255) = true := by simpa using c8))
        clear c8
        (first | rw [c8b0] | (simp only [i64_w, i32_w]; rw [c8b0]) | skip)
        have H' := Aside0.mk H
        clear H
        go_wp2
        go_meet
        case rel => exact ⟨_, (!t254), (by first | rfl | (simp; done) | (simp [*]; done)), H', ⟨by first | omega | exact Nat.le_refl _⟩, ⟨by repeat (first | (with_reducible first | exact HB.out | apply below_alloc | apply pw_below_drewN | apply below_drew1) | exact HB.out)⟩⟩
    case rest =>
      clear HC6
      try clear c1
      try clear c2
      try clear c2b0
      try clear c2b1
      try clear p2
      try clear c3
      try clear c8
      try clear c8b0
      try clear c8b1
      try clear c8b2
      obtain ⟨kq, x22_5, rfl, HA, HJ5, HB⟩ := hcut
      cases kq with
      | zero => exact absurd HA.out (by simp [laws_FnSquare.j0])
      | succ kj5 =>
        have H := HA.out
        clear HA
        simp only [laws_FnSquare.j0] at H
        by_cases c9 : x22_5 = true
        · subst c9
          have H1 : (some (t254 == t255)) = some r := by rw [if_pos rfl] at H; exact H
          clear H
          have H := H1
          clear H1
          obtain rfl := Option.some.inj H
          go_wp2
          go_ret
          exact ⟨by first | rfl | (simp [errW_none, errW_some] <;> rfl) | (simp [*, errW_none, errW_some] <;> rfl), by repeat (first | (with_reducible first | exact HB.out | apply below_alloc | apply pw_below_drewN | apply below_drew1) | exact HB.out)⟩
        · replace c9 := Bool.eq_false_iff.mpr c9
          subst c9
          have H1 : ((impl_NineOrder.f kj5 t253).bind fun t256 => (if t256 = 1 then ((impl_NineTimes.f t253 4).bind fun t257 => ((impl_NineSquare.f kj5 t257).bind fun t258 => (some (!t258)))) else (if t256 = 2 then ((impl_NineTimes.f t253 4).bind fun t259 => ((impl_NineSquare.f kj5 t259).bind fun t260 => (some (!t260)))) else (if t256 = 4 then ((impl_NineTimes.f t253 4).bind fun t261 => ((impl_NineSquare.f kj5 t261).bind fun t262 => (some (!t262)))) else (some false))))) = some r := by rw [if_neg (show ¬ (false = true) by decide)] at H; exact H
          clear H
          have H := H1
          clear H1
          replace H := Option.bind_eq_some_iff.mp H
          obtain ⟨t256, A100, H⟩ := H
          replace H : (if t256 = 1 then ((impl_NineTimes.f t253 4).bind fun t257 => ((impl_NineSquare.f kj5 t257).bind fun t258 => (some (!t258)))) else (if t256 = 2 then ((impl_NineTimes.f t253 4).bind fun t259 => ((impl_NineSquare.f kj5 t259).bind fun t260 => (some (!t260)))) else (if t256 = 4 then ((impl_NineTimes.f t253 4).bind fun t261 => ((impl_NineSquare.f kj5 t261).bind fun t262 => (some (!t262)))) else (some false)))) = some r := H
          have A10 := Aside0.mk A100
          clear A100
          by_cases c11 : t256 = 1
          · rw [if_pos c11] at H
            have c11b0 : (t256 == 1) = true := beq_iff_eq.mpr c11
            have c11b1 : (t256 != 1) = false := bne_eq_false_iff_eq.mpr c11
            clear c11
            replace H := Option.bind_eq_some_iff.mp H
            obtain ⟨t257, A120, H⟩ := H
            replace H : ((impl_NineSquare.f kj5 t257).bind fun t258 => (some (!t258))) = some r := H
            have A12 := Aside0.mk A120
            clear A120
            replace H := Option.bind_eq_some_iff.mp H
            obtain ⟨t258, A130, H⟩ := H
            replace H : (some (!t258)) = some r := H
            have A13 := Aside0.mk A130
            clear A130
            obtain rfl := Option.some.inj H
            go_wp2_with (first | ((with_reducible refine gate_callee (f := 30) rfl ?_); refine goesL_ (some 27) rfl rfl Try.func30 (by kernel_rfl) rfl #[.int .i64 t253] rfl (by (try simp only [List.map_toArray, List.map_cons, List.map_nil]); first | done | rfl | (simp only [List.length_drop, List.length_take]; rfl)) ?_; (with_reducible refine (impl_NineOrder.calls kj5 t253 t256 _ A10.out).mono ?_); rintro e w' ⟨rfl, ⟨nd, rfl⟩⟩; refine ⟨_, rfl, ?_⟩) | (go_at_call 24; (with_reducible refine (impl_NineTimes.calls t253 4 t257 _ A12.out).mono ?_); rintro e w' ⟨rfl, ⟨nd, rfl⟩⟩) | (go_at_call 32; (with_reducible refine (impl_NineSquare.calls kj5 t257 t258 _ A13.out).mono ?_); rintro e w' ⟨rfl, ⟨nd, rfl⟩⟩))
            go_ret
            exact ⟨by first | rfl | (simp [errW_none, errW_some] <;> rfl) | (simp [*, errW_none, errW_some] <;> rfl), by repeat (first | (with_reducible first | exact HB.out | apply below_alloc | apply pw_below_drewN | apply below_drew1) | exact HB.out)⟩
          · rw [if_neg c11] at H
            have c11b0 : (t256 == 1) = false := beq_eq_false_iff_ne.mpr c11
            have c11b1 : (t256 != 1) = true := bne_iff_ne.mpr c11
            by_cases c14 : t256 = 2
            · rw [if_pos c14] at H
              have c14b0 : (t256 == 2) = true := beq_iff_eq.mpr c14
              have c14b1 : (t256 != 2) = false := bne_eq_false_iff_eq.mpr c14
              clear c14
              replace H := Option.bind_eq_some_iff.mp H
              obtain ⟨t259, A150, H⟩ := H
              replace H : ((impl_NineSquare.f kj5 t259).bind fun t260 => (some (!t260))) = some r := H
              have A15 := Aside0.mk A150
              clear A150
              replace H := Option.bind_eq_some_iff.mp H
              obtain ⟨t260, A160, H⟩ := H
              replace H : (some (!t260)) = some r := H
              have A16 := Aside0.mk A160
              clear A160
              obtain rfl := Option.some.inj H
              go_wp2_with (first | ((with_reducible refine gate_callee (f := 30) rfl ?_); refine goesL_ (some 27) rfl rfl Try.func30 (by kernel_rfl) rfl #[.int .i64 t253] rfl (by (try simp only [List.map_toArray, List.map_cons, List.map_nil]); first | done | rfl | (simp only [List.length_drop, List.length_take]; rfl)) ?_; (with_reducible refine (impl_NineOrder.calls kj5 t253 t256 _ A10.out).mono ?_); rintro e w' ⟨rfl, ⟨nd, rfl⟩⟩; refine ⟨_, rfl, ?_⟩) | (go_at_call 24; (with_reducible refine (impl_NineTimes.calls t253 4 t259 _ A15.out).mono ?_); rintro e w' ⟨rfl, ⟨nd, rfl⟩⟩) | (go_at_call 32; (with_reducible refine (impl_NineSquare.calls kj5 t259 t260 _ A16.out).mono ?_); rintro e w' ⟨rfl, ⟨nd, rfl⟩⟩))
              go_ret
              exact ⟨by first | rfl | (simp [errW_none, errW_some] <;> rfl) | (simp [*, errW_none, errW_some] <;> rfl), by repeat (first | (with_reducible first | exact HB.out | apply below_alloc | apply pw_below_drewN | apply below_drew1) | exact HB.out)⟩
            · rw [if_neg c14] at H
              have c14b0 : (t256 == 2) = false := beq_eq_false_iff_ne.mpr c14
              have c14b1 : (t256 != 2) = true := bne_iff_ne.mpr c14
              by_cases c17 : t256 = 4
              · rw [if_pos c17] at H
                have c17b0 : (t256 == 4) = true := beq_iff_eq.mpr c17
                have c17b1 : (t256 != 4) = false := bne_eq_false_iff_eq.mpr c17
                clear c17
                replace H := Option.bind_eq_some_iff.mp H
                obtain ⟨t261, A180, H⟩ := H
                replace H : ((impl_NineSquare.f kj5 t261).bind fun t262 => (some (!t262))) = some r := H
                have A18 := Aside0.mk A180
                clear A180
                replace H := Option.bind_eq_some_iff.mp H
                obtain ⟨t262, A190, H⟩ := H
                replace H : (some (!t262)) = some r := H
                have A19 := Aside0.mk A190
                clear A190
                obtain rfl := Option.some.inj H
                go_wp2_with (first | ((with_reducible refine gate_callee (f := 30) rfl ?_); refine goesL_ (some 27) rfl rfl Try.func30 (by kernel_rfl) rfl #[.int .i64 t253] rfl (by (try simp only [List.map_toArray, List.map_cons, List.map_nil]); first | done | rfl | (simp only [List.length_drop, List.length_take]; rfl)) ?_; (with_reducible refine (impl_NineOrder.calls kj5 t253 t256 _ A10.out).mono ?_); rintro e w' ⟨rfl, ⟨nd, rfl⟩⟩; refine ⟨_, rfl, ?_⟩) | (go_at_call 24; (with_reducible refine (impl_NineTimes.calls t253 4 t261 _ A18.out).mono ?_); rintro e w' ⟨rfl, ⟨nd, rfl⟩⟩) | (go_at_call 32; (with_reducible refine (impl_NineSquare.calls kj5 t261 t262 _ A19.out).mono ?_); rintro e w' ⟨rfl, ⟨nd, rfl⟩⟩))
                go_ret
                exact ⟨by first | rfl | (simp [errW_none, errW_some] <;> rfl) | (simp [*, errW_none, errW_some] <;> rfl), by repeat (first | (with_reducible first | exact HB.out | apply below_alloc | apply pw_below_drewN | apply below_drew1) | exact HB.out)⟩
              · rw [if_neg c17] at H
                have c17b0 : (t256 == 4) = false := beq_eq_false_iff_ne.mpr c17
                have c17b1 : (t256 != 4) = true := bne_iff_ne.mpr c17
                obtain rfl := Option.some.inj H
                go_wp2_with (first | ((with_reducible refine gate_callee (f := 30) rfl ?_); refine goesL_ (some 27) rfl rfl Try.func30 (by kernel_rfl) rfl #[.int .i64 t253] rfl (by (try simp only [List.map_toArray, List.map_cons, List.map_nil]); first | done | rfl | (simp only [List.length_drop, List.length_take]; rfl)) ?_; (with_reducible refine (impl_NineOrder.calls kj5 t253 t256 _ A10.out).mono ?_); rintro e w' ⟨rfl, ⟨nd, rfl⟩⟩; refine ⟨_, rfl, ?_⟩))
                go_ret
                exact ⟨by first | rfl | (simp [errW_none, errW_some] <;> rfl) | (simp [*, errW_none, errW_some] <;> rfl), by repeat (first | (with_reducible first | exact HB.out | apply below_alloc | apply pw_below_drewN | apply below_drew1) | exact HB.out)⟩

/-- THE ONE PURE STATEMENT of laws_FnSquare: yours. -/
def laws_FnSquare.Pure : Prop := ∀ (l0 : List Int), l0.length ≤ maxLen → l0.length * 1 ≤ 140737488351232 → (∀ x ∈ l0, (Lit.int .u8 x).wf = true) → ∃ k, laws_FnSquare.f k l0 = some true
theorem laws_FnSquare.walk (P : laws_FnSquare.Pure) (a0 : Option Addr) (len0 cap0 : Nat) (z0 : List Int) (w : World) (w0 : (a0 = none ∧ len0 = 0 ∧ cap0 = 0 ∧ z0 = []) ∨ ∃ x, a0 = some x ∧ len0 ≤ cap0 ∧ cap0 ≤ maxLen ∧ z0.length = cap0 ∧ (∀ i, i < z0.length → w.cell? (x.add i) = some (.int .u8 (z0.getD i 0))) ∧ ∀ n ∈ z0, (Lit.int .u8 n).wf = true) (y0 : len0 * 1 ≤ 140737488351232) :
    Calls Try.prog 17 #[.slice a0 len0 cap0] w fun e w' => e = .returned (.bool true) ∧ Below w.heap.size w w' := by
  obtain ⟨l0, rfl, hr0, hm0, hw0, hc0⟩ := ReadsInt.ofRowC w0
  obtain ⟨k, h⟩ := P l0 hm0 y0 hw0
  refine (laws_FnSquare.calls k _ _ l0 true w (Kd.C_of_reads (d := (0 : Int)) (h1 := fun _ => rfl) hr0) hc0 h).mono ?_
  rintro e w' ⟨rfl, hd⟩
  exact ⟨rfl, hd⟩

end Go.Proofs.Ytpkcbpjhgaeeoaa.P
