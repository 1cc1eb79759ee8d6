/- Contracts of Go functions of the given program: each says, under its own hypotheses, what a call returns and leaves. Written by this claim's own program over the kit's print. -/
import Derived.Test.YtiobhhcbdcbajaaPx0
import Derived.Test.YtiobhhcbdcbajaaPx1
import Derived.Test.YtiobhhcbdcbajaaPx4
import Derived.Test.YtiobhhcbdcbajaaPx7
namespace Go.Proofs.Ytiobhhcbdcbajaa.P
open Go.RowKit Go.Proofs.YtiobhhcbdcbajaaW.PrintWords Go.Proofs.YtiobhhcbdcbajaaW.PrintLast Go.Proofs.YtiobhhcbdcbajaaW.PrintMore
attribute [local go_sem] max2_int min2_int max_two min_two max_three min_three max_four min_four   -- for this text's walks alone
set_option linter.unusedVariables false
set_option linter.unusedSimpArgs false

/-! ### impl_SystemBoth: function 47 -/
set_option maxHeartbeats 4000000 in
set_option maxRecDepth 100000 in
theorem impl_SystemBoth_1.calls (B : Nat) (ad : Addr) (l : List Int) (cap : Nat) (a b c : Int) (r : Bool) (W : World) (a0 : 0 ≤ a) (b0 : 0 ≤ b) (c0 : 0 ≤ c) (a1 : a ≤ 8) (b1 : b ≤ 8) (c1 : c ≤ 8) (hT : Tab W B ad l cap) (h : bothI l a b c = r) :
    Calls Try.prog 82 #[.int .i64 a, .int .i64 b, .int .i64 c, .pointer (some ⟨B, 0, none⟩)] W fun e w' => e = .returned (.bool r) ∧ Drawn0 W w' := by
  unfold bothI at h
  have hcell := hT.var
  have sm := addP_mem b0 b1 c0 c1
  have F1 := add_some b c
  obtain ⟨s, sE⟩ : ∃ z, addP b c = z := ⟨_, rfl⟩
  rw [sE] at F1 h sm
  obtain ⟨s0, s1⟩ := sm
  have kk2 := hT.at_ (9 * a + s) (by omega) (by omega)
  have w2 : IntKind.i64.wrap (9 * a) = 9 * a := w_in (by omega) (by omega)
  obtain ⟨j2, e2⟩ : ∃ j, 9 * a + s = j := ⟨_, rfl⟩
  have g2 : IntKind.i64.wrap (9 * a + s) = j2 := by rw [← e2]; exact w_in (by omega) (by omega)
  have p2 : 0 ≤ j2 := by omega
  have q2 : j2 < 81 := by omega
  rw [e2] at kk2 h
  obtain ⟨x1, x1E⟩ : ∃ z, rd l j2 = z := ⟨_, rfl⟩
  rw [x1E] at kk2 h
  have kk3 := hT.at_ (9 * a + b) (by omega) (by omega)
  obtain ⟨j3, e3⟩ : ∃ j, 9 * a + b = j := ⟨_, rfl⟩
  have g3 : IntKind.i64.wrap (9 * a + b) = j3 := by rw [← e3]; exact w_in (by omega) (by omega)
  have p3 : 0 ≤ j3 := by omega
  have q3 : j3 < 81 := by omega
  rw [e3] at kk3 h
  obtain ⟨x2, x2E⟩ : ∃ z, rd l j3 = z := ⟨_, rfl⟩
  rw [x2E] at kk3 h
  have kk4 := hT.at_ (9 * a + c) (by omega) (by omega)
  obtain ⟨j4, e4⟩ : ∃ j, 9 * a + c = j := ⟨_, rfl⟩
  have g4 : IntKind.i64.wrap (9 * a + c) = j4 := by rw [← e4]; exact w_in (by omega) (by omega)
  have p4 : 0 ≤ j4 := by omega
  have q4 : j4 < 81 := by omega
  rw [e4] at kk4 h
  obtain ⟨x3, x3E⟩ : ∃ z, rd l j4 = z := ⟨_, rfl⟩
  rw [x3E] at kk4 h
  have F5 := add_some x2 x3
  obtain ⟨y, yE⟩ : ∃ z, addP x2 x3 = z := ⟨_, rfl⟩
  rw [yE] at F5 h
  clear hT s0 s1 sE e2 x1E e3 x2E e4 x3E yE a0 a1 b0 b1 c0 c1
  have F1 := Aside0.mk F1
  have F5 := Aside0.mk F5
  by_cases e : x1 = y
  · have eb : (x1 == y) = true := beq_iff_eq.mpr e
    rw [decide_eq_true e] at h
    subst h
    clear e
    go_enter Try.func82, Try.ntmps82
    go_wp2
    repeat (go_quiet (first | (go_at_call 69; (with_reducible refine (impl_add.calls b c s _ F1.out).mono ?_); rintro e w' ⟨rfl, ⟨nd, rfl⟩⟩; (try first | exact ⟨rfl, _, World.drewN_drewN _ _ _⟩ | exact ⟨rfl, _, Eq.trans (World.drewN_drewN _ _ _) (congrArg (World.drewN _) (Nat.add_assoc _ _ _))⟩)) | (go_at_call 69; (with_reducible refine (impl_add.calls x2 x3 y _ F5.out).mono ?_); rintro e w' ⟨rfl, ⟨nd, rfl⟩⟩; (try first | exact ⟨rfl, _, World.drewN_drewN _ _ _⟩ | exact ⟨rfl, _, Eq.trans (World.drewN_drewN _ _ _) (congrArg (World.drewN _) (Nat.add_assoc _ _ _))⟩))); try go_wp2)
    go_ret
    exact ⟨rfl, by repeat (first | exact Drawn0.refl _ | apply Drawn0.step)⟩
  · have eb : (x1 == y) = false := beq_eq_false_iff_ne.mpr e
    rw [decide_eq_false e] at h
    subst h
    clear e
    go_enter Try.func82, Try.ntmps82
    go_wp2
    repeat (go_quiet (first | (go_at_call 69; (with_reducible refine (impl_add.calls b c s _ F1.out).mono ?_); rintro e w' ⟨rfl, ⟨nd, rfl⟩⟩; (try first | exact ⟨rfl, _, World.drewN_drewN _ _ _⟩ | exact ⟨rfl, _, Eq.trans (World.drewN_drewN _ _ _) (congrArg (World.drewN _) (Nat.add_assoc _ _ _))⟩)) | (go_at_call 69; (with_reducible refine (impl_add.calls x2 x3 y _ F5.out).mono ?_); rintro e w' ⟨rfl, ⟨nd, rfl⟩⟩; (try first | exact ⟨rfl, _, World.drewN_drewN _ _ _⟩ | exact ⟨rfl, _, Eq.trans (World.drewN_drewN _ _ _) (congrArg (World.drewN _) (Nat.add_assoc _ _ _))⟩))); try go_wp2)
    go_ret
    exact ⟨rfl, by repeat (first | exact Drawn0.refl _ | apply Drawn0.step)⟩
def impl_SystemBoth.f (l : List Int) : Option Bool := some (sysI l && all3 (bothI l))
set_option maxHeartbeats 4000000 in
set_option maxRecDepth 100000 in
theorem impl_SystemBoth.calls (A0 : Option Addr) (c0 : Nat) (l0 : List Int) (r : Bool) (w : World) (hr0 : Kd.C (Kd.int .i64) w A0 l0.length l0) (hc0 : l0.length ≤ c0) (h : impl_SystemBoth.f l0 = some r) :
    Calls Try.prog 47 #[.slice A0 l0.length c0] w fun e w' => e = .returned (.bool r) ∧ Below w.heap.size w w' := by
  have h1 : (sysI l0 && all3 (bothI l0)) = r := Option.some.inj h
  clear h
  have HB0 := Aside0.mk (below_alloc (Below.refl w.heap.size w) (.cells #[.slice A0 l0.length c0] 23))
  obtain ⟨q, hq⟩ : ∃ q, sysI l0 = q := ⟨_, rfl⟩
  have HC := Aside0.mk (impl_isSystem.calls A0 c0 l0 q _ (Kd.C_alloc hr0 (.cells #[.slice A0 l0.length c0] 23)) hc0 (congrArg some hq))
  rw [hq] at h1
  cases q with
  | false =>
    rw [Bool.false_and] at h1
    subst h1
    clear hr0 hq hc0
    go_enter Try.func47, Try.ntmps47
    go_wp2_with (fail)
    refine HC.out.mono ?_
    rintro e w' ⟨rfl, hb⟩
    have HB := Aside0.mk (below_then HB0.out HB0.out.size hb)
    clear hb HC
    go_wp2
    go_ret
    exact ⟨rfl, HB.out⟩
  | true =>
    rw [Bool.true_and] at h1
    have hn : nines l0 81 = true := (Bool.and_eq_true_iff.mp hq).1
    have hl : l0.length = 81 := by have := sys_len hn; omega
    obtain ⟨ad, rfl, hT⟩ := Tab.mk' (cap := c0) (t := 23) hl hr0
    have HT := Aside0.mk hT
    have HR := Aside0.mk h1
    have HN := Aside0.mk hn
    rw [hl] at HC HB0
    rw [hl]
    clear hr0 hq hc0 hl hn hT h1
    have eg : ∀ args w, (callFunc 82 args).run Try.prog w = .ok (.enter 82 args) w := enters_of Try.func82 (by kernel_rfl) rfl
    go_enter Try.func47, Try.ntmps47
    go_wp2_with (fail)
    refine HC.out.mono ?_
    rintro e w1 ⟨rfl, hb⟩
    have HB := Aside0.mk (below_then HB0.out HB0.out.size hb)
    have HT1 := Aside0.mk (HT.out.below hb)
    have G1 : Gives3 82 #[.pointer (some ⟨w.heap.size, 0, none⟩)] (bothI l0) w1 := fun W a b c hb a0 a1 b0 b1 c0' c1 => (impl_SystemBoth_1.calls w.heap.size ad l0 c0 a b c _ W a0 b0 c0' a1 b1 c1 (HT1.out.below hb) rfl).mono fun e w' ⟨h1, h2⟩ => ⟨h1, h2.below⟩
    have FC := Aside0.mk (impl_forAll.calls 82 #[.pointer (some ⟨w.heap.size, 0, none⟩)] (bothI l0) r w1 eg G1 HR.out)
    clear hb HC G1 eg HT
    go_wp2_with (fail)
    refine FC.out.mono ?_
    rintro e w2 ⟨rfl, hb⟩
    have HB2 := Aside0.mk (below_then HB.out HB.out.size hb)
    clear hb FC
    cases r <;>
    · go_wp2
      go_ret
      exact ⟨rfl, HB2.out⟩

/-! ### impl_SystemBrackets: function 48 -/
set_option maxHeartbeats 4000000 in
set_option maxRecDepth 100000 in
theorem impl_SystemBrackets_1.calls (B : Nat) (ad : Addr) (l : List Int) (cap : Nat) (a b c : Int) (r : Bool) (W : World) (a0 : 0 ≤ a) (b0 : 0 ≤ b) (c0 : 0 ≤ c) (a1 : a ≤ 8) (b1 : b ≤ 8) (c1 : c ≤ 8) (hT : Tab W B ad l cap) (hn : nines l 81 = true) (h : brkI l a b c = r) :
    Calls Try.prog 83 #[.int .i64 a, .int .i64 b, .int .i64 c, .pointer (some ⟨B, 0, none⟩)] W fun e w' => e = .returned (.bool r) ∧ Drawn0 W w' := by
  unfold brkI at h
  have hcell := hT.var
  have kk1 := hT.at_ (9 * a + b) (by omega) (by omega)
  have x1m := rd_mem hn (9 * a + b)
  have w1 : IntKind.i64.wrap (9 * a) = 9 * a := w_in (by omega) (by omega)
  obtain ⟨j1, e1⟩ : ∃ j, 9 * a + b = j := ⟨_, rfl⟩
  have g1 : IntKind.i64.wrap (9 * a + b) = j1 := by rw [← e1]; exact w_in (by omega) (by omega)
  have p1 : 0 ≤ j1 := by omega
  have q1 : j1 < 81 := by omega
  rw [e1] at kk1 h x1m
  obtain ⟨x1, x1E⟩ : ∃ z, rd l j1 = z := ⟨_, rfl⟩
  rw [x1E] at kk1 h x1m
  obtain ⟨x10, x11⟩ := x1m
  have kk2 := hT.at_ (9 * x1 + c) (by omega) (by omega)
  have w2 : IntKind.i64.wrap (9 * x1) = 9 * x1 := w_in (by omega) (by omega)
  obtain ⟨j2, e2⟩ : ∃ j, 9 * x1 + c = j := ⟨_, rfl⟩
  have g2 : IntKind.i64.wrap (9 * x1 + c) = j2 := by rw [← e2]; exact w_in (by omega) (by omega)
  have p2 : 0 ≤ j2 := by omega
  have q2 : j2 < 81 := by omega
  rw [e2] at kk2 h
  obtain ⟨x2, x2E⟩ : ∃ z, rd l j2 = z := ⟨_, rfl⟩
  rw [x2E] at kk2 h
  have kk3 := hT.at_ (9 * b + c) (by omega) (by omega)
  have x3m := rd_mem hn (9 * b + c)
  have w3 : IntKind.i64.wrap (9 * b) = 9 * b := w_in (by omega) (by omega)
  obtain ⟨j3, e3⟩ : ∃ j, 9 * b + c = j := ⟨_, rfl⟩
  have g3 : IntKind.i64.wrap (9 * b + c) = j3 := by rw [← e3]; exact w_in (by omega) (by omega)
  have p3 : 0 ≤ j3 := by omega
  have q3 : j3 < 81 := by omega
  rw [e3] at kk3 h x3m
  obtain ⟨x3, x3E⟩ : ∃ z, rd l j3 = z := ⟨_, rfl⟩
  rw [x3E] at kk3 h x3m
  obtain ⟨x30, x31⟩ := x3m
  have kk4 := hT.at_ (9 * a + x3) (by omega) (by omega)
  obtain ⟨j4, e4⟩ : ∃ j, 9 * a + x3 = j := ⟨_, rfl⟩
  have g4 : IntKind.i64.wrap (9 * a + x3) = j4 := by rw [← e4]; exact w_in (by omega) (by omega)
  have p4 : 0 ≤ j4 := by omega
  have q4 : j4 < 81 := by omega
  rw [e4] at kk4 h
  obtain ⟨x4, x4E⟩ : ∃ z, rd l j4 = z := ⟨_, rfl⟩
  rw [x4E] at kk4 h
  clear hT e1 x1E x10 x11 e2 x2E e3 x3E x30 x31 e4 x4E a0 a1 b0 b1 c0 c1
  clear hn
  by_cases e : x2 = x4
  · have eb : (x2 == x4) = true := beq_iff_eq.mpr e
    rw [decide_eq_true e] at h
    subst h
    clear e
    go_enter Try.func83, Try.ntmps83
    go_wp2
    repeat (go_quiet (fail); try go_wp2)
    go_ret
    exact ⟨rfl, by repeat (first | exact Drawn0.refl _ | apply Drawn0.step)⟩
  · have eb : (x2 == x4) = false := beq_eq_false_iff_ne.mpr e
    rw [decide_eq_false e] at h
    subst h
    clear e
    go_enter Try.func83, Try.ntmps83
    go_wp2
    repeat (go_quiet (fail); try go_wp2)
    go_ret
    exact ⟨rfl, by repeat (first | exact Drawn0.refl _ | apply Drawn0.step)⟩
def impl_SystemBrackets.f (l : List Int) : Option Bool := some (sysI l && all3 (brkI l))
set_option maxHeartbeats 4000000 in
set_option maxRecDepth 100000 in
theorem impl_SystemBrackets.calls (A0 : Option Addr) (c0 : Nat) (l0 : List Int) (r : Bool) (w : World) (hr0 : Kd.C (Kd.int .i64) w A0 l0.length l0) (hc0 : l0.length ≤ c0) (h : impl_SystemBrackets.f l0 = some r) :
    Calls Try.prog 48 #[.slice A0 l0.length c0] w fun e w' => e = .returned (.bool r) ∧ Below w.heap.size w w' := by
  have h1 : (sysI l0 && all3 (brkI l0)) = r := Option.some.inj h
  clear h
  have HB0 := Aside0.mk (below_alloc (Below.refl w.heap.size w) (.cells #[.slice A0 l0.length c0] 23))
  obtain ⟨q, hq⟩ : ∃ q, sysI l0 = q := ⟨_, rfl⟩
  have HC := Aside0.mk (impl_isSystem.calls A0 c0 l0 q _ (Kd.C_alloc hr0 (.cells #[.slice A0 l0.length c0] 23)) hc0 (congrArg some hq))
  rw [hq] at h1
  cases q with
  | false =>
    rw [Bool.false_and] at h1
    subst h1
    clear hr0 hq hc0
    go_enter Try.func48, Try.ntmps48
    go_wp2_with (fail)
    refine HC.out.mono ?_
    rintro e w' ⟨rfl, hb⟩
    have HB := Aside0.mk (below_then HB0.out HB0.out.size hb)
    clear hb HC
    go_wp2
    go_ret
    exact ⟨rfl, HB.out⟩
  | true =>
    rw [Bool.true_and] at h1
    have hn : nines l0 81 = true := (Bool.and_eq_true_iff.mp hq).1
    have hl : l0.length = 81 := by have := sys_len hn; omega
    obtain ⟨ad, rfl, hT⟩ := Tab.mk' (cap := c0) (t := 23) hl hr0
    have HT := Aside0.mk hT
    have HR := Aside0.mk h1
    have HN := Aside0.mk hn
    rw [hl] at HC HB0
    rw [hl]
    clear hr0 hq hc0 hl hn hT h1
    have eg : ∀ args w, (callFunc 83 args).run Try.prog w = .ok (.enter 83 args) w := enters_of Try.func83 (by kernel_rfl) rfl
    go_enter Try.func48, Try.ntmps48
    go_wp2_with (fail)
    refine HC.out.mono ?_
    rintro e w1 ⟨rfl, hb⟩
    have HB := Aside0.mk (below_then HB0.out HB0.out.size hb)
    have HT1 := Aside0.mk (HT.out.below hb)
    have G1 : Gives3 83 #[.pointer (some ⟨w.heap.size, 0, none⟩)] (brkI l0) w1 := fun W a b c hb a0 a1 b0 b1 c0' c1 => (impl_SystemBrackets_1.calls w.heap.size ad l0 c0 a b c _ W a0 b0 c0' a1 b1 c1 (HT1.out.below hb) HN.out rfl).mono fun e w' ⟨h1, h2⟩ => ⟨h1, h2.below⟩
    have FC := Aside0.mk (impl_forAll.calls 83 #[.pointer (some ⟨w.heap.size, 0, none⟩)] (brkI l0) r w1 eg G1 HR.out)
    clear hb HC G1 eg HT
    go_wp2_with (fail)
    refine FC.out.mono ?_
    rintro e w2 ⟨rfl, hb⟩
    have HB2 := Aside0.mk (below_then HB.out HB.out.size hb)
    clear hb FC
    cases r <;>
    · go_wp2
      go_ret
      exact ⟨rfl, HB2.out⟩

/-! ### laws_field: function 17 -/
def laws_field.f (l0 : List Int) : Option (Bool) := (impl_SystemBoth.f l0).bind fun t252 => (if t252 = true then ((impl_SystemBrackets.f l0).bind fun t253 => (some t253)) else (some false))
set_option maxHeartbeats 8000000 in
set_option maxRecDepth 100000 in
theorem laws_field.calls (A0 : Option Addr) (c0 : Nat) (l0 : List Int) (r : Bool) (w : World) (hr0 : Kd.C (Kd.int .i64) w A0 l0.length l0) (hc0 : l0.length ≤ c0) (h : laws_field.f l0 = some r) :
    Calls Try.prog 17 #[.slice A0 l0.length c0] w fun e w' => e = .returned (.bool r) ∧ Below w.heap.size w w' := by
  have HR0 := Aside0.mk hr0
  have HC0 := Aside0.mk hc0
  clear hr0 hc0
  have HB := Aside0.mk (Below.refl w.heap.size w)
  have H : ((impl_SystemBoth.f l0).bind fun t252 => (if t252 = true then ((impl_SystemBrackets.f l0).bind fun t253 => (some t253)) else (some false))) = some r := h
  clear h
  replace H := Option.bind_eq_some_iff.mp H
  obtain ⟨t252, A20, H⟩ := H
  replace H : (if t252 = true then ((impl_SystemBrackets.f l0).bind fun t253 => (some t253)) else (some false)) = some r := H
  have A2 := Aside0.mk A20
  clear A20
  by_cases c3 : t252 = true
  · subst c3
    have H1 : ((impl_SystemBrackets.f l0).bind fun t253 => (some t253)) = some r := by rw [if_pos rfl] at H; exact H
    clear H
    have H := H1
    clear H1
    replace H := Option.bind_eq_some_iff.mp H
    obtain ⟨t253, A40, H⟩ := H
    replace H : (some t253) = some r := H
    have A4 := Aside0.mk A40
    clear A40
    obtain rfl := Option.some.inj H
    go_enter Try.func17, Try.ntmps17
    go_wp2_with (first | ((with_reducible refine gate_callee (f := 47) rfl ?_); refine goesL_ (some 4) rfl rfl Try.func47 (by kernel_rfl) rfl #[.slice A0 l0.length c0] rfl (by (try simp only [List.map_toArray, List.map_cons, List.map_nil]); first | done | rfl | (simp only [List.length_drop, List.length_take]; rfl)) ?_; (with_reducible refine (impl_SystemBoth.calls _ _ l0 true _ ?side1 ?side2 A2.out).mono ?_); (case side1 => repeat (first | exact HR0.out | (with_reducible refine Kd.C_alloc ?_ _) | (with_reducible refine Kd.C_drewN ?_ _) | (with_reducible refine Kd.C_drew ?_))); (case side2 => exact HC0.out); rintro e w5 ⟨rfl, hb⟩; refine ⟨_, rfl, ?_⟩; have n0_ := Aside0.mk (below_step (by repeat (first | (with_reducible first | exact HB.out | apply below_alloc | apply pw_below_drewN | apply below_drew1) | exact HB.out)) hb); clear HB; have HB := n0_; clear n0_; (try clear hb); (try clear hb2); (try clear hk); (try clear hi)) | (go_at_call 48; (with_reducible refine (impl_SystemBrackets.calls _ _ l0 t253 _ ?side1 ?side2 A4.out).mono ?_); (case side1 => repeat (first | exact (Kd.C_below HR0.out HB.out) | (with_reducible refine Kd.C_alloc ?_ _) | (with_reducible refine Kd.C_drewN ?_ _) | (with_reducible refine Kd.C_drew ?_))); (case side2 => exact HC0.out); rintro e w6 ⟨rfl, hb⟩; have n0_ := Aside0.mk (below_step (by repeat (first | (with_reducible first | exact HB.out | apply below_alloc | apply pw_below_drewN | apply below_drew1) | exact HB.out)) hb); clear HB; have HB := n0_; clear n0_; (try clear hb); (try clear hb2); (try clear hk); (try clear hi)))
    go_ret
    exact ⟨by first | rfl | (simp [errW_none, errW_some] <;> rfl) | (simp [*, errW_none, errW_some] <;> rfl), by repeat (first | (with_reducible first | exact HB.out | apply below_alloc | apply pw_below_drewN | apply below_drew1) | exact HB.out)⟩
  · replace c3 := Bool.eq_false_iff.mpr c3
    subst c3
    have H1 : (some false) = some r := by rw [if_neg (show ¬ (false = true) by decide)] at H; exact H
    clear H
    have H := H1
    clear H1
    obtain rfl := Option.some.inj H
    go_enter Try.func17, Try.ntmps17
    go_wp2_with (first | ((with_reducible refine gate_callee (f := 47) rfl ?_); refine goesL_ (some 4) rfl rfl Try.func47 (by kernel_rfl) rfl #[.slice A0 l0.length c0] rfl (by (try simp only [List.map_toArray, List.map_cons, List.map_nil]); first | done | rfl | (simp only [List.length_drop, List.length_take]; rfl)) ?_; (with_reducible refine (impl_SystemBoth.calls _ _ l0 false _ ?side1 ?side2 A2.out).mono ?_); (case side1 => repeat (first | exact HR0.out | (with_reducible refine Kd.C_alloc ?_ _) | (with_reducible refine Kd.C_drewN ?_ _) | (with_reducible refine Kd.C_drew ?_))); (case side2 => exact HC0.out); rintro e w7 ⟨rfl, hb⟩; refine ⟨_, rfl, ?_⟩; have n0_ := Aside0.mk (below_step (by repeat (first | (with_reducible first | exact HB.out | apply below_alloc | apply pw_below_drewN | apply below_drew1) | exact HB.out)) hb); clear HB; have HB := n0_; clear n0_; (try clear hb); (try clear hb2); (try clear hk); (try clear hi)))
    go_ret
    exact ⟨by first | rfl | (simp [errW_none, errW_some] <;> rfl) | (simp [*, errW_none, errW_some] <;> rfl), by repeat (first | (with_reducible first | exact HB.out | apply below_alloc | apply pw_below_drewN | apply below_drew1) | exact HB.out)⟩

end Go.Proofs.Ytiobhhcbdcbajaa.P
