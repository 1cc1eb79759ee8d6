/- Contracts of Go functions of the given program: each says, under its own hypotheses, what a call returns and leaves. Written by this claim's own program over the kit's print. -/
import Derived.Test.YteioeojpomahgaaPx0
import Derived.Test.YteioeojpomahgaaPx1
import Derived.Test.YteioeojpomahgaaPx3
import Derived.Test.YteioeojpomahgaaPx6
namespace Go.Proofs.Yteioeojpomahgaa.P
open Go.RowKit Go.Proofs.YteioeojpomahgaaW.PrintWords Go.Proofs.YteioeojpomahgaaW.PrintLast Go.Proofs.YteioeojpomahgaaW.PrintMore
attribute [local go_sem] max2_int min2_int max_two min_two max_three min_three max_four min_four   -- for this text's walks alone
set_option linter.unusedVariables false
set_option linter.unusedSimpArgs false

/-! ### impl_SystemBoth: function 23 -/
set_option maxHeartbeats 4000000 in
set_option maxRecDepth 100000 in
theorem impl_SystemBoth_1.calls (B : Nat) (ad : Addr) (l : List Int) (cap : Nat) (a b c : Int) (r : Bool) (W : World) (a0 : 0 ≤ a) (b0 : 0 ≤ b) (c0 : 0 ≤ c) (a1 : a ≤ 8) (b1 : b ≤ 8) (c1 : c ≤ 8) (hT : Tab W B ad l cap) (h : bothI l a b c = r) :
    Calls Try.prog 55 #[.int .i64 a, .int .i64 b, .int .i64 c, .pointer (some ⟨B, 0, none⟩)] W fun e w' => e = .returned (.bool r) ∧ Drawn0 W w' := by
  unfold bothI at h
  have hcell := hT.var
  have sm := addP_mem b0 b1 c0 c1
  have F1 := add_some b c
  obtain ⟨s, sE⟩ : ∃ z, addP b c = z := ⟨_, rfl⟩
  rw [sE] at F1 h sm
  obtain ⟨s0, s1⟩ := sm
  have kk2 := hT.at_ (9 * a + s) (by omega) (by omega)
  have w2 : IntKind.i64.wrap (9 * a) = 9 * a := w_in (by omega) (by omega)
  obtain ⟨j2, e2⟩ : ∃ j, 9 * a + s = j := ⟨_, rfl⟩
  have g2 : IntKind.i64.wrap (9 * a + s) = j2 := by rw [← e2]; exact w_in (by omega) (by omega)
  have p2 : 0 ≤ j2 := by omega
  have q2 : j2 < 81 := by omega
  rw [e2] at kk2 h
  obtain ⟨x1, x1E⟩ : ∃ z, rd l j2 = z := ⟨_, rfl⟩
  rw [x1E] at kk2 h
  have kk3 := hT.at_ (9 * a + b) (by omega) (by omega)
  obtain ⟨j3, e3⟩ : ∃ j, 9 * a + b = j := ⟨_, rfl⟩
  have g3 : IntKind.i64.wrap (9 * a + b) = j3 := by rw [← e3]; exact w_in (by omega) (by omega)
  have p3 : 0 ≤ j3 := by omega
  have q3 : j3 < 81 := by omega
  rw [e3] at kk3 h
  obtain ⟨x2, x2E⟩ : ∃ z, rd l j3 = z := ⟨_, rfl⟩
  rw [x2E] at kk3 h
  have kk4 := hT.at_ (9 * a + c) (by omega) (by omega)
  obtain ⟨j4, e4⟩ : ∃ j, 9 * a + c = j := ⟨_, rfl⟩
  have g4 : IntKind.i64.wrap (9 * a + c) = j4 := by rw [← e4]; exact w_in (by omega) (by omega)
  have p4 : 0 ≤ j4 := by omega
  have q4 : j4 < 81 := by omega
  rw [e4] at kk4 h
  obtain ⟨x3, x3E⟩ : ∃ z, rd l j4 = z := ⟨_, rfl⟩
  rw [x3E] at kk4 h
  have F5 := add_some x2 x3
  obtain ⟨y, yE⟩ : ∃ z, addP x2 x3 = z := ⟨_, rfl⟩
  rw [yE] at F5 h
  clear hT s0 s1 sE e2 x1E e3 x2E e4 x3E yE a0 a1 b0 b1 c0 c1
  have F1 := Aside0.mk F1
  have F5 := Aside0.mk F5
  by_cases e : x1 = y
  · have eb : (x1 == y) = true := beq_iff_eq.mpr e
    rw [decide_eq_true e] at h
    subst h
    clear e
    go_enter Try.func55, Try.ntmps55
    go_wp2
    repeat (go_quiet (first | (go_at_call 56; (with_reducible refine (impl_add.calls b c s _ F1.out).mono ?_); rintro e w' ⟨rfl, ⟨nd, rfl⟩⟩; (try first | exact ⟨rfl, _, World.drewN_drewN _ _ _⟩ | exact ⟨rfl, _, Eq.trans (World.drewN_drewN _ _ _) (congrArg (World.drewN _) (Nat.add_assoc _ _ _))⟩)) | (go_at_call 56; (with_reducible refine (impl_add.calls x2 x3 y _ F5.out).mono ?_); rintro e w' ⟨rfl, ⟨nd, rfl⟩⟩; (try first | exact ⟨rfl, _, World.drewN_drewN _ _ _⟩ | exact ⟨rfl, _, Eq.trans (World.drewN_drewN _ _ _) (congrArg (World.drewN _) (Nat.add_assoc _ _ _))⟩))); try go_wp2)
    go_ret
    exact ⟨rfl, by repeat (first | exact Drawn0.refl _ | apply Drawn0.step)⟩
  · have eb : (x1 == y) = false := beq_eq_false_iff_ne.mpr e
    rw [decide_eq_false e] at h
    subst h
    clear e
    go_enter Try.func55, Try.ntmps55
    go_wp2
    repeat (go_quiet (first | (go_at_call 56; (with_reducible refine (impl_add.calls b c s _ F1.out).mono ?_); rintro e w' ⟨rfl, ⟨nd, rfl⟩⟩; (try first | exact ⟨rfl, _, World.drewN_drewN _ _ _⟩ | exact ⟨rfl, _, Eq.trans (World.drewN_drewN _ _ _) (congrArg (World.drewN _) (Nat.add_assoc _ _ _))⟩)) | (go_at_call 56; (with_reducible refine (impl_add.calls x2 x3 y _ F5.out).mono ?_); rintro e w' ⟨rfl, ⟨nd, rfl⟩⟩; (try first | exact ⟨rfl, _, World.drewN_drewN _ _ _⟩ | exact ⟨rfl, _, Eq.trans (World.drewN_drewN _ _ _) (congrArg (World.drewN _) (Nat.add_assoc _ _ _))⟩))); try go_wp2)
    go_ret
    exact ⟨rfl, by repeat (first | exact Drawn0.refl _ | apply Drawn0.step)⟩
def impl_SystemBoth.f (l : List Int) : Option Bool := some (sysI l && all3 (bothI l))
set_option maxHeartbeats 4000000 in
set_option maxRecDepth 100000 in
theorem impl_SystemBoth.calls (A0 : Option Addr) (c0 : Nat) (l0 : List Int) (r : Bool) (w : World) (hr0 : Kd.C (Kd.int .i64) w A0 l0.length l0) (hc0 : l0.length ≤ c0) (h : impl_SystemBoth.f l0 = some r) :
    Calls Try.prog 23 #[.slice A0 l0.length c0] w fun e w' => e = .returned (.bool r) ∧ Below w.heap.size w w' := by
  have h1 : (sysI l0 && all3 (bothI l0)) = r := Option.some.inj h
  clear h
  have HB0 := Aside0.mk (below_alloc (Below.refl w.heap.size w) (.cells #[.slice A0 l0.length c0] 22))
  obtain ⟨q, hq⟩ : ∃ q, sysI l0 = q := ⟨_, rfl⟩
  have HC := Aside0.mk (impl_isSystem.calls A0 c0 l0 q _ (Kd.C_alloc hr0 (.cells #[.slice A0 l0.length c0] 22)) hc0 (congrArg some hq))
  rw [hq] at h1
  cases q with
  | false =>
    rw [Bool.false_and] at h1
    subst h1
    clear hr0 hq hc0
    go_enter Try.func23, Try.ntmps23
    go_wp2_with (fail)
    refine HC.out.mono ?_
    rintro e w' ⟨rfl, hb⟩
    have HB := Aside0.mk (below_then HB0.out HB0.out.size hb)
    clear hb HC
    go_wp2
    go_ret
    exact ⟨rfl, HB.out⟩
  | true =>
    rw [Bool.true_and] at h1
    have hn : nines l0 81 = true := (Bool.and_eq_true_iff.mp hq).1
    have hl : l0.length = 81 := by have := sys_len hn; omega
    obtain ⟨ad, rfl, hT⟩ := Tab.mk' (cap := c0) (t := 22) hl hr0
    have HT := Aside0.mk hT
    have HR := Aside0.mk h1
    have HN := Aside0.mk hn
    rw [hl] at HC HB0
    rw [hl]
    clear hr0 hq hc0 hl hn hT h1
    have eg : ∀ args w, (callFunc 55 args).run Try.prog w = .ok (.enter 55 args) w := enters_of Try.func55 (by kernel_rfl) rfl
    go_enter Try.func23, Try.ntmps23
    go_wp2_with (fail)
    refine HC.out.mono ?_
    rintro e w1 ⟨rfl, hb⟩
    have HB := Aside0.mk (below_then HB0.out HB0.out.size hb)
    have HT1 := Aside0.mk (HT.out.below hb)
    have G1 : Gives3 55 #[.pointer (some ⟨w.heap.size, 0, none⟩)] (bothI l0) w1 := fun W a b c hb a0 a1 b0 b1 c0' c1 => (impl_SystemBoth_1.calls w.heap.size ad l0 c0 a b c _ W a0 b0 c0' a1 b1 c1 (HT1.out.below hb) rfl).mono fun e w' ⟨h1, h2⟩ => ⟨h1, h2.below⟩
    have FC := Aside0.mk (impl_forAll.calls 55 #[.pointer (some ⟨w.heap.size, 0, none⟩)] (bothI l0) r w1 eg G1 HR.out)
    clear hb HC G1 eg HT
    go_wp2_with (fail)
    refine FC.out.mono ?_
    rintro e w2 ⟨rfl, hb⟩
    have HB2 := Aside0.mk (below_then HB.out HB.out.size hb)
    clear hb FC
    cases r <;>
    · go_wp2
      go_ret
      exact ⟨rfl, HB2.out⟩

/-! ### impl_SystemBrackets: function 25 -/
set_option maxHeartbeats 4000000 in
set_option maxRecDepth 100000 in
theorem impl_SystemBrackets_1.calls (B : Nat) (ad : Addr) (l : List Int) (cap : Nat) (a b c : Int) (r : Bool) (W : World) (a0 : 0 ≤ a) (b0 : 0 ≤ b) (c0 : 0 ≤ c) (a1 : a ≤ 8) (b1 : b ≤ 8) (c1 : c ≤ 8) (hT : Tab W B ad l cap) (hn : nines l 81 = true) (h : brkI l a b c = r) :
    Calls Try.prog 57 #[.int .i64 a, .int .i64 b, .int .i64 c, .pointer (some ⟨B, 0, none⟩)] W fun e w' => e = .returned (.bool r) ∧ Drawn0 W w' := by
  unfold brkI at h
  have hcell := hT.var
  have kk1 := hT.at_ (9 * a + b) (by omega) (by omega)
  have x1m := rd_mem hn (9 * a + b)
  have w1 : IntKind.i64.wrap (9 * a) = 9 * a := w_in (by omega) (by omega)
  obtain ⟨j1, e1⟩ : ∃ j, 9 * a + b = j := ⟨_, rfl⟩
  have g1 : IntKind.i64.wrap (9 * a + b) = j1 := by rw [← e1]; exact w_in (by omega) (by omega)
  have p1 : 0 ≤ j1 := by omega
  have q1 : j1 < 81 := by omega
  rw [e1] at kk1 h x1m
  obtain ⟨x1, x1E⟩ : ∃ z, rd l j1 = z := ⟨_, rfl⟩
  rw [x1E] at kk1 h x1m
  obtain ⟨x10, x11⟩ := x1m
  have kk2 := hT.at_ (9 * x1 + c) (by omega) (by omega)
  have w2 : IntKind.i64.wrap (9 * x1) = 9 * x1 := w_in (by omega) (by omega)
  obtain ⟨j2, e2⟩ : ∃ j, 9 * x1 + c = j := ⟨_, rfl⟩
  have g2 : IntKind.i64.wrap (9 * x1 + c) = j2 := by rw [← e2]; exact w_in (by omega) (by omega)
  have p2 : 0 ≤ j2 := by omega
  have q2 : j2 < 81 := by omega
  rw [e2] at kk2 h
  obtain ⟨x2, x2E⟩ : ∃ z, rd l j2 = z := ⟨_, rfl⟩
  rw [x2E] at kk2 h
  have kk3 := hT.at_ (9 * b + c) (by omega) (by omega)
  have x3m := rd_mem hn (9 * b + c)
  have w3 : IntKind.i64.wrap (9 * b) = 9 * b := w_in (by omega) (by omega)
  obtain ⟨j3, e3⟩ : ∃ j, 9 * b + c = j := ⟨_, rfl⟩
  have g3 : IntKind.i64.wrap (9 * b + c) = j3 := by rw [← e3]; exact w_in (by omega) (by omega)
  have p3 : 0 ≤ j3 := by omega
  have q3 : j3 < 81 := by omega
  rw [e3] at kk3 h x3m
  obtain ⟨x3, x3E⟩ : ∃ z, rd l j3 = z := ⟨_, rfl⟩
  rw [x3E] at kk3 h x3m
  obtain ⟨x30, x31⟩ := x3m
  have kk4 := hT.at_ (9 * a + x3) (by omega) (by omega)
  obtain ⟨j4, e4⟩ : ∃ j, 9 * a + x3 = j := ⟨_, rfl⟩
  have g4 : IntKind.i64.wrap (9 * a + x3) = j4 := by rw [← e4]; exact w_in (by omega) (by omega)
  have p4 : 0 ≤ j4 := by omega
  have q4 : j4 < 81 := by omega
  rw [e4] at kk4 h
  obtain ⟨x4, x4E⟩ : ∃ z, rd l j4 = z := ⟨_, rfl⟩
  rw [x4E] at kk4 h
  clear hT e1 x1E x10 x11 e2 x2E e3 x3E x30 x31 e4 x4E a0 a1 b0 b1 c0 c1
  clear hn
  by_cases e : x2 = x4
  · have eb : (x2 == x4) = true := beq_iff_eq.mpr e
    rw [decide_eq_true e] at h
    subst h
    clear e
    go_enter Try.func57, Try.ntmps57
    go_wp2
    repeat (go_quiet (fail); try go_wp2)
    go_ret
    exact ⟨rfl, by repeat (first | exact Drawn0.refl _ | apply Drawn0.step)⟩
  · have eb : (x2 == x4) = false := beq_eq_false_iff_ne.mpr e
    rw [decide_eq_false e] at h
    subst h
    clear e
    go_enter Try.func57, Try.ntmps57
    go_wp2
    repeat (go_quiet (fail); try go_wp2)
    go_ret
    exact ⟨rfl, by repeat (first | exact Drawn0.refl _ | apply Drawn0.step)⟩
def impl_SystemBrackets.f (l : List Int) : Option Bool := some (sysI l && all3 (brkI l))
set_option maxHeartbeats 4000000 in
set_option maxRecDepth 100000 in
theorem impl_SystemBrackets.calls (A0 : Option Addr) (c0 : Nat) (l0 : List Int) (r : Bool) (w : World) (hr0 : Kd.C (Kd.int .i64) w A0 l0.length l0) (hc0 : l0.length ≤ c0) (h : impl_SystemBrackets.f l0 = some r) :
    Calls Try.prog 25 #[.slice A0 l0.length c0] w fun e w' => e = .returned (.bool r) ∧ Below w.heap.size w w' := by
  have h1 : (sysI l0 && all3 (brkI l0)) = r := Option.some.inj h
  clear h
  have HB0 := Aside0.mk (below_alloc (Below.refl w.heap.size w) (.cells #[.slice A0 l0.length c0] 22))
  obtain ⟨q, hq⟩ : ∃ q, sysI l0 = q := ⟨_, rfl⟩
  have HC := Aside0.mk (impl_isSystem.calls A0 c0 l0 q _ (Kd.C_alloc hr0 (.cells #[.slice A0 l0.length c0] 22)) hc0 (congrArg some hq))
  rw [hq] at h1
  cases q with
  | false =>
    rw [Bool.false_and] at h1
    subst h1
    clear hr0 hq hc0
    go_enter Try.func25, Try.ntmps25
    go_wp2_with (fail)
    refine HC.out.mono ?_
    rintro e w' ⟨rfl, hb⟩
    have HB := Aside0.mk (below_then HB0.out HB0.out.size hb)
    clear hb HC
    go_wp2
    go_ret
    exact ⟨rfl, HB.out⟩
  | true =>
    rw [Bool.true_and] at h1
    have hn : nines l0 81 = true := (Bool.and_eq_true_iff.mp hq).1
    have hl : l0.length = 81 := by have := sys_len hn; omega
    obtain ⟨ad, rfl, hT⟩ := Tab.mk' (cap := c0) (t := 22) hl hr0
    have HT := Aside0.mk hT
    have HR := Aside0.mk h1
    have HN := Aside0.mk hn
    rw [hl] at HC HB0
    rw [hl]
    clear hr0 hq hc0 hl hn hT h1
    have eg : ∀ args w, (callFunc 57 args).run Try.prog w = .ok (.enter 57 args) w := enters_of Try.func57 (by kernel_rfl) rfl
    go_enter Try.func25, Try.ntmps25
    go_wp2_with (fail)
    refine HC.out.mono ?_
    rintro e w1 ⟨rfl, hb⟩
    have HB := Aside0.mk (below_then HB0.out HB0.out.size hb)
    have HT1 := Aside0.mk (HT.out.below hb)
    have G1 : Gives3 57 #[.pointer (some ⟨w.heap.size, 0, none⟩)] (brkI l0) w1 := fun W a b c hb a0 a1 b0 b1 c0' c1 => (impl_SystemBrackets_1.calls w.heap.size ad l0 c0 a b c _ W a0 b0 c0' a1 b1 c1 (HT1.out.below hb) HN.out rfl).mono fun e w' ⟨h1, h2⟩ => ⟨h1, h2.below⟩
    have FC := Aside0.mk (impl_forAll.calls 57 #[.pointer (some ⟨w.heap.size, 0, none⟩)] (brkI l0) r w1 eg G1 HR.out)
    clear hb HC G1 eg HT
    go_wp2_with (fail)
    refine FC.out.mono ?_
    rintro e w2 ⟨rfl, hb⟩
    have HB2 := Aside0.mk (below_then HB.out HB.out.size hb)
    clear hb FC
    cases r <;>
    · go_wp2
      go_ret
      exact ⟨rfl, HB2.out⟩

/-! ### impl_SystemSolve: function 27 -/
mutual
def impl_SystemSolve.j0 : Nat → List Int → Int → Int → Bool → Option (Int × Bool)
  | 0, _, _, _, _ => none
  | k + 1, x0, x1, x2, x25 => if x25 = true then (some (0, false)) else (impl_SystemSolve.l0 k x0 x1 x2 0)
def impl_SystemSolve.l0 : Nat → List Int → Int → Int → Int → Option (Int × Bool)
  | 0, _, _, _, _ => none
  | k + 1, x0, x1, x2, x26 => if x26 < 9 then (if 0 ≤ (wrap64 ((wrap64 (9 * x26)) + x1)) then (if (wrap64 ((wrap64 (9 * x26)) + x1)) < (x0.length : Int) then (if (rd x0 (wrap64 ((wrap64 (9 * x26)) + x1))) = x2 then (some (x26, true)) else (impl_SystemSolve.l0 k x0 x1 x2 (wrap64 (x26 + 1)))) else (none)) else (none)) else (some (0, false))
end
def impl_SystemSolve.f (k : Nat) (l0 : List Int) (a1 : Int) (a2 : Int) : Option (Int × Bool) := (impl_isSystem.f l0).bind fun t167 => (if t167 = true then ((impl_isNine.f a1).bind fun t168 => (if t168 = true then (if a1 = 0 then (impl_SystemSolve.j0 k l0 a1 a2 true) else ((impl_isNine.f a2).bind fun t169 => (impl_SystemSolve.j0 k l0 a1 a2 (!t169)))) else (impl_SystemSolve.j0 k l0 a1 a2 true))) else (impl_SystemSolve.j0 k l0 a1 a2 true))
theorem impl_SystemSolve.mono_l : ∀ k, (∀ y0 y1 y2 y3, LeO (impl_SystemSolve.j0 k y0 y1 y2 y3) (impl_SystemSolve.j0 (k + 1) y0 y1 y2 y3)) ∧ (∀ y0 y1 y2 y3, LeO (impl_SystemSolve.l0 k y0 y1 y2 y3) (impl_SystemSolve.l0 (k + 1) y0 y1 y2 y3))
  | 0 => ⟨fun _ _ _ _ r h => by simp [impl_SystemSolve.j0] at h, fun _ _ _ _ r h => by simp [impl_SystemSolve.l0] at h⟩
  | k + 1 => by
    obtain ⟨ih0, ih1⟩ := impl_SystemSolve.mono_l k
    refine ⟨?_, ?_⟩
    · intro y0 y1 y2 y3
      unfold impl_SystemSolve.j0
      repeat' first
      | (with_reducible exact ih0 _ _ _ _)
      | (with_reducible exact ih1 _ _ _ _)
      | (with_reducible exact LeO.refl _)
      | (with_reducible exact LeO.none _)
      | (with_reducible refine LeO.ite ?_ ?_)
      | (with_reducible refine LeO.bind ?_ (fun _ => ?_))
      | exact ih0 _ _ _ _
      | exact ih1 _ _ _ _
      | exact LeO.none _
      | refine LeO.ite ?_ ?_
      | refine LeO.bind ?_ (fun _ => ?_)
    · intro y0 y1 y2 y3
      unfold impl_SystemSolve.l0
      repeat' first
      | (with_reducible exact ih0 _ _ _ _)
      | (with_reducible exact ih1 _ _ _ _)
      | (with_reducible exact LeO.refl _)
      | (with_reducible exact LeO.none _)
      | (with_reducible refine LeO.ite ?_ ?_)
      | (with_reducible refine LeO.bind ?_ (fun _ => ?_))
      | exact ih0 _ _ _ _
      | exact ih1 _ _ _ _
      | exact LeO.none _
      | refine LeO.ite ?_ ?_
      | refine LeO.bind ?_ (fun _ => ?_)
theorem impl_SystemSolve.mono : ∀ a0 a1 a2 k, LeO (impl_SystemSolve.f k a0 a1 a2) (impl_SystemSolve.f (k + 1) a0 a1 a2) := by
  intro a0 a1 a2 k
  obtain ⟨ih0, ih1⟩ := impl_SystemSolve.mono_l k
  unfold impl_SystemSolve.f
  repeat' first
      | (with_reducible exact ih0 _ _ _ _)
      | (with_reducible exact ih1 _ _ _ _)
      | (with_reducible exact LeO.refl _)
      | (with_reducible exact LeO.none _)
      | (with_reducible refine LeO.ite ?_ ?_)
      | (with_reducible refine LeO.bind ?_ (fun _ => ?_))
      | exact ih0 _ _ _ _
      | exact ih1 _ _ _ _
      | exact LeO.none _
      | refine LeO.ite ?_ ?_
      | refine LeO.bind ?_ (fun _ => ?_)
set_option maxHeartbeats 8000000 in
set_option maxRecDepth 100000 in
theorem impl_SystemSolve.calls (k : Nat) (A0 : Option Addr) (c0 : Nat) (l0 : List Int) (a1 : Int) (a2 : Int) (r1 : Int) (r2 : Bool) (w : World) (hr0 : Kd.C (Kd.int .i64) w A0 l0.length l0) (hc0 : l0.length ≤ c0) (h : impl_SystemSolve.f k l0 a1 a2 = some (r1, r2)) :
    Calls Try.prog 27 #[.slice A0 l0.length c0, .int .i64 a1, .int .i64 a2] w fun e w' => e = .returned (.tuple #[.int .i64 r1, .bool r2]) ∧ Below w.heap.size w w' := by
  have HR0 := Aside0.mk hr0
  have HC0 := Aside0.mk hc0
  clear hr0 hc0
  have HB := Aside0.mk (Below.refl w.heap.size w)
  have H : ((impl_isSystem.f l0).bind fun t167 => (if t167 = true then ((impl_isNine.f a1).bind fun t168 => (if t168 = true then (if a1 = 0 then (impl_SystemSolve.j0 k l0 a1 a2 true) else ((impl_isNine.f a2).bind fun t169 => (impl_SystemSolve.j0 k l0 a1 a2 (!t169)))) else (impl_SystemSolve.j0 k l0 a1 a2 true))) else (impl_SystemSolve.j0 k l0 a1 a2 true))) = some (r1, r2) := h
  clear h
  have HC4 := Aside0.mk H
  clear H
  go_enter Try.func27, Try.ntmps27
  go_upto_region 1 with (fail)
  go_cut [25] (fun v25 wc => ∃ (kq : Nat) (x25_3 : Bool), v25 = .bool x25_3 ∧ Aside0 (impl_SystemSolve.j0 kq l0 a1 a2 x25_3 = some (r1, r2)) ∧ Aside0 (kq ≤ k) ∧ Aside0 (Below w.heap.size w wc))
  case first =>
    have H := HC4.out
    clear HC4
    replace H := Option.bind_eq_some_iff.mp H
    obtain ⟨t167, A50, H⟩ := H
    replace H : (if t167 = true then ((impl_isNine.f a1).bind fun t168 => (if t168 = true then (if a1 = 0 then (impl_SystemSolve.j0 k l0 a1 a2 true) else ((impl_isNine.f a2).bind fun t169 => (impl_SystemSolve.j0 k l0 a1 a2 (!t169)))) else (impl_SystemSolve.j0 k l0 a1 a2 true))) else (impl_SystemSolve.j0 k l0 a1 a2 true)) = some (r1, r2) := H
    have A5 := Aside0.mk A50
    clear A50
    by_cases c6 : t167 = true
    · subst c6
      have H1 : ((impl_isNine.f a1).bind fun t168 => (if t168 = true then (if a1 = 0 then (impl_SystemSolve.j0 k l0 a1 a2 true) else ((impl_isNine.f a2).bind fun t169 => (impl_SystemSolve.j0 k l0 a1 a2 (!t169)))) else (impl_SystemSolve.j0 k l0 a1 a2 true))) = some (r1, r2) := by rw [if_pos rfl] at H; exact H
      clear H
      have H := H1
      clear H1
      replace H := Option.bind_eq_some_iff.mp H
      obtain ⟨t168, A70, H⟩ := H
      replace H : (if t168 = true then (if a1 = 0 then (impl_SystemSolve.j0 k l0 a1 a2 true) else ((impl_isNine.f a2).bind fun t169 => (impl_SystemSolve.j0 k l0 a1 a2 (!t169)))) else (impl_SystemSolve.j0 k l0 a1 a2 true)) = some (r1, r2) := H
      have A7 := Aside0.mk A70
      clear A70
      by_cases c8 : t168 = true
      · subst c8
        have H1 : (if a1 = 0 then (impl_SystemSolve.j0 k l0 a1 a2 true) else ((impl_isNine.f a2).bind fun t169 => (impl_SystemSolve.j0 k l0 a1 a2 (!t169)))) = some (r1, r2) := by rw [if_pos rfl] at H; exact H
        clear H
        have H := H1
        clear H1
        by_cases c9 : a1 = 0
        · rw [if_pos c9] at H
          have c9b0 : (a1 == 0) = true := beq_iff_eq.mpr c9
          have c9b1 : (a1 != 0) = false := bne_eq_false_iff_eq.mpr c9
          clear c9
          (first | rw [c9b0] | (simp only [i64_w, i32_w]; rw [c9b0]) | skip)
          have H' := Aside0.mk H
          clear H
          go_wp2_with (first | ((with_reducible refine gate_callee (f := 52) rfl ?_); refine goesL_ (some 10) rfl rfl Try.func52 (by kernel_rfl) rfl #[.slice A0 l0.length c0] rfl (by (try simp only [List.map_toArray, List.map_cons, List.map_nil]); first | done | rfl | (simp only [List.length_drop, List.length_take]; rfl)) ?_; (with_reducible refine (impl_isSystem.calls _ _ l0 true _ ?side1 ?side2 A5.out).mono ?_); (case side1 => repeat (first | exact (Kd.C_below HR0.out HB.out) | (with_reducible refine Kd.C_alloc ?_ _) | (with_reducible refine Kd.C_drewN ?_ _) | (with_reducible refine Kd.C_drew ?_))); (case side2 => exact HC0.out); rintro e w10 ⟨rfl, hb⟩; refine ⟨_, rfl, ?_⟩; have n0_ := Aside0.mk (below_step (by repeat (first | (with_reducible first | exact HB.out | apply below_alloc | apply pw_below_drewN | apply below_drew1) | exact HB.out)) hb); clear HB; have HB := n0_; clear n0_; (try clear hb); (try clear hb2); (try clear hk); (try clear hi)) | (go_at_call 61; (with_reducible refine (impl_isNine.calls a1 true _ A7.out).mono ?_); rintro e w' ⟨rfl, ⟨nd, rfl⟩⟩))
          go_meet
          case rel => exact ⟨_, (true), (by first | rfl | (simp; done) | (simp [*]; done)), H', ⟨by first | omega | exact Nat.le_refl _⟩, ⟨by repeat (first | (with_reducible first | exact HB.out | apply below_alloc | apply pw_below_drewN | apply below_drew1) | exact HB.out)⟩⟩
        · rw [if_neg c9] at H
          have c9b0 : (a1 == 0) = false := beq_eq_false_iff_ne.mpr c9
          have c9b1 : (a1 != 0) = true := bne_iff_ne.mpr c9
          (first | rw [c9b0] | (simp only [i64_w, i32_w]; rw [c9b0]) | skip)
          replace H := Option.bind_eq_some_iff.mp H
          obtain ⟨t169, A110, H⟩ := H
          replace H : (impl_SystemSolve.j0 k l0 a1 a2 (!t169)) = some (r1, r2) := H
          have A11 := Aside0.mk A110
          clear A110
          have H' := Aside0.mk H
          clear H
          go_wp2_with (first | ((with_reducible refine gate_callee (f := 52) rfl ?_); refine goesL_ (some 10) rfl rfl Try.func52 (by kernel_rfl) rfl #[.slice A0 l0.length c0] rfl (by (try simp only [List.map_toArray, List.map_cons, List.map_nil]); first | done | rfl | (simp only [List.length_drop, List.length_take]; rfl)) ?_; (with_reducible refine (impl_isSystem.calls _ _ l0 true _ ?side1 ?side2 A5.out).mono ?_); (case side1 => repeat (first | exact (Kd.C_below HR0.out HB.out) | (with_reducible refine Kd.C_alloc ?_ _) | (with_reducible refine Kd.C_drewN ?_ _) | (with_reducible refine Kd.C_drew ?_))); (case side2 => exact HC0.out); rintro e w12 ⟨rfl, hb⟩; refine ⟨_, rfl, ?_⟩; have n0_ := Aside0.mk (below_step (by repeat (first | (with_reducible first | exact HB.out | apply below_alloc | apply pw_below_drewN | apply below_drew1) | exact HB.out)) hb); clear HB; have HB := n0_; clear n0_; (try clear hb); (try clear hb2); (try clear hk); (try clear hi)) | (go_at_call 61; (with_reducible refine (impl_isNine.calls a1 true _ A7.out).mono ?_); rintro e w' ⟨rfl, ⟨nd, rfl⟩⟩) | (go_at_call 61; (with_reducible refine (impl_isNine.calls a2 t169 _ A11.out).mono ?_); rintro e w' ⟨rfl, ⟨nd, rfl⟩⟩))
          go_meet
          case rel => exact ⟨_, (!t169), (by first | rfl | (simp; done) | (simp [*]; done)), H', ⟨by first | omega | exact Nat.le_refl _⟩, ⟨by repeat (first | (with_reducible first | exact HB.out | apply below_alloc | apply pw_below_drewN | apply below_drew1) | exact HB.out)⟩⟩
      · replace c8 := Bool.eq_false_iff.mpr c8
        subst c8
        have H1 : (impl_SystemSolve.j0 k l0 a1 a2 true) = some (r1, r2) := by rw [if_neg (show ¬ (false = true) by decide)] at H; exact H
        clear H
        have H := H1
        clear H1
        have H' := Aside0.mk H
        clear H
        go_wp2_with (first | ((with_reducible refine gate_callee (f := 52) rfl ?_); refine goesL_ (some 10) rfl rfl Try.func52 (by kernel_rfl) rfl #[.slice A0 l0.length c0] rfl (by (try simp only [List.map_toArray, List.map_cons, List.map_nil]); first | done | rfl | (simp only [List.length_drop, List.length_take]; rfl)) ?_; (with_reducible refine (impl_isSystem.calls _ _ l0 true _ ?side1 ?side2 A5.out).mono ?_); (case side1 => repeat (first | exact (Kd.C_below HR0.out HB.out) | (with_reducible refine Kd.C_alloc ?_ _) | (with_reducible refine Kd.C_drewN ?_ _) | (with_reducible refine Kd.C_drew ?_))); (case side2 => exact HC0.out); rintro e w13 ⟨rfl, hb⟩; refine ⟨_, rfl, ?_⟩; have n0_ := Aside0.mk (below_step (by repeat (first | (with_reducible first | exact HB.out | apply below_alloc | apply pw_below_drewN | apply below_drew1) | exact HB.out)) hb); clear HB; have HB := n0_; clear n0_; (try clear hb); (try clear hb2); (try clear hk); (try clear hi)) | (go_at_call 61; (with_reducible refine (impl_isNine.calls a1 false _ A7.out).mono ?_); rintro e w' ⟨rfl, ⟨nd, rfl⟩⟩))
        go_meet
        case rel => exact ⟨_, (true), (by first | rfl | (simp; done) | (simp [*]; done)), H', ⟨by first | omega | exact Nat.le_refl _⟩, ⟨by repeat (first | (with_reducible first | exact HB.out | apply below_alloc | apply pw_below_drewN | apply below_drew1) | exact HB.out)⟩⟩
    · replace c6 := Bool.eq_false_iff.mpr c6
      subst c6
      have H1 : (impl_SystemSolve.j0 k l0 a1 a2 true) = some (r1, r2) := by rw [if_neg (show ¬ (false = true) by decide)] at H; exact H
      clear H
      have H := H1
      clear H1
      have H' := Aside0.mk H
      clear H
      go_wp2_with (first | ((with_reducible refine gate_callee (f := 52) rfl ?_); refine goesL_ (some 10) rfl rfl Try.func52 (by kernel_rfl) rfl #[.slice A0 l0.length c0] rfl (by (try simp only [List.map_toArray, List.map_cons, List.map_nil]); first | done | rfl | (simp only [List.length_drop, List.length_take]; rfl)) ?_; (with_reducible refine (impl_isSystem.calls _ _ l0 false _ ?side1 ?side2 A5.out).mono ?_); (case side1 => repeat (first | exact (Kd.C_below HR0.out HB.out) | (with_reducible refine Kd.C_alloc ?_ _) | (with_reducible refine Kd.C_drewN ?_ _) | (with_reducible refine Kd.C_drew ?_))); (case side2 => exact HC0.out); rintro e w14 ⟨rfl, hb⟩; refine ⟨_, rfl, ?_⟩; have n0_ := Aside0.mk (below_step (by repeat (first | (with_reducible first | exact HB.out | apply below_alloc | apply pw_below_drewN | apply below_drew1) | exact HB.out)) hb); clear HB; have HB := n0_; clear n0_; (try clear hb); (try clear hb2); (try clear hk); (try clear hi)))
      go_meet
      case rel => exact ⟨_, (true), (by first | rfl | (simp; done) | (simp [*]; done)), H', ⟨by first | omega | exact Nat.le_refl _⟩, ⟨by repeat (first | (with_reducible first | exact HB.out | apply below_alloc | apply pw_below_drewN | apply below_drew1) | exact HB.out)⟩⟩
  case rest =>
    clear HC4
    try clear c2
    try clear p2
    try clear c5
    try clear c6
    try clear c8
    try clear c9
    try clear c9b0
    try clear c9b1
    obtain ⟨kq, x25_3, rfl, HA, HJ3, HB⟩ := hcut
    cases kq with
    | zero => exact absurd HA.out (by simp [impl_SystemSolve.j0])
    | succ kj3 =>
      have H := HA.out
      clear HA
      simp only [impl_SystemSolve.j0] at H
      by_cases c15 : x25_3 = true
      · subst c15
        have H1 : (some (0, false)) = some (r1, r2) := by rw [if_pos rfl] at H; exact H
        clear H
        have H := H1
        clear H1
        simp only [Option.some.injEq, Prod.mk.injEq] at H
        obtain ⟨rfl, rfl⟩ := H
        go_wp2
        go_ret2
        exact ⟨by first | rfl | (simp [errW_none, errW_some] <;> rfl) | (simp [*, errW_none, errW_some] <;> rfl), by repeat (first | (with_reducible first | exact HB.out | apply below_alloc | apply pw_below_drewN | apply below_drew1) | exact HB.out)⟩
      · replace c15 := Bool.eq_false_iff.mpr c15
        subst c15
        have H1 : (impl_SystemSolve.l0 kj3 l0 a1 a2 0) = some (r1, r2) := by rw [if_neg (show ¬ (false = true) by decide)] at H; exact H
        clear H
        have H := H1
        clear H1
        have H' := Aside0.mk H
        clear H
        go_wp2
        go_loopg [26] kj3 (fun kq v26 w' => ∃ (x26_2 : Int), v26 = .int .i64 x26_2 ∧ Aside0 (impl_SystemSolve.l0 kq l0 a1 a2 x26_2 = some (r1, r2)) ∧ Aside0 (kq ≤ kj3) ∧ Aside0 (Below w.heap.size w w'))
        case atStart => exact ⟨(0), (by first | rfl | (simp; done) | (simp [*]; done)), H', ⟨Nat.le_refl _⟩, ⟨by repeat (first | (with_reducible first | exact HB.out | apply below_alloc | apply pw_below_drewN | apply below_drew1) | exact HB.out)⟩⟩
        case round =>
          clear H'
          try clear c1
          try clear c2
          try clear p2
          try clear c5
          try clear c6
          try clear c8
          try clear c9
          try clear c9b0
          try clear c9b1
          try clear c15
          try clear p2
          obtain ⟨x26_2, rfl, HA, HK2, HB⟩ := hrel
          cases gk with
          | zero => exact absurd HA.out (by simp [impl_SystemSolve.l0])
          | succ k2 =>
            have H := HA.out
            clear HA
            simp only [impl_SystemSolve.l0] at H
            by_cases c16 : x26_2 < 9
            · rw [if_pos c16] at H
              have c16b0 : decide (x26_2 < 9) = true := decide_eq_true c16
              clear c16
              obtain ⟨ji17, hji17⟩ : ∃ j_ : Int, (wrap64 ((wrap64 (9 * x26_2)) + a1)) = j_ := ⟨_, rfl⟩
              replace H : (if 0 ≤ (ji17) then (if (ji17) < (l0.length : Int) then (if (rd l0 (ji17)) = a2 then (some (x26_2, true)) else (impl_SystemSolve.l0 k2 l0 a1 a2 (wrap64 (x26_2 + 1)))) else (none)) else (none)) = some (r1, r2) := by first | (rw [hji17] at H; exact H) | (simp only [hji17] at H ⊢; exact H)
              have hji17w : (IntKind.i64.wrap ((wrap64 (9 * x26_2)) + a1)) = ji17 := (i64_w _).trans hji17
              by_cases c18 : 0 ≤ (ji17)
              · rw [if_pos c18] at H
                have c18b0 : decide (0 ≤ (ji17)) = true := decide_eq_true c18
                clear c18
                by_cases c19 : (ji17) < (l0.length : Int)
                · rw [if_pos c19] at H
                  have c19b0 : decide ((ji17) < (l0.length : Int)) = true := decide_eq_true c19
                  clear c19
                  by_cases c20 : (rd l0 (ji17)) = a2
                  · rw [if_pos c20] at H
                    have c20b0 : ((rd l0 (ji17)) == a2) = true := beq_iff_eq.mpr c20
                    have c20b1 : ((rd l0 (ji17)) != a2) = false := bne_eq_false_iff_eq.mpr c20
                    clear c20
                    simp only [Option.some.injEq, Prod.mk.injEq] at H
                    obtain ⟨rfl, rfl⟩ := H
                    have p170 : 0 ≤ ((ji17) : Int) := of_decide_eq_true (by first | (with_reducible assumption) | assumption)
                    have q170 : (ji17) < (l0.length : Int) := of_decide_eq_true (by first | (with_reducible assumption) | assumption)
                    obtain ⟨ad170, e170, hx170_0⟩ := Kd.at_int HR0.out (ji17) p170 q170
                    cases e170
                    replace hx170_0 := (HB.out.cell (World.block_lt_of_cell? w _ hx170_0)).trans hx170_0
                    replace p170 := eq_true p170
                    replace q170 := eq_true q170
                    go_wp2
                    go_ret2
                    exact ⟨by first | rfl | (simp [errW_none, errW_some] <;> rfl) | (simp only [← hji17]; first | rfl | (simp [errW_none, errW_some] <;> rfl)) | (simp [*, errW_none, errW_some] <;> rfl), by repeat (first | (with_reducible first | exact HB.out | apply below_alloc | apply pw_below_drewN | apply below_drew1) | exact HB.out)⟩
                  · rw [if_neg c20] at H
                    have c20b0 : ((rd l0 (ji17)) == a2) = false := beq_eq_false_iff_ne.mpr c20
                    have c20b1 : ((rd l0 (ji17)) != a2) = true := bne_iff_ne.mpr c20
                    have H' := Aside0.mk H
                    clear H
                    have p170 : 0 ≤ ((ji17) : Int) := of_decide_eq_true (by first | (with_reducible assumption) | assumption)
                    have q170 : (ji17) < (l0.length : Int) := of_decide_eq_true (by first | (with_reducible assumption) | assumption)
                    obtain ⟨ad170, e170, hx170_0⟩ := Kd.at_int HR0.out (ji17) p170 q170
                    cases e170
                    replace hx170_0 := (HB.out.cell (World.block_lt_of_cell? w _ hx170_0)).trans hx170_0
                    replace p170 := eq_true p170
                    replace q170 := eq_true q170
                    go_wp2
                    go_roundg k2
                    case measure => have := HJ3.out; have := HK2.out; omega
                    case rel => exact ⟨(wrap64 (x26_2 + 1)), (by first | rfl | (simp; done) | (simp [*]; done)), H', ⟨by have := HJ3.out; have := HK2.out; omega⟩, ⟨by repeat (first | (with_reducible first | exact HB.out | apply below_alloc | apply pw_below_drewN | apply below_drew1) | exact HB.out)⟩⟩
                · rw [if_neg c19] at H
                  exact absurd H (by simp)
              · rw [if_neg c18] at H
                exact absurd H (by simp)
            · rw [if_neg c16] at H
              have c16b0 : decide (x26_2 < 9) = false := decide_eq_false c16
              clear c16
              simp only [Option.some.injEq, Prod.mk.injEq] at H
              obtain ⟨rfl, rfl⟩ := H
              go_wp2
              go_ret2
              exact ⟨by first | rfl | (simp [errW_none, errW_some] <;> rfl) | (simp [*, errW_none, errW_some] <;> rfl), by repeat (first | (with_reducible first | exact HB.out | apply below_alloc | apply pw_below_drewN | apply below_drew1) | exact HB.out)⟩

/-! ### impl_SystemSwaps: function 29 -/
set_option maxHeartbeats 4000000 in
set_option maxRecDepth 100000 in
theorem impl_SystemSwaps_1.calls (B : Nat) (ad : Addr) (l : List Int) (cap : Nat) (a b c : Int) (r : Bool) (W : World) (a0 : 0 ≤ a) (b0 : 0 ≤ b) (c0 : 0 ≤ c) (a1 : a ≤ 8) (b1 : b ≤ 8) (c1 : c ≤ 8) (hT : Tab W B ad l cap) (h : swpI l a b c = r) :
    Calls Try.prog 62 #[.int .i64 a, .int .i64 b, .int .i64 c, .pointer (some ⟨B, 0, none⟩)] W fun e w' => e = .returned (.bool r) ∧ Drawn0 W w' := by
  unfold swpI at h
  have hcell := hT.var
  have kk1 := hT.at_ (9 * a + b) (by omega) (by omega)
  have w1 : IntKind.i64.wrap (9 * a) = 9 * a := w_in (by omega) (by omega)
  obtain ⟨j1, e1⟩ : ∃ j, 9 * a + b = j := ⟨_, rfl⟩
  have g1 : IntKind.i64.wrap (9 * a + b) = j1 := by rw [← e1]; exact w_in (by omega) (by omega)
  have p1 : 0 ≤ j1 := by omega
  have q1 : j1 < 81 := by omega
  rw [e1] at kk1 h
  obtain ⟨x1, x1E⟩ : ∃ z, rd l j1 = z := ⟨_, rfl⟩
  rw [x1E] at kk1 h
  have kk2 := hT.at_ (9 * b + a) (by omega) (by omega)
  have w2 : IntKind.i64.wrap (9 * b) = 9 * b := w_in (by omega) (by omega)
  obtain ⟨j2, e2⟩ : ∃ j, 9 * b + a = j := ⟨_, rfl⟩
  have g2 : IntKind.i64.wrap (9 * b + a) = j2 := by rw [← e2]; exact w_in (by omega) (by omega)
  have p2 : 0 ≤ j2 := by omega
  have q2 : j2 < 81 := by omega
  rw [e2] at kk2 h
  obtain ⟨x2, x2E⟩ : ∃ z, rd l j2 = z := ⟨_, rfl⟩
  rw [x2E] at kk2 h
  clear hT e1 x1E e2 x2E a0 a1 b0 b1 c0 c1
  by_cases e : x1 = x2
  · have eb : (x1 == x2) = true := beq_iff_eq.mpr e
    rw [decide_eq_true e] at h
    subst h
    clear e
    go_enter Try.func62, Try.ntmps62
    go_wp2
    repeat (go_quiet (fail); try go_wp2)
    go_ret
    exact ⟨rfl, by repeat (first | exact Drawn0.refl _ | apply Drawn0.step)⟩
  · have eb : (x1 == x2) = false := beq_eq_false_iff_ne.mpr e
    rw [decide_eq_false e] at h
    subst h
    clear e
    go_enter Try.func62, Try.ntmps62
    go_wp2
    repeat (go_quiet (fail); try go_wp2)
    go_ret
    exact ⟨rfl, by repeat (first | exact Drawn0.refl _ | apply Drawn0.step)⟩
def impl_SystemSwaps.f (l : List Int) : Option Bool := some (sysI l && all3 (swpI l))
set_option maxHeartbeats 4000000 in
set_option maxRecDepth 100000 in
theorem impl_SystemSwaps.calls (A0 : Option Addr) (c0 : Nat) (l0 : List Int) (r : Bool) (w : World) (hr0 : Kd.C (Kd.int .i64) w A0 l0.length l0) (hc0 : l0.length ≤ c0) (h : impl_SystemSwaps.f l0 = some r) :
    Calls Try.prog 29 #[.slice A0 l0.length c0] w fun e w' => e = .returned (.bool r) ∧ Below w.heap.size w w' := by
  have h1 : (sysI l0 && all3 (swpI l0)) = r := Option.some.inj h
  clear h
  have HB0 := Aside0.mk (below_alloc (Below.refl w.heap.size w) (.cells #[.slice A0 l0.length c0] 22))
  obtain ⟨q, hq⟩ : ∃ q, sysI l0 = q := ⟨_, rfl⟩
  have HC := Aside0.mk (impl_isSystem.calls A0 c0 l0 q _ (Kd.C_alloc hr0 (.cells #[.slice A0 l0.length c0] 22)) hc0 (congrArg some hq))
  rw [hq] at h1
  cases q with
  | false =>
    rw [Bool.false_and] at h1
    subst h1
    clear hr0 hq hc0
    go_enter Try.func29, Try.ntmps29
    go_wp2_with (fail)
    refine HC.out.mono ?_
    rintro e w' ⟨rfl, hb⟩
    have HB := Aside0.mk (below_then HB0.out HB0.out.size hb)
    clear hb HC
    go_wp2
    go_ret
    exact ⟨rfl, HB.out⟩
  | true =>
    rw [Bool.true_and] at h1
    have hn : nines l0 81 = true := (Bool.and_eq_true_iff.mp hq).1
    have hl : l0.length = 81 := by have := sys_len hn; omega
    obtain ⟨ad, rfl, hT⟩ := Tab.mk' (cap := c0) (t := 22) hl hr0
    have HT := Aside0.mk hT
    have HR := Aside0.mk h1
    have HN := Aside0.mk hn
    rw [hl] at HC HB0
    rw [hl]
    clear hr0 hq hc0 hl hn hT h1
    have eg : ∀ args w, (callFunc 62 args).run Try.prog w = .ok (.enter 62 args) w := enters_of Try.func62 (by kernel_rfl) rfl
    go_enter Try.func29, Try.ntmps29
    go_wp2_with (fail)
    refine HC.out.mono ?_
    rintro e w1 ⟨rfl, hb⟩
    have HB := Aside0.mk (below_then HB0.out HB0.out.size hb)
    have HT1 := Aside0.mk (HT.out.below hb)
    have G1 : Gives3 62 #[.pointer (some ⟨w.heap.size, 0, none⟩)] (swpI l0) w1 := fun W a b c hb a0 a1 b0 b1 c0' c1 => (impl_SystemSwaps_1.calls w.heap.size ad l0 c0 a b c _ W a0 b0 c0' a1 b1 c1 (HT1.out.below hb) rfl).mono fun e w' ⟨h1, h2⟩ => ⟨h1, h2.below⟩
    have FC := Aside0.mk (impl_forAll.calls 62 #[.pointer (some ⟨w.heap.size, 0, none⟩)] (swpI l0) r w1 eg G1 HR.out)
    clear hb HC G1 eg HT
    go_wp2_with (fail)
    refine FC.out.mono ?_
    rintro e w2 ⟨rfl, hb⟩
    have HB2 := Aside0.mk (below_then HB.out HB.out.size hb)
    clear hb FC
    cases r <;>
    · go_wp2
      go_ret
      exact ⟨rfl, HB2.out⟩

end Go.Proofs.Yteioeojpomahgaa.P
