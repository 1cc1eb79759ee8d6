/- Contracts of Go functions of the given program: each says, under its own hypotheses, what a call returns and leaves. Written by this claim's own program over the kit's print. -/
import Derived.Test.YtiobhhcbdcbajaaPx0
import Derived.Test.YtiobhhcbdcbajaaPx1
import Derived.Test.YtiobhhcbdcbajaaPx4
namespace Go.Proofs.Ytiobhhcbdcbajaa.P
open Go.RowKit Go.Proofs.YtiobhhcbdcbajaaW.PrintWords Go.Proofs.YtiobhhcbdcbajaaW.PrintLast Go.Proofs.YtiobhhcbdcbajaaW.PrintMore
attribute [local go_sem] max2_int min2_int max_two min_two max_three min_three max_four min_four   -- for this text's walks alone
set_option linter.unusedVariables false
set_option linter.unusedSimpArgs false

/-! ### impl_isSystem: function 40 -/
set_option maxHeartbeats 4000000 in
set_option maxRecDepth 100000 in
theorem impl_isSystem_1.calls (B : Nat) (ad : Addr) (l : List Int) (cap : Nat) (a b c : Int) (r : Bool) (W : World) (a0 : 0 ≤ a) (b0 : 0 ≤ b) (c0 : 0 ≤ c) (a1 : a ≤ 8) (b1 : b ≤ 8) (c1 : c ≤ 8) (hT : Tab W B ad l cap) (h : shareI l a b c = r) :
    Calls Try.prog 68 #[.int .i64 a, .int .i64 b, .int .i64 c, .pointer (some ⟨B, 0, none⟩)] W fun e w' => e = .returned (.bool r) ∧ Drawn0 W w' := by
  unfold shareI at h
  have hcell := hT.var
  have sm := addP_mem a0 a1 b0 b1
  have F1 := add_some a b
  obtain ⟨s, sE⟩ : ∃ z, addP a b = z := ⟨_, rfl⟩
  rw [sE] at F1 h sm
  obtain ⟨s0, s1⟩ := sm
  have kk2 := hT.at_ (9 * s + c) (by omega) (by omega)
  have w2 : IntKind.i64.wrap (9 * s) = 9 * s := w_in (by omega) (by omega)
  obtain ⟨j2, e2⟩ : ∃ j, 9 * s + c = j := ⟨_, rfl⟩
  have g2 : IntKind.i64.wrap (9 * s + c) = j2 := by rw [← e2]; exact w_in (by omega) (by omega)
  have p2 : 0 ≤ j2 := by omega
  have q2 : j2 < 81 := by omega
  rw [e2] at kk2 h
  obtain ⟨x1, x1E⟩ : ∃ z, rd l j2 = z := ⟨_, rfl⟩
  rw [x1E] at kk2 h
  have kk3 := hT.at_ (9 * a + c) (by omega) (by omega)
  have w3 : IntKind.i64.wrap (9 * a) = 9 * a := w_in (by omega) (by omega)
  obtain ⟨j3, e3⟩ : ∃ j, 9 * a + c = j := ⟨_, rfl⟩
  have g3 : IntKind.i64.wrap (9 * a + c) = j3 := by rw [← e3]; exact w_in (by omega) (by omega)
  have p3 : 0 ≤ j3 := by omega
  have q3 : j3 < 81 := by omega
  rw [e3] at kk3 h
  obtain ⟨x2, x2E⟩ : ∃ z, rd l j3 = z := ⟨_, rfl⟩
  rw [x2E] at kk3 h
  have kk4 := hT.at_ (9 * b + c) (by omega) (by omega)
  have w4 : IntKind.i64.wrap (9 * b) = 9 * b := w_in (by omega) (by omega)
  obtain ⟨j4, e4⟩ : ∃ j, 9 * b + c = j := ⟨_, rfl⟩
  have g4 : IntKind.i64.wrap (9 * b + c) = j4 := by rw [← e4]; exact w_in (by omega) (by omega)
  have p4 : 0 ≤ j4 := by omega
  have q4 : j4 < 81 := by omega
  rw [e4] at kk4 h
  obtain ⟨x3, x3E⟩ : ∃ z, rd l j4 = z := ⟨_, rfl⟩
  rw [x3E] at kk4 h
  have F5 := add_some x2 x3
  obtain ⟨y, yE⟩ : ∃ z, addP x2 x3 = z := ⟨_, rfl⟩
  rw [yE] at F5 h
  clear hT s0 s1 sE e2 x1E e3 x2E e4 x3E yE a0 a1 b0 b1 c0 c1
  have F1 := Aside0.mk F1
  have F5 := Aside0.mk F5
  by_cases e : x1 = y
  · have eb : (x1 == y) = true := beq_iff_eq.mpr e
    rw [decide_eq_true e] at h
    subst h
    clear e
    go_enter Try.func68, Try.ntmps68
    go_wp2
    repeat (go_quiet (first | (go_at_call 69; (with_reducible refine (impl_add.calls a b s _ F1.out).mono ?_); rintro e w' ⟨rfl, ⟨nd, rfl⟩⟩; (try first | exact ⟨rfl, _, World.drewN_drewN _ _ _⟩ | exact ⟨rfl, _, Eq.trans (World.drewN_drewN _ _ _) (congrArg (World.drewN _) (Nat.add_assoc _ _ _))⟩)) | (go_at_call 69; (with_reducible refine (impl_add.calls x2 x3 y _ F5.out).mono ?_); rintro e w' ⟨rfl, ⟨nd, rfl⟩⟩; (try first | exact ⟨rfl, _, World.drewN_drewN _ _ _⟩ | exact ⟨rfl, _, Eq.trans (World.drewN_drewN _ _ _) (congrArg (World.drewN _) (Nat.add_assoc _ _ _))⟩))); try go_wp2)
    go_ret
    exact ⟨rfl, by repeat (first | exact Drawn0.refl _ | apply Drawn0.step)⟩
  · have eb : (x1 == y) = false := beq_eq_false_iff_ne.mpr e
    rw [decide_eq_false e] at h
    subst h
    clear e
    go_enter Try.func68, Try.ntmps68
    go_wp2
    repeat (go_quiet (first | (go_at_call 69; (with_reducible refine (impl_add.calls a b s _ F1.out).mono ?_); rintro e w' ⟨rfl, ⟨nd, rfl⟩⟩; (try first | exact ⟨rfl, _, World.drewN_drewN _ _ _⟩ | exact ⟨rfl, _, Eq.trans (World.drewN_drewN _ _ _) (congrArg (World.drewN _) (Nat.add_assoc _ _ _))⟩)) | (go_at_call 69; (with_reducible refine (impl_add.calls x2 x3 y _ F5.out).mono ?_); rintro e w' ⟨rfl, ⟨nd, rfl⟩⟩; (try first | exact ⟨rfl, _, World.drewN_drewN _ _ _⟩ | exact ⟨rfl, _, Eq.trans (World.drewN_drewN _ _ _) (congrArg (World.drewN _) (Nat.add_assoc _ _ _))⟩))); try go_wp2)
    go_ret
    exact ⟨rfl, by repeat (first | exact Drawn0.refl _ | apply Drawn0.step)⟩
set_option maxHeartbeats 4000000 in
set_option maxRecDepth 100000 in
theorem impl_isSystem_2.calls (B : Nat) (ad : Addr) (l : List Int) (cap : Nat) (z : Int) (r : Int) (W : World) (Bc : Nat) (c : Int) (hc : W.cell? ⟨Bc, 0, none⟩ = some (.int .i64 c)) (Bd : Nat) (d : Int) (hd : W.cell? ⟨Bd, 0, none⟩ = some (.int .i64 d)) (z0 : 0 ≤ z) (c0 : 0 ≤ c) (d0 : 0 ≤ d) (z1 : z ≤ 8) (c1 : c ≤ 8) (d1 : d ≤ 8) (hT : Tab W B ad l cap) (h : lessI l c d z = r) :
    Calls Try.prog 71 #[.int .i64 z, .pointer (some ⟨B, 0, none⟩), .pointer (some ⟨Bc, 0, none⟩), .pointer (some ⟨Bd, 0, none⟩)] W fun e w' => e = .returned (.int .i64 r) ∧ Drawn0 W w' := by
  unfold lessI at h
  have hcell := hT.var
  have kk1 := hT.at_ (9 * z + c) (by omega) (by omega)
  have w1 : IntKind.i64.wrap (9 * z) = 9 * z := w_in (by omega) (by omega)
  obtain ⟨j1, e1⟩ : ∃ j, 9 * z + c = j := ⟨_, rfl⟩
  have g1 : IntKind.i64.wrap (9 * z + c) = j1 := by rw [← e1]; exact w_in (by omega) (by omega)
  have p1 : 0 ≤ j1 := by omega
  have q1 : j1 < 81 := by omega
  rw [e1] at kk1 h
  obtain ⟨u, uE⟩ : ∃ z, rd l j1 = z := ⟨_, rfl⟩
  rw [uE] at kk1 h
  have kk2 := hT.at_ (9 * z + d) (by omega) (by omega)
  obtain ⟨j2, e2⟩ : ∃ j, 9 * z + d = j := ⟨_, rfl⟩
  have g2 : IntKind.i64.wrap (9 * z + d) = j2 := by rw [← e2]; exact w_in (by omega) (by omega)
  have p2 : 0 ≤ j2 := by omega
  have q2 : j2 < 81 := by omega
  rw [e2] at kk2 h
  obtain ⟨v, vE⟩ : ∃ z, rd l j2 = z := ⟨_, rfl⟩
  rw [vE] at kk2 h
  have F3 := minus_some v
  obtain ⟨y, yE⟩ : ∃ z, minusP v = z := ⟨_, rfl⟩
  rw [yE] at F3 h
  have F4 := add_some u y
  obtain ⟨s, sE⟩ : ∃ z, addP u y = z := ⟨_, rfl⟩
  rw [sE] at F4 h
  clear hT e1 uE e2 vE yE sE z0 z1 c0 c1 d0 d1
  have F3 := Aside0.mk F3
  have F4 := Aside0.mk F4
  subst h
  go_enter Try.func71, Try.ntmps71
  go_wp2
  repeat (go_quiet (first | (go_at_call 72; (with_reducible refine (impl_minus.calls v y _ F3.out).mono ?_); rintro e w' ⟨rfl, ⟨nd, rfl⟩⟩; (try first | exact ⟨rfl, _, World.drewN_drewN _ _ _⟩ | exact ⟨rfl, _, Eq.trans (World.drewN_drewN _ _ _) (congrArg (World.drewN _) (Nat.add_assoc _ _ _))⟩)) | (go_at_call 69; (with_reducible refine (impl_add.calls u y s _ F4.out).mono ?_); rintro e w' ⟨rfl, ⟨nd, rfl⟩⟩; (try first | exact ⟨rfl, _, World.drewN_drewN _ _ _⟩ | exact ⟨rfl, _, Eq.trans (World.drewN_drewN _ _ _) (congrArg (World.drewN _) (Nat.add_assoc _ _ _))⟩))); try go_wp2)
  go_ret
  exact ⟨rfl, by repeat (first | exact Drawn0.refl _ | apply Drawn0.step)⟩
/-- What is asked of a function value from elements to elements: it answers f, and what lay lies. -/
def GivesF (g : Nat) (lb : Array Value) (f : Int → Int) (w : World) : Prop :=
  ∀ (W : World) (a : Int), Below w.heap.size w W → 0 ≤ a → a ≤ 8 →
    Calls Try.prog g (#[.int .i64 a] ++ lb) W fun e w' => e = .returned (.int .i64 (f a)) ∧ Below W.heap.size W w'
set_option maxHeartbeats 4000000 in
set_option maxRecDepth 100000 in
theorem impl_isOnce.calls (g : Nat) (lb : Array Value) (f : Int → Int) (r : Bool) (w : World) (eg : ∀ args w, (callFunc g args).run Try.prog w = .ok (.enter g args) w) (hp : GivesF g lb f w) (hf : ∀ x, 0 ≤ x → x ≤ 8 → 0 ≤ f x ∧ f x ≤ 8) (h : once f = r) :
    Calls Try.prog 70 #[.func (.func g) #[] lb] w fun e w' => e = .returned (.bool r) ∧ Below w.heap.size w w' := by
  have HP := Aside0.mk hp
  have HR := Aside0.mk h
  have HF := Aside0.mk hf
  have HS := Aside0.mk (Seen.start w 57)
  have HB := Aside0.mk (below_alloc (Below.refl w.heap.size w) (.cells #[.bool false, .bool false, .bool false, .bool false, .bool false, .bool false, .bool false, .bool false, .bool false] 57))
  clear hp h hf
  go_enter Try.func70, Try.ntmps70
  go_wp2
  go_loopg [6] 9 (fun kq v6 w1 => ∃ (s : Int → Bool) (i : Int), v6 = .int .i64 i ∧ Aside0 (0 ≤ i ∧ i ≤ 9 ∧ (9 - i).toNat ≤ kq) ∧ Aside0 (∀ j, s j = true ↔ ∃ x, 0 ≤ x ∧ x < i ∧ f x = j) ∧ Aside0 (∀ x y, 0 ≤ x → x < y → y < i → f x ≠ f y) ∧ Aside0 (Seen w1 w.heap.size s) ∧ Aside0 (Below w.heap.size w w1))
  case atStart => exact ⟨fun _ => false, 0, rfl, ⟨by omega, by omega, by decide⟩, ⟨fun j => ⟨fun h => (by cases h), fun ⟨x, h0, h1, _⟩ => (by omega)⟩⟩, ⟨fun x y h0 h1 h2 => by omega⟩, HS, HB⟩
  case round =>
    clear HS HB
    obtain ⟨s, i, rfl, B1, A1, D1, HS1, HB1⟩ := hrel
    have i0 := B1.out.1
    have i1 := B1.out.2.1
    by_cases hi : i < 9
    · have hib : decide (i < 9) = true := decide_eq_true hi
      obtain ⟨v0, v1⟩ := HF.out i i0 (by omega)
      have HC0 : ∀ W, Below w.heap.size w W → Calls Try.prog g (#[.int .i64 i] ++ lb) W fun e w' => e = .returned (.int .i64 (f i)) ∧ Below W.heap.size W w' := fun W hb => HP.out W i hb i0 (by omega)
      obtain ⟨v, hv⟩ : ∃ v, f i = v := ⟨_, rfl⟩
      rw [hv] at v0 v1
      simp only [hv] at HC0
      have HV := Aside0.mk hv
      have HC := Aside0.mk HC0
      clear hv HC0
      have v2 : v < 9 := by omega
      cases hq : s v with
      | true =>
        have HQ := Aside0.mk hq
        clear hq
        go_wp2_with (fail)
        refine (HC.out _ HB1.out).mono ?_
        rintro e w' ⟨rfl, hbw⟩
        have HB2 := Aside0.mk (below_then HB1.out HB1.out.size hbw)
        have hc := (HS1.out.below hbw).cell v v0 v2
        rw [HQ.out] at hc
        clear hbw
        go_wp2
        go_ret
        obtain ⟨x, x0, x1, hx⟩ := (A1.out v).mp HQ.out
        have hr : r = false := by
          rw [← HR.out]
          refine Bool.eq_false_iff.mpr fun ht => ?_
          exact once_iff.mp ht x i x0 (by omega) i0 (by omega) (by omega) (by rw [hx, HV.out])
        subst hr
        exact ⟨rfl, HB2.out⟩
      | false =>
        have HQ := Aside0.mk hq
        clear hq
        go_wp2_with (fail)
        refine (HC.out _ HB1.out).mono ?_
        rintro e w' ⟨rfl, hbw⟩
        have HB2 := Aside0.mk (below_then HB1.out HB1.out.size hbw)
        have HS2 := Aside0.mk (HS1.out.below hbw)
        have hc := HS2.out.cell v v0 v2
        rw [HQ.out] at hc
        clear hbw
        go_wp2_with (fail)
        refine (HC.out _ HB2.out).mono ?_
        rintro e w'' ⟨rfl, hbw⟩
        have HB3 := Aside0.mk (below_then HB2.out HB2.out.size hbw)
        have HS3 := Aside0.mk (HS2.out.below hbw)
        have hc3 := HS3.out.cell v v0 v2
        have hf3 := HS3.out.free v v0 v2
        rw [HQ.out] at hc3
        clear hbw hc
        have HS4 := Aside0.mk (HS3.out.put v0 v2)
        have HB4 := Aside0.mk (below_set (j := v.toNat) (v := .bool true) HB3.out (Nat.le_refl _))
        go_wp2
        go_roundg (8 - i).toNat
        case measure => have := B1.out.2.2; omega
        case rel => exact ⟨_, i + 1, by go_num, ⟨by omega, by omega, by omega⟩, ⟨fun j => by
            rw [Bool.or_eq_true, decide_eq_true_eq, A1.out j]
            constructor
            · rintro (e | ⟨x, h0, h1, h2⟩)
              · exact ⟨i, i0, by omega, by rw [HV.out, e]⟩
              · exact ⟨x, h0, by omega, h2⟩
            · rintro ⟨x, h0, h1, h2⟩
              by_cases e : x = i
              · subst e
                exact .inl (by rw [← h2, HV.out])
              · exact .inr ⟨x, h0, by omega, h2⟩⟩, ⟨fun x y h0 h1 h2 => by
            by_cases e : y = i
            · subst e
              intro hxy
              have : s v = true := (A1.out v).mpr ⟨x, h0, h1, by rw [hxy, HV.out]⟩
              rw [HQ.out] at this
              cases this
            · exact D1.out x y h0 h1 (by omega)⟩, HS4, HB4⟩
    · have hib : decide (i < 9) = false := decide_eq_false hi
      have hr : r = true := by
        rw [← HR.out, once_iff]
        intro x y h0 h1 h2 h3 hne
        rcases Int.lt_or_gt_of_ne hne with hlt | hlt
        · exact D1.out x y h0 hlt (by omega)
        · exact fun e => D1.out y x h2 hlt (by omega) e.symm
      subst hr
      clear HR
      go_wp2
      go_ret
      exact ⟨rfl, HB1.out⟩
/-- What is asked of a function value of one number, at the numbers of a list: it answers p, and what lay lies. -/
def GivesL (g : Nat) (lb : Array Value) (p : Int → Bool) (xs : List Int) (w : World) : Prop :=
  ∀ (W : World) (a : Int), Below w.heap.size w W → a ∈ xs →
    Calls Try.prog g (#[.int .i64 a] ++ lb) W fun e w' => e = .returned (.bool (p a)) ∧ Below W.heap.size W w'
set_option maxHeartbeats 4000000 in
set_option maxRecDepth 100000 in
theorem slices_IndexFunc_int_int.calls (A0 : Option Addr) (c0 : Nat) (l0 : List Int) (g : Nat) (lb : Array Value) (p : Int → Bool) (r : Bool) (w : World) (eg : ∀ args w, (callFunc g args).run Try.prog w = .ok (.enter g args) w) (hr0 : Kd.C (Kd.int .i64) w A0 l0.length l0) (hp : GivesL g lb p l0 w) (h : l0.any p = r) :
    Calls Try.prog 103 #[.slice A0 l0.length c0, .func (.func g) #[] lb] w fun e w' => (∃ z : Int, e = .returned (.int .i64 z) ∧ decide (0 ≤ z) = r) ∧ Below w.heap.size w w' := by
  have HP := Aside0.mk hp
  have HR := Aside0.mk h
  have HR0 := Aside0.mk hr0
  have hm := Kd.C_max hr0
  clear hp h hr0
  go_enter Try.func103, Try.ntmps103
  go_wp2
  go_loopg [8] l0.length (fun kq v8 w1 => ∃ i : Int, v8 = .int .i64 i ∧ Aside0 (0 ≤ i ∧ i ≤ l0.length ∧ ((l0.length : Int) - i).toNat ≤ kq) ∧ Aside0 (∀ x ∈ l0.take i.toNat, p x = false) ∧ Aside0 (Below w.heap.size w w1))
  case atStart => exact ⟨0, rfl, ⟨by omega, by omega, by omega⟩, ⟨fun x hx => by simp at hx⟩, ⟨Below.refl _ _⟩⟩
  case round =>
    obtain ⟨i, rfl, B1, A1, HB1⟩ := hrel
    have i0 := B1.out.1
    have i1 := B1.out.2.1
    by_cases hi : i < (l0.length : Int)
    · have hib : decide (i < (l0.length : Int)) = true := decide_eq_true hi
      obtain ⟨ad, e0, hx⟩ := Kd.at_int (Kd.C_below HR0.out HB1.out) i i0 hi
      subst e0
      have hmem : rd l0 i ∈ l0 := by
        unfold rd
        rw [List.getD_eq_getElem?_getD, List.getElem?_eq_getElem (show i.toNat < l0.length by omega)]
        exact List.getElem_mem _
      have htake : l0.take (i + 1).toNat = l0.take i.toNat ++ [rd l0 i] := by
        rw [show (i + 1).toNat = i.toNat + 1 by omega, List.take_succ_eq_append_getElem (show i.toNat < l0.length by omega)]
        unfold rd
        rw [List.getD_eq_getElem?_getD, List.getElem?_eq_getElem (show i.toNat < l0.length by omega)]
        rfl
      obtain ⟨x, hxe⟩ : ∃ x, rd l0 i = x := ⟨_, rfl⟩
      rw [hxe] at hx hmem htake
      have HM := Aside0.mk hmem
      have HT := Aside0.mk htake
      clear hxe hmem htake
      cases hq : p x with
      | true =>
        have HC0 : ∀ W, Below w.heap.size w W → Calls Try.prog g (#[.int .i64 x] ++ lb) W fun e w' => e = .returned (.bool true) ∧ Below W.heap.size W w' := fun W hb => by
          have := HP.out W x hb HM.out
          rw [hq] at this
          exact this
        have HC := Aside0.mk HC0
        clear HC0
        have HQ := Aside0.mk hq
        clear hq
        go_wp2_with (fail)
        refine (HC.out _ HB1.out).mono ?_
        rintro e w' ⟨rfl, hbw⟩
        have HB2 := Aside0.mk (below_then HB1.out HB1.out.size hbw)
        clear hbw
        go_wp2
        go_ret
        have hr : r = true := by
          rw [← HR.out, List.any_eq_true]
          exact ⟨x, HM.out, HQ.out⟩
        subst hr
        exact ⟨⟨i, rfl, decide_eq_true i0⟩, HB2.out⟩
      | false =>
        have HC0 : ∀ W, Below w.heap.size w W → Calls Try.prog g (#[.int .i64 x] ++ lb) W fun e w' => e = .returned (.bool false) ∧ Below W.heap.size W w' := fun W hb => by
          have := HP.out W x hb HM.out
          rw [hq] at this
          exact this
        have HC := Aside0.mk HC0
        clear HC0
        have HQ := Aside0.mk hq
        clear hq
        go_wp2_with (fail)
        refine (HC.out _ HB1.out).mono ?_
        rintro e w' ⟨rfl, hbw⟩
        have HB2 := Aside0.mk (below_then HB1.out HB1.out.size hbw)
        clear hbw
        go_wp2
        go_roundg ((l0.length : Int) - i - 1).toNat
        case measure => have := B1.out.2.2; omega
        case rel => exact ⟨i + 1, by go_num, ⟨by omega, by omega, by omega⟩, ⟨fun y hy => by
            rw [HT.out, List.mem_append, List.mem_singleton] at hy
            rcases hy with hy | rfl
            · exact A1.out y hy
            · exact HQ.out⟩, HB2⟩
    · have hib : decide (i < (l0.length : Int)) = false := decide_eq_false hi
      have hr : r = false := by
        rw [← HR.out]
        refine Bool.eq_false_iff.mpr fun ht => ?_
        obtain ⟨x, hx, hpx⟩ := List.any_eq_true.mp ht
        have := A1.out x (by rw [List.take_of_length_le (by omega)]; exact hx)
        rw [hpx] at this
        cases this
      subst hr
      clear HR
      go_wp2
      go_ret
      exact ⟨⟨-1, rfl, by decide⟩, HB1.out⟩
set_option maxHeartbeats 4000000 in
set_option maxRecDepth 100000 in
theorem slices_ContainsFunc_int_int.calls (A0 : Option Addr) (c0 : Nat) (l0 : List Int) (g : Nat) (lb : Array Value) (p : Int → Bool) (r : Bool) (w : World) (eg : ∀ args w, (callFunc g args).run Try.prog w = .ok (.enter g args) w) (hr0 : Kd.C (Kd.int .i64) w A0 l0.length l0) (hp : GivesL g lb p l0 w) (h : l0.any p = r) :
    Calls Try.prog 92 #[.slice A0 l0.length c0, .func (.func g) #[] lb] w fun e w' => e = .returned (.bool r) ∧ Below w.heap.size w w' := by
  have HC := Aside0.mk (slices_IndexFunc_int_int.calls A0 c0 l0 g lb p r w eg hr0 hp h)
  clear hp h hr0
  go_enter Try.func92, Try.ntmps92
  go_wp2_with (fail)
  refine HC.out.mono ?_
  rintro e w' ⟨⟨z, rfl, hz⟩, hb⟩
  have HB := Aside0.mk hb
  clear hb HC
  cases r <;>
  · go_wp2
    go_ret
    exact ⟨by first | rfl | rw [hz] | simp [hz] | simp_all, HB.out⟩
set_option maxHeartbeats 4000000 in
theorem impl_areNines_1.calls (a : Int) (w : World) : Calls Try.prog 93 #[.int .i64 a] w fun e w' => e = .returned (.bool (!(decide (0 ≤ a) && decide (a < 9)))) ∧ Drawn0 w w' := by
  have A1 : Aside0 (impl_isNine.f a = some (decide (0 ≤ a) && decide (a < 9))) := ⟨by
    unfold impl_isNine.f
    by_cases h : a ≥ 0
    · rw [if_pos h, decide_eq_true (show 0 ≤ a from h), Bool.true_and]
    · rw [if_neg h, decide_eq_false (show ¬ 0 ≤ a from h), Bool.false_and]⟩
  obtain ⟨b, hb⟩ : ∃ b, (decide (0 ≤ a) && decide (a < 9)) = b := ⟨_, rfl⟩
  rw [hb] at A1 ⊢
  clear hb
  cases b <;>
  · go_enter Try.func93, Try.ntmps93
    go_wp2_with (go_at_call 94; (with_reducible refine (impl_isNine.calls a _ _ A1.out).mono ?_); rintro e w' ⟨rfl, ⟨nd, rfl⟩⟩)
    go_ret
    exact ⟨rfl, by repeat (first | exact Drawn0.refl _ | apply Drawn0.step)⟩
set_option maxHeartbeats 4000000 in
set_option maxRecDepth 100000 in
theorem impl_areNines.calls (A0 : Option Addr) (c0 : Nat) (l0 : List Int) (n : Int) (r : Bool) (w : World) (hr0 : Kd.C (Kd.int .i64) w A0 l0.length l0) (h : nines l0 n = r) :
    Calls Try.prog 66 #[.slice A0 l0.length c0, .int .i64 n] w fun e w' => e = .returned (.bool r) ∧ Below w.heap.size w w' := by
  have hm := Kd.C_max hr0
  have eg : ∀ args w, (callFunc 93 args).run Try.prog w = .ok (.enter 93 args) w := enters_of Try.func93 (by kernel_rfl) rfl
  have HC := Aside0.mk (slices_ContainsFunc_int_int.calls A0 c0 l0 93 #[] (fun a => !(decide (0 ≤ a) && decide (a < 9))) _ w eg hr0 (fun W a _ _ => (impl_areNines_1.calls a W).mono fun e w' ⟨h1, h2⟩ => ⟨h1, h2.below⟩) rfl)
  have hall : (l0.any fun a => !(decide (0 ≤ a) && decide (a < 9))) = !(l0.all fun a => decide (0 ≤ a) && decide (a < 9)) := by
    rw [List.all_eq_not_any_not]
    simp
  rw [hall] at HC
  unfold nines at h
  obtain ⟨q, hq⟩ : ∃ q, (l0.all fun a => decide (0 ≤ a) && decide (a < 9)) = q := ⟨_, rfl⟩
  rw [hq] at HC h
  clear hall hq hr0
  by_cases e : (l0.length : Int) = n
  · have eb : ((l0.length : Int) == n) = true := beq_iff_eq.mpr e
    rw [decide_eq_true e, Bool.true_and] at h
    subst h
    clear e
    cases q <;>
    · go_enter Try.func66, Try.ntmps66
      go_wp2_with (fail)
      refine HC.out.mono ?_
      rintro e w' ⟨rfl, hb⟩
      have HB := Aside0.mk hb
      clear hb HC
      go_wp2
      go_ret
      exact ⟨rfl, HB.out⟩
  · have eb : ((l0.length : Int) == n) = false := beq_eq_false_iff_ne.mpr e
    rw [decide_eq_false e, Bool.false_and] at h
    subst h
    clear e HC
    go_enter Try.func66, Try.ntmps66
    go_wp2
    go_ret
    exact ⟨rfl, Below.refl _ _⟩
theorem sys_len {l : List Int} {n : Int} (h : nines l n = true) : (l.length : Int) = n := (nines_iff.mp h).1
theorem solve_not {l : List Int} {c d : Int} (c0 : 0 ≤ c) (c1 : c ≤ 8) (d0 : 0 ≤ d) (d1 : d < c) (h : once (lessI l c d) = false) : solveI l = false := by
  refine Bool.eq_false_iff.mpr fun ht => ?_
  have := all9_iff.mp (all9_iff.mp ht c c0 c1) d d0 (by omega)
  rw [h, decide_eq_true d1] at this
  cases this
theorem solve_all {l : List Int} (h : ∀ c d, 0 ≤ c → c ≤ 8 → 0 ≤ d → d < c → once (lessI l c d) = true) : solveI l = true := by
  refine all9_iff.mpr fun c c0 c1 => all9_iff.mpr fun d d0 d1 => ?_
  by_cases hd : d < c
  · rw [h c d c0 c1 d0 hd]
    simp
  · simp [hd]
def impl_isSystem.f (l : List Int) : Option Bool := some (sysI l)
set_option maxHeartbeats 4000000 in
set_option maxRecDepth 100000 in
theorem impl_isSystem.not81 (A0 : Option Addr) (c0 : Nat) (l0 : List Int) (w : World) (hr0 : Kd.C (Kd.int .i64) w A0 l0.length l0) (hc0 : l0.length ≤ c0) (h : nines l0 81 = false) :
    Calls Try.prog 40 #[.slice A0 l0.length c0] w fun e w' => e = .returned (.bool false) ∧ Below w.heap.size w w' := by
  have HC := Aside0.mk (impl_areNines.calls A0 c0 l0 81 false _ (Kd.C_alloc hr0 (.cells #[.slice A0 l0.length c0] 23)) h)
  have HB0 := Aside0.mk (below_alloc (Below.refl w.heap.size w) (.cells #[.slice A0 l0.length c0] 23))
  clear hr0 hc0 h
  go_enter Try.func40, Try.ntmps40
  go_wp2_with (fail)
  refine HC.out.mono ?_
  rintro e w' ⟨rfl, hb⟩
  have HB := Aside0.mk (below_then HB0.out HB0.out.size hb)
  clear hb HC
  go_wp2
  go_ret
  exact ⟨rfl, HB.out⟩
set_option maxHeartbeats 8000000 in
set_option maxRecDepth 100000 in
theorem impl_isSystem.at81 (ad : Addr) (c0 : Nat) (l : List Int) (r : Bool) (w : World) (hn : nines l 81 = true) (hr0 : Kd.C (Kd.int .i64) w (some ad) l.length l) (hT : Tab (w.alloc (.cells #[.slice (some ad) 81 c0] 23)) w.heap.size ad l c0) (h : (e9.all (unitI l) && (all3 (shareI l) && solveI l)) = r) :
    Calls Try.prog 40 #[.slice (some ad) 81 c0] w fun e w' => e = .returned (.bool r) ∧ Below w.heap.size w w' := by
  have hl : l.length = 81 := by have := sys_len hn; omega
  have HC0 := impl_areNines.calls (some ad) c0 l 81 true _ (Kd.C_alloc hr0 (.cells #[.slice (some ad) 81 c0] 23)) hn
  rw [hl] at HC0
  have HC := Aside0.mk HC0
  have HB0 := Aside0.mk (below_alloc (Below.refl w.heap.size w) (.cells #[.slice (some ad) 81 c0] 23))
  have HT := Aside0.mk hT
  have HR := Aside0.mk h
  have HN := Aside0.mk hn
  clear hr0 hn hT h HC0 hl
  go_enter Try.func40, Try.ntmps40
  go_wp2_with (fail)
  refine HC.out.mono ?_
  rintro e w' ⟨rfl, hb⟩
  have HB := Aside0.mk (below_then HB0.out HB0.out.size hb)
  have HT1 := Aside0.mk (HT.out.below hb)
  clear hb HC HT HB0
  go_wp2
  go_loopg [9] 9 (fun kq v9 w1 => ∃ i : Int, v9 = .int .i64 i ∧ Aside0 (0 ≤ i ∧ i ≤ 9 ∧ (9 - i).toNat ≤ kq) ∧ Aside0 (∀ a, 0 ≤ a → a < i → unitI l a = true) ∧ Aside0 (Tab w1 w.heap.size ad l c0) ∧ Aside0 (Below w.heap.size w w1))
  case atStart => exact ⟨0, rfl, ⟨by omega, by omega, by decide⟩, ⟨fun a h0 h1 => absurd h1 (by omega)⟩, HT1, HB⟩
  case round =>
    clear HT1 HB
    obtain ⟨i, rfl, B1, A1, HT1, HB1⟩ := hrel
    have i0 := B1.out.1
    have i1 := B1.out.2.1
    by_cases hi : i < 9
    · have hib : decide (i < 9) = true := decide_eq_true hi
      have hcell := HT1.out.var
      have kk1 := HT1.out.at_ i (by omega) (by omega)
      have kk2 := HT1.out.at_ (9 * i) (by omega) (by omega)
      have kk3 := HT1.out.at_ (9 + i) (by omega) (by omega)
      have kk4 := HT1.out.at_ (9 * i + 1) (by omega) (by omega)
      have hu : unitI l i = (decide (rd l i = 0) && decide (rd l (9 * i) = 0) && decide (rd l (9 + i) = i) && decide (rd l (9 * i + 1) = i)) := rfl
      obtain ⟨x1, e1⟩ : ∃ z, rd l i = z := ⟨_, rfl⟩
      obtain ⟨x2, e2⟩ : ∃ z, rd l (9 * i) = z := ⟨_, rfl⟩
      obtain ⟨x3, e3⟩ : ∃ z, rd l (9 + i) = z := ⟨_, rfl⟩
      obtain ⟨x4, e4⟩ : ∃ z, rd l (9 * i + 1) = z := ⟨_, rfl⟩
      rw [e1, e2, e3, e4] at hu
      rw [e1] at kk1
      rw [e2] at kk2
      rw [e3] at kk3
      rw [e4] at kk4
      clear e1 e2 e3 e4
      have HU := Aside0.mk hu
      clear hu
      have hno : unitI l i = false → r = false := fun hq => by
        rw [← HR.out, show e9.all (unitI l) = false from Bool.eq_false_iff.mpr fun ht => by rw [all9_iff.mp ht i i0 (by omega)] at hq; cases hq]
        rfl
      have HNO := Aside0.mk hno
      clear hno
      by_cases t1 : x1 = 0
      · have t1b : (x1 != 0) = false := bne_eq_false_iff_eq.mpr t1
        by_cases t2 : x2 = 0
        · have t2b : (x2 != 0) = false := bne_eq_false_iff_eq.mpr t2
          by_cases t3 : x3 = i
          · have t3b : (x3 != i) = false := bne_eq_false_iff_eq.mpr t3
            by_cases t4 : x4 = i
            · have t4b : (x4 != i) = false := bne_eq_false_iff_eq.mpr t4
              have HQ : Aside0 (unitI l i = true) := ⟨by rw [HU.out, decide_eq_true t1, decide_eq_true t2, decide_eq_true t3, decide_eq_true t4]; rfl⟩
              clear t1 t2 t3 t4 HU HNO
              go_wp2
              go_roundg (8 - i).toNat
              case measure => have := B1.out.2.2; omega
              case rel => exact ⟨i + 1, by go_num, ⟨by omega, by omega, by omega⟩, ⟨fun a h0 h1 => by
                  by_cases e : a = i
                  · rw [e]; exact HQ.out
                  · exact A1.out a h0 (by omega)⟩, HT1, HB1⟩
            · have t4b : (x4 != i) = true := bne_iff_ne.mpr t4
              have hr := HNO.out (by rw [HU.out, decide_eq_false t4, Bool.and_false])
              subst hr
              clear t1 t2 t3 t4 HU HNO HR
              go_wp2
              go_ret
              exact ⟨rfl, HB1.out⟩
          · have t3b : (x3 != i) = true := bne_iff_ne.mpr t3
            have hr := HNO.out (by rw [HU.out, decide_eq_false t3, Bool.and_false, Bool.false_and])
            subst hr
            clear t1 t2 t3 HU HNO HR
            go_wp2
            go_ret
            exact ⟨rfl, HB1.out⟩
        · have t2b : (x2 != 0) = true := bne_iff_ne.mpr t2
          have hr := HNO.out (by rw [HU.out, decide_eq_false t2, Bool.and_false, Bool.false_and, Bool.false_and])
          subst hr
          clear t1 t2 HU HNO HR
          go_wp2
          go_ret
          exact ⟨rfl, HB1.out⟩
      · have t1b : (x1 != 0) = true := bne_iff_ne.mpr t1
        have hr := HNO.out (by rw [HU.out, decide_eq_false t1, Bool.false_and, Bool.false_and, Bool.false_and])
        subst hr
        clear t1 HU HNO HR
        go_wp2
        go_ret
        exact ⟨rfl, HB1.out⟩
    · have hib : decide (i < 9) = false := decide_eq_false hi
      have hu : e9.all (unitI l) = true := all9_iff.mpr fun a h0 h1 => A1.out a h0 (by omega)
      have HR1 : Aside0 ((all3 (shareI l) && solveI l) = r) := ⟨by rw [← HR.out, hu, Bool.true_and]⟩
      clear HR hu A1
      have eg : ∀ args w, (callFunc 68 args).run Try.prog w = .ok (.enter 68 args) w := enters_of Try.func68 (by kernel_rfl) rfl
      have eg2 : ∀ args w, (callFunc 71 args).run Try.prog w = .ok (.enter 71 args) w := enters_of Try.func71 (by kernel_rfl) rfl
      have G1 : Gives3 68 #[.pointer (some ⟨w.heap.size, 0, none⟩)] (shareI l) wr := fun W a b c hb a0 a1 b0 b1 c0' c1 => (impl_isSystem_1.calls w.heap.size ad l c0 a b c _ W a0 b0 c0' a1 b1 c1 (HT1.out.below hb) rfl).mono fun e w' ⟨h1, h2⟩ => ⟨h1, h2.below⟩
      obtain ⟨q, hq⟩ : ∃ q, all3 (shareI l) = q := ⟨_, rfl⟩
      have FC := Aside0.mk (impl_forAll.calls 68 #[.pointer (some ⟨w.heap.size, 0, none⟩)] (shareI l) q wr eg G1 hq)
      rw [hq] at HR1
      clear hq G1 eg
      cases q with
      | false =>
        have hr : r = false := by rw [← HR1.out, Bool.false_and]
        subst hr
        clear HR1
        go_wp2_with (fail)
        refine FC.out.mono ?_
        rintro e w' ⟨rfl, hb⟩
        have HB2 := Aside0.mk (below_then HB1.out HB1.out.size hb)
        clear hb FC
        go_wp2
        go_ret
        exact ⟨rfl, HB2.out⟩
      | true =>
        have HR2 : Aside0 (solveI l = r) := ⟨by rw [← HR1.out, Bool.true_and]⟩
        clear HR1
        go_wp2_with (fail)
        refine FC.out.mono ?_
        rintro e w' ⟨rfl, hb⟩
        have HB2 := Aside0.mk (below_then HB1.out HB1.out.size hb)
        have HT2 := Aside0.mk (HT1.out.below hb)
        clear hb FC HB1 HT1 B1
        go_wp2
        go_loopg [48] 9 (fun kq v48 w1 => ∃ c : Int, v48 = .int .i64 c ∧ Aside0 (0 ≤ c ∧ c ≤ 9 ∧ (9 - c).toNat ≤ kq) ∧ Aside0 (∀ a d, 0 ≤ a → a < c → 0 ≤ d → d < a → once (lessI l a d) = true) ∧ Aside0 (Tab w1 w.heap.size ad l c0) ∧ Aside0 (Below w.heap.size w w1))
        case atStart => exact ⟨0, rfl, ⟨by omega, by omega, by decide⟩, ⟨fun a d h0 h1 => absurd h1 (by omega)⟩, HT2, HB2⟩
        case round =>
          clear HT2 HB2
          obtain ⟨c, rfl, B2, A2, HT2, HB2⟩ := hrel
          have k0 := B2.out.1
          have k1 := B2.out.2.1
          by_cases hc : c < 9
          · have hcb : decide (c < 9) = true := decide_eq_true hc
            obtain ⟨wo, rfl⟩ : ∃ wo : World, wo = wr := ⟨_, rfl⟩
            have HV := Aside0.mk (show (wo.alloc (.cells #[.int .i64 c] 3)).cell? ⟨wo.heap.size, 0, none⟩ = some (.int .i64 c) by simp)
            have HT3 := Aside0.mk (HT2.out.alloc (.cells #[.int .i64 c] 3))
            have HB3 := Aside0.mk (below_alloc HB2.out (.cells #[.int .i64 c] 3))
            clear HT2 HB2
            go_wp2
            go_loopg [52] 9 (fun kq v52 w1 => ∃ d : Int, v52 = .int .i64 d ∧ Aside0 (0 ≤ d ∧ d ≤ c ∧ (c - d).toNat ≤ kq) ∧ Aside0 (∀ a, 0 ≤ a → a < d → once (lessI l c a) = true) ∧ Aside0 (w1.cell? ⟨wo.heap.size, 0, none⟩ = some (.int .i64 c)) ∧ Aside0 (Tab w1 w.heap.size ad l c0) ∧ Aside0 (Below w.heap.size w w1))
            case atStart => exact ⟨0, rfl, ⟨by omega, by omega, by omega⟩, ⟨fun a h0 h1 => absurd h1 (by omega)⟩, HV, HT3, HB3⟩
            case round =>
              clear HV HT3 HB3
              obtain ⟨d, rfl, B3, A3, HV, HT3, HB3⟩ := hrel
              have l0 := B3.out.1
              have l1 := B3.out.2.1
              by_cases hd : d < c
              · have hdb : decide (d < c) = true := decide_eq_true hd
                have HW := Aside0.mk (show (wr.alloc (.cells #[.int .i64 d] 3)).cell? ⟨wr.heap.size, 0, none⟩ = some (.int .i64 d) by simp)
                have HV4 := Aside0.mk (pw_cell_below (below_alloc (Below.refl _ _) (.cells #[.int .i64 d] 3)) HV.out)
                have HT4 := Aside0.mk (HT3.out.alloc (.cells #[.int .i64 d] 3))
                have HB4 := Aside0.mk (below_alloc HB3.out (.cells #[.int .i64 d] 3))
                have G2 : GivesF 71 #[.pointer (some ⟨w.heap.size, 0, none⟩), .pointer (some ⟨wo.heap.size, 0, none⟩), .pointer (some ⟨wr.heap.size, 0, none⟩)] (lessI l c d) (wr.alloc (.cells #[.int .i64 d] 3)) := fun W a hb a0 a1 =>
                  (impl_isSystem_2.calls w.heap.size ad l c0 a _ W wo.heap.size c (pw_cell_below hb HV4.out) wr.heap.size d (pw_cell_below hb HW.out) a0 k0 l0 a1 (by omega) (by omega) (HT4.out.below hb) rfl).mono fun e w' ⟨h1, h2⟩ => ⟨h1, h2.below⟩
                obtain ⟨q, hq⟩ : ∃ q, once (lessI l c d) = q := ⟨_, rfl⟩
                have OC := Aside0.mk (impl_isOnce.calls 71 #[.pointer (some ⟨w.heap.size, 0, none⟩), .pointer (some ⟨wo.heap.size, 0, none⟩), .pointer (some ⟨wr.heap.size, 0, none⟩)] (lessI l c d) q _ eg2 G2 (fun x x0 x1 => addP_mem (rd_mem HN.out _).1 (rd_mem HN.out _).2 (minusP_mem (rd_mem HN.out _).1 (rd_mem HN.out _).2).1 (minusP_mem (rd_mem HN.out _).1 (rd_mem HN.out _).2).2) hq)
                have HQ := Aside0.mk hq
                clear hq G2 HW
                cases q with
                | false =>
                  have hr : r = false := by rw [← HR2.out]; exact solve_not k0 (by omega) l0 hd HQ.out
                  subst hr
                  clear HR2
                  go_wp2_with (fail)
                  refine OC.out.mono ?_
                  rintro e w' ⟨rfl, hb⟩
                  have HB5 := Aside0.mk (below_then HB4.out HB4.out.size hb)
                  clear hb OC
                  go_wp2
                  go_ret
                  exact ⟨rfl, HB5.out⟩
                | true =>
                  go_wp2_with (fail)
                  refine OC.out.mono ?_
                  rintro e w' ⟨rfl, hb⟩
                  have HB5 := Aside0.mk (below_then HB4.out HB4.out.size hb)
                  have HT5 := Aside0.mk (HT4.out.below hb)
                  have HV5 := Aside0.mk (pw_cell_below hb HV4.out)
                  clear hb OC
                  go_wp2
                  go_roundg (c - d - 1).toNat
                  case measure => have := B3.out.2.2; omega
                  case rel => exact ⟨d + 1, by go_num, ⟨by omega, by omega, by omega⟩, ⟨fun a h0 h1 => by
                      by_cases e : a = d
                      · rw [e]; exact HQ.out
                      · exact A3.out a h0 (by omega)⟩, HV5, HT5, HB5⟩
              · have hdb : decide (d < c) = false := decide_eq_false hd
                go_wp2
                go_roundg (8 - c).toNat
                case measure => have := B2.out.2.2; omega
                case rel => exact ⟨c + 1, by go_num, ⟨by omega, by omega, by omega⟩, ⟨fun a e h0 h1 h2 h3 => by
                    by_cases e' : a = c
                    · subst e'; exact A3.out e h2 (by omega)
                    · exact A2.out a e h0 (by omega) h2 h3⟩, HT3, HB3⟩
          · have hcb : decide (c < 9) = false := decide_eq_false hc
            have hr : r = true := by
              rw [← HR2.out]
              exact solve_all fun a d a0 a1 d0 d1 => A2.out a d a0 (by omega) d0 d1
            subst hr
            clear HR2
            go_wp2
            go_ret
            exact ⟨rfl, HB2.out⟩
theorem impl_isSystem.calls (A0 : Option Addr) (c0 : Nat) (l0 : List Int) (r : Bool) (w : World) (hr0 : Kd.C (Kd.int .i64) w A0 l0.length l0) (hc0 : l0.length ≤ c0) (h : impl_isSystem.f l0 = some r) :
    Calls Try.prog 40 #[.slice A0 l0.length c0] w fun e w' => e = .returned (.bool r) ∧ Below w.heap.size w w' := by
  have h1 : sysI l0 = r := Option.some.inj h
  unfold sysI at h1
  cases hn : nines l0 81 with
  | false =>
    rw [hn, Bool.false_and] at h1
    subst h1
    exact impl_isSystem.not81 A0 c0 l0 w hr0 hc0 hn
  | true =>
    rw [hn, Bool.true_and] at h1
    have hl : l0.length = 81 := by have := sys_len hn; omega
    obtain ⟨ad, rfl, hT⟩ := Tab.mk' (cap := c0) (t := 23) hl hr0
    have := impl_isSystem.at81 ad c0 l0 r w hn hr0 hT h1
    rw [hl]
    exact this

end Go.Proofs.Ytiobhhcbdcbajaa.P
