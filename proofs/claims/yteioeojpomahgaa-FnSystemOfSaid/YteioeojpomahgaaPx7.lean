/- Contracts of Go functions of the given program: each says, under its own hypotheses, what a call returns and leaves. Written by this claim's own program over the kit's print. -/
import Derived.Test.YteioeojpomahgaaPx0
import Derived.Test.YteioeojpomahgaaPx1
import Derived.Test.YteioeojpomahgaaPx3
import Derived.Test.YteioeojpomahgaaPx5
namespace Go.Proofs.Yteioeojpomahgaa.P
open Go.RowKit Go.Proofs.YteioeojpomahgaaW.PrintWords Go.Proofs.YteioeojpomahgaaW.PrintLast Go.Proofs.YteioeojpomahgaaW.PrintMore
attribute [local go_sem] max2_int min2_int max_two min_two max_three min_three max_four min_four   -- for this text's walks alone
set_option linter.unusedVariables false
set_option linter.unusedSimpArgs false

/-! ### spec_l2All: function 53 -/
def spec_l2All.f (l : List Int) (a1 : Int) : Option Bool := if nines l 81 = true then (if a1 = 0 then some (all3 (bothI l)) else if a1 = 1 then some (all3 (brkI l)) else none) else none
set_option maxHeartbeats 8000000 in
set_option maxRecDepth 100000 in
theorem spec_l2All.at0 (ad : Addr) (c0 : Nat) (l : List Int) (r : Bool) (w : World) (hn : nines l 81 = true) (hat : RowAt w ad l) (h : all3 (bothI l) = r) :
    Calls Try.prog 53 #[.slice (some ad) 81 c0, .int .i64 0] w fun e w' => e = .returned (.bool r) ∧ Drawn0 w w' := by
  have HN := Aside0.mk hn
  have HA := Aside0.mk hat
  have HR := Aside0.mk h
  clear hn hat h
  go_enter Try.func53, Try.ntmps53
  go_wp2
  go_loopg [5] 9 (fun kq v5 w1 => ∃ i : Int, v5 = .int .i64 i ∧ Aside0 (0 ≤ i ∧ i ≤ 9 ∧ (9 - i).toNat ≤ kq) ∧ Aside0 (∀ a b c, 0 ≤ a → a < i → 0 ≤ b → b ≤ 8 → 0 ≤ c → c ≤ 8 → bothI l a b c = true) ∧ Drawn0 w w1)
  case atStart => exact ⟨0, rfl, ⟨by omega, by omega, by decide⟩, ⟨fun a b c h0 h1 => absurd h1 (by omega)⟩, by repeat (first | exact Drawn0.refl _ | apply Drawn0.step)⟩
  case round =>
    obtain ⟨i, rfl, B1, A1, ⟨m1, rfl⟩⟩ := hrel
    have i0 := B1.out.1
    have it := B1.out.2.1
    by_cases hi : i < 9
    · have hib : decide (i < 9) = true := decide_eq_true hi
      have i1 : i ≤ 8 := by omega
      go_wp2
      go_loopg [6] 9 (fun kq v6 w1 => ∃ j : Int, v6 = .int .i64 j ∧ Aside0 (0 ≤ j ∧ j ≤ 9 ∧ (9 - j).toNat ≤ kq) ∧ Aside0 (∀ b c, 0 ≤ b → b < j → 0 ≤ c → c ≤ 8 → bothI l i b c = true) ∧ Drawn0 w w1)
      case atStart => exact ⟨0, rfl, ⟨by omega, by omega, by decide⟩, ⟨fun b c h0 h1 => absurd h1 (by omega)⟩, by repeat (first | exact Drawn0.refl _ | apply Drawn0.step)⟩
      case round =>
        obtain ⟨j, rfl, B2, A2, ⟨m2, rfl⟩⟩ := hrel
        have j0 := B2.out.1
        have jt := B2.out.2.1
        by_cases hj : j < 9
        · have hjb : decide (j < 9) = true := decide_eq_true hj
          have j1 : j ≤ 8 := by omega
          go_wp2
          go_loopg [7] 9 (fun kq v7 w1 => ∃ c : Int, v7 = .int .i64 c ∧ Aside0 (0 ≤ c ∧ c ≤ 9 ∧ (9 - c).toNat ≤ kq) ∧ Aside0 (∀ c', 0 ≤ c' → c' < c → bothI l i j c' = true) ∧ Drawn0 w w1)
          case atStart => exact ⟨0, rfl, ⟨by omega, by omega, by decide⟩, ⟨fun c h0 h1 => absurd h1 (by omega)⟩, by repeat (first | exact Drawn0.refl _ | apply Drawn0.step)⟩
          case round =>
            obtain ⟨c, rfl, B3, A3, ⟨m3, rfl⟩⟩ := hrel
            have c0' := B3.out.1
            have ct := B3.out.2.1
            by_cases hc : c < 9
            · have hcb : decide (c < 9) = true := decide_eq_true hc
              have c1 : c ≤ 8 := by omega
              obtain ⟨q, hq⟩ : ∃ q, bothI l i j c = q := ⟨_, rfl⟩
              have HQ := Aside0.mk hq
              have h := hq
              clear hq
              unfold bothI at h
              have sm := addP_mem j0 j1 c0' c1
              have F1 := addS_some j0 j1 c0' c1
              obtain ⟨s, sE⟩ : ∃ z, addP j c = z := ⟨_, rfl⟩
              rw [sE] at F1 h sm
              obtain ⟨s0, s1⟩ := sm
              have kk2 := HA.out (9 * i + s) (by omega) (by omega)
              have w2 : IntKind.i64.wrap (9 * i) = 9 * i := w_in (by omega) (by omega)
              obtain ⟨jj2, e2⟩ : ∃ z, 9 * i + s = z := ⟨_, rfl⟩
              have g2 : IntKind.i64.wrap (9 * i + s) = jj2 := by rw [← e2]; exact w_in (by omega) (by omega)
              have p2 : 0 ≤ jj2 := by omega
              have q2 : jj2 < 81 := by omega
              rw [e2] at kk2 h
              obtain ⟨x1, x1E⟩ : ∃ z, rd l jj2 = z := ⟨_, rfl⟩
              rw [x1E] at kk2 h
              have kk3 := HA.out (9 * i + j) (by omega) (by omega)
              have x2m := rd_mem HN.out (9 * i + j)
              obtain ⟨jj3, e3⟩ : ∃ z, 9 * i + j = z := ⟨_, rfl⟩
              have g3 : IntKind.i64.wrap (9 * i + j) = jj3 := by rw [← e3]; exact w_in (by omega) (by omega)
              have p3 : 0 ≤ jj3 := by omega
              have q3 : jj3 < 81 := by omega
              rw [e3] at kk3 h x2m
              obtain ⟨x2, x2E⟩ : ∃ z, rd l jj3 = z := ⟨_, rfl⟩
              rw [x2E] at kk3 h x2m
              obtain ⟨x20, x21⟩ := x2m
              have kk4 := HA.out (9 * i + c) (by omega) (by omega)
              have x3m := rd_mem HN.out (9 * i + c)
              obtain ⟨jj4, e4⟩ : ∃ z, 9 * i + c = z := ⟨_, rfl⟩
              have g4 : IntKind.i64.wrap (9 * i + c) = jj4 := by rw [← e4]; exact w_in (by omega) (by omega)
              have p4 : 0 ≤ jj4 := by omega
              have q4 : jj4 < 81 := by omega
              rw [e4] at kk4 h x3m
              obtain ⟨x3, x3E⟩ : ∃ z, rd l jj4 = z := ⟨_, rfl⟩
              rw [x3E] at kk4 h x3m
              obtain ⟨x30, x31⟩ := x3m
              have F5 := addS_some x20 x21 x30 x31
              obtain ⟨y, yE⟩ : ∃ z, addP x2 x3 = z := ⟨_, rfl⟩
              rw [yE] at F5 h
              clear s0 s1 sE e2 x1E e3 x2E x20 x21 e4 x3E x30 x31 yE
              have F1 := Aside0.mk F1
              have F5 := Aside0.mk F5
              by_cases e : x1 = y
              · have eb : (x1 != y) = false := bne_eq_false_iff_eq.mpr e
                rw [decide_eq_true e] at h
                subst h
                clear e
                go_wp2
                repeat (go_quiet (first | (go_at_call 74; (with_reducible refine (spec_l1Add.calls j c s _ F1.out).mono ?_); rintro e w' ⟨rfl, ⟨nd, rfl⟩⟩; (try first | exact ⟨rfl, _, World.drewN_drewN _ _ _⟩ | exact ⟨rfl, _, Eq.trans (World.drewN_drewN _ _ _) (congrArg (World.drewN _) (Nat.add_assoc _ _ _))⟩)) | (go_at_call 74; (with_reducible refine (spec_l1Add.calls x2 x3 y _ F5.out).mono ?_); rintro e w' ⟨rfl, ⟨nd, rfl⟩⟩; (try first | exact ⟨rfl, _, World.drewN_drewN _ _ _⟩ | exact ⟨rfl, _, Eq.trans (World.drewN_drewN _ _ _) (congrArg (World.drewN _) (Nat.add_assoc _ _ _))⟩))); try go_wp2)
                go_roundg (8 - c).toNat
                case measure => have := B3.out.2.2; omega
                case rel => exact ⟨c + 1, by go_num, ⟨by omega, by omega, by omega⟩, ⟨fun c' h0 h1 => by
                    by_cases e : c' = c
                    · rw [e]; exact HQ.out
                    · exact A3.out c' h0 (by omega)⟩, by repeat (first | exact Drawn0.refl _ | apply Drawn0.step)⟩
              · have eb : (x1 != y) = true := bne_iff_ne.mpr e
                rw [decide_eq_false e] at h
                subst h
                clear e
                have hr : r = false := by rw [← HR.out]; exact all3_not i0 i1 j0 j1 c0' c1 HQ.out
                subst hr
                clear HR
                go_wp2
                repeat (go_quiet (first | (go_at_call 74; (with_reducible refine (spec_l1Add.calls j c s _ F1.out).mono ?_); rintro e w' ⟨rfl, ⟨nd, rfl⟩⟩; (try first | exact ⟨rfl, _, World.drewN_drewN _ _ _⟩ | exact ⟨rfl, _, Eq.trans (World.drewN_drewN _ _ _) (congrArg (World.drewN _) (Nat.add_assoc _ _ _))⟩)) | (go_at_call 74; (with_reducible refine (spec_l1Add.calls x2 x3 y _ F5.out).mono ?_); rintro e w' ⟨rfl, ⟨nd, rfl⟩⟩; (try first | exact ⟨rfl, _, World.drewN_drewN _ _ _⟩ | exact ⟨rfl, _, Eq.trans (World.drewN_drewN _ _ _) (congrArg (World.drewN _) (Nat.add_assoc _ _ _))⟩))); try go_wp2)
                go_ret
                exact ⟨rfl, by repeat (first | exact Drawn0.refl _ | apply Drawn0.step)⟩
            · have hcb : decide (c < 9) = false := decide_eq_false hc
              go_wp2
              go_roundg (8 - j).toNat
              case measure => have := B2.out.2.2; omega
              case rel => exact ⟨j + 1, by go_num, ⟨by omega, by omega, by omega⟩, ⟨fun b c' h0 h1 h2 h3 => by
                  by_cases e : b = j
                  · rw [e]; exact A3.out c' h2 (by omega)
                  · exact A2.out b c' h0 (by omega) h2 h3⟩, by repeat (first | exact Drawn0.refl _ | apply Drawn0.step)⟩
        · have hjb : decide (j < 9) = false := decide_eq_false hj
          go_wp2
          go_roundg (8 - i).toNat
          case measure => have := B1.out.2.2; omega
          case rel => exact ⟨i + 1, by go_num, ⟨by omega, by omega, by omega⟩, ⟨fun a b c' h0 h1 h2 h3 h4 h5 => by
              by_cases e : a = i
              · rw [e]; exact A2.out b c' h2 (by omega) h4 h5
              · exact A1.out a b c' h0 (by omega) h2 h3 h4 h5⟩, by repeat (first | exact Drawn0.refl _ | apply Drawn0.step)⟩
    · have hib : decide (i < 9) = false := decide_eq_false hi
      have hr : r = true := by rw [← HR.out]; exact all3_iff.mpr fun a b c' h0 h1 h2 h3 h4 h5 => A1.out a b c' h0 (by omega) h2 h3 h4 h5
      subst hr
      clear HR
      go_wp2
      go_ret
      exact ⟨rfl, by repeat (first | exact Drawn0.refl _ | apply Drawn0.step)⟩
set_option maxHeartbeats 8000000 in
set_option maxRecDepth 100000 in
theorem spec_l2All.at1 (ad : Addr) (c0 : Nat) (l : List Int) (r : Bool) (w : World) (hn : nines l 81 = true) (hat : RowAt w ad l) (h : all3 (brkI l) = r) :
    Calls Try.prog 53 #[.slice (some ad) 81 c0, .int .i64 1] w fun e w' => e = .returned (.bool r) ∧ Drawn0 w w' := by
  have HN := Aside0.mk hn
  have HA := Aside0.mk hat
  have HR := Aside0.mk h
  clear hn hat h
  go_enter Try.func53, Try.ntmps53
  go_wp2
  go_loopg [5] 9 (fun kq v5 w1 => ∃ i : Int, v5 = .int .i64 i ∧ Aside0 (0 ≤ i ∧ i ≤ 9 ∧ (9 - i).toNat ≤ kq) ∧ Aside0 (∀ a b c, 0 ≤ a → a < i → 0 ≤ b → b ≤ 8 → 0 ≤ c → c ≤ 8 → brkI l a b c = true) ∧ Drawn0 w w1)
  case atStart => exact ⟨0, rfl, ⟨by omega, by omega, by decide⟩, ⟨fun a b c h0 h1 => absurd h1 (by omega)⟩, by repeat (first | exact Drawn0.refl _ | apply Drawn0.step)⟩
  case round =>
    obtain ⟨i, rfl, B1, A1, ⟨m1, rfl⟩⟩ := hrel
    have i0 := B1.out.1
    have it := B1.out.2.1
    by_cases hi : i < 9
    · have hib : decide (i < 9) = true := decide_eq_true hi
      have i1 : i ≤ 8 := by omega
      go_wp2
      go_loopg [6] 9 (fun kq v6 w1 => ∃ j : Int, v6 = .int .i64 j ∧ Aside0 (0 ≤ j ∧ j ≤ 9 ∧ (9 - j).toNat ≤ kq) ∧ Aside0 (∀ b c, 0 ≤ b → b < j → 0 ≤ c → c ≤ 8 → brkI l i b c = true) ∧ Drawn0 w w1)
      case atStart => exact ⟨0, rfl, ⟨by omega, by omega, by decide⟩, ⟨fun b c h0 h1 => absurd h1 (by omega)⟩, by repeat (first | exact Drawn0.refl _ | apply Drawn0.step)⟩
      case round =>
        obtain ⟨j, rfl, B2, A2, ⟨m2, rfl⟩⟩ := hrel
        have j0 := B2.out.1
        have jt := B2.out.2.1
        by_cases hj : j < 9
        · have hjb : decide (j < 9) = true := decide_eq_true hj
          have j1 : j ≤ 8 := by omega
          go_wp2
          go_loopg [7] 9 (fun kq v7 w1 => ∃ c : Int, v7 = .int .i64 c ∧ Aside0 (0 ≤ c ∧ c ≤ 9 ∧ (9 - c).toNat ≤ kq) ∧ Aside0 (∀ c', 0 ≤ c' → c' < c → brkI l i j c' = true) ∧ Drawn0 w w1)
          case atStart => exact ⟨0, rfl, ⟨by omega, by omega, by decide⟩, ⟨fun c h0 h1 => absurd h1 (by omega)⟩, by repeat (first | exact Drawn0.refl _ | apply Drawn0.step)⟩
          case round =>
            obtain ⟨c, rfl, B3, A3, ⟨m3, rfl⟩⟩ := hrel
            have c0' := B3.out.1
            have ct := B3.out.2.1
            by_cases hc : c < 9
            · have hcb : decide (c < 9) = true := decide_eq_true hc
              have c1 : c ≤ 8 := by omega
              obtain ⟨q, hq⟩ : ∃ q, brkI l i j c = q := ⟨_, rfl⟩
              have HQ := Aside0.mk hq
              have h := hq
              clear hq
              unfold brkI at h
              have kk1 := HA.out (9 * i + j) (by omega) (by omega)
              have x1m := rd_mem HN.out (9 * i + j)
              have w1 : IntKind.i64.wrap (9 * i) = 9 * i := w_in (by omega) (by omega)
              obtain ⟨jj1, e1⟩ : ∃ z, 9 * i + j = z := ⟨_, rfl⟩
              have g1 : IntKind.i64.wrap (9 * i + j) = jj1 := by rw [← e1]; exact w_in (by omega) (by omega)
              have p1 : 0 ≤ jj1 := by omega
              have q1 : jj1 < 81 := by omega
              rw [e1] at kk1 h x1m
              obtain ⟨x1, x1E⟩ : ∃ z, rd l jj1 = z := ⟨_, rfl⟩
              rw [x1E] at kk1 h x1m
              obtain ⟨x10, x11⟩ := x1m
              have kk2 := HA.out (9 * x1 + c) (by omega) (by omega)
              have w2 : IntKind.i64.wrap (9 * x1) = 9 * x1 := w_in (by omega) (by omega)
              obtain ⟨jj2, e2⟩ : ∃ z, 9 * x1 + c = z := ⟨_, rfl⟩
              have g2 : IntKind.i64.wrap (9 * x1 + c) = jj2 := by rw [← e2]; exact w_in (by omega) (by omega)
              have p2 : 0 ≤ jj2 := by omega
              have q2 : jj2 < 81 := by omega
              rw [e2] at kk2 h
              obtain ⟨x2, x2E⟩ : ∃ z, rd l jj2 = z := ⟨_, rfl⟩
              rw [x2E] at kk2 h
              have kk3 := HA.out (9 * j + c) (by omega) (by omega)
              have x3m := rd_mem HN.out (9 * j + c)
              have w3 : IntKind.i64.wrap (9 * j) = 9 * j := w_in (by omega) (by omega)
              obtain ⟨jj3, e3⟩ : ∃ z, 9 * j + c = z := ⟨_, rfl⟩
              have g3 : IntKind.i64.wrap (9 * j + c) = jj3 := by rw [← e3]; exact w_in (by omega) (by omega)
              have p3 : 0 ≤ jj3 := by omega
              have q3 : jj3 < 81 := by omega
              rw [e3] at kk3 h x3m
              obtain ⟨x3, x3E⟩ : ∃ z, rd l jj3 = z := ⟨_, rfl⟩
              rw [x3E] at kk3 h x3m
              obtain ⟨x30, x31⟩ := x3m
              have kk4 := HA.out (9 * i + x3) (by omega) (by omega)
              obtain ⟨jj4, e4⟩ : ∃ z, 9 * i + x3 = z := ⟨_, rfl⟩
              have g4 : IntKind.i64.wrap (9 * i + x3) = jj4 := by rw [← e4]; exact w_in (by omega) (by omega)
              have p4 : 0 ≤ jj4 := by omega
              have q4 : jj4 < 81 := by omega
              rw [e4] at kk4 h
              obtain ⟨x4, x4E⟩ : ∃ z, rd l jj4 = z := ⟨_, rfl⟩
              rw [x4E] at kk4 h
              clear e1 x1E x10 x11 e2 x2E e3 x3E x30 x31 e4 x4E
              by_cases e : x2 = x4
              · have eb : (x2 != x4) = false := bne_eq_false_iff_eq.mpr e
                rw [decide_eq_true e] at h
                subst h
                clear e
                go_wp2
                repeat (go_quiet (fail); try go_wp2)
                go_roundg (8 - c).toNat
                case measure => have := B3.out.2.2; omega
                case rel => exact ⟨c + 1, by go_num, ⟨by omega, by omega, by omega⟩, ⟨fun c' h0 h1 => by
                    by_cases e : c' = c
                    · rw [e]; exact HQ.out
                    · exact A3.out c' h0 (by omega)⟩, by repeat (first | exact Drawn0.refl _ | apply Drawn0.step)⟩
              · have eb : (x2 != x4) = true := bne_iff_ne.mpr e
                rw [decide_eq_false e] at h
                subst h
                clear e
                have hr : r = false := by rw [← HR.out]; exact all3_not i0 i1 j0 j1 c0' c1 HQ.out
                subst hr
                clear HR
                go_wp2
                repeat (go_quiet (fail); try go_wp2)
                go_ret
                exact ⟨rfl, by repeat (first | exact Drawn0.refl _ | apply Drawn0.step)⟩
            · have hcb : decide (c < 9) = false := decide_eq_false hc
              go_wp2
              go_roundg (8 - j).toNat
              case measure => have := B2.out.2.2; omega
              case rel => exact ⟨j + 1, by go_num, ⟨by omega, by omega, by omega⟩, ⟨fun b c' h0 h1 h2 h3 => by
                  by_cases e : b = j
                  · rw [e]; exact A3.out c' h2 (by omega)
                  · exact A2.out b c' h0 (by omega) h2 h3⟩, by repeat (first | exact Drawn0.refl _ | apply Drawn0.step)⟩
        · have hjb : decide (j < 9) = false := decide_eq_false hj
          go_wp2
          go_roundg (8 - i).toNat
          case measure => have := B1.out.2.2; omega
          case rel => exact ⟨i + 1, by go_num, ⟨by omega, by omega, by omega⟩, ⟨fun a b c' h0 h1 h2 h3 h4 h5 => by
              by_cases e : a = i
              · rw [e]; exact A2.out b c' h2 (by omega) h4 h5
              · exact A1.out a b c' h0 (by omega) h2 h3 h4 h5⟩, by repeat (first | exact Drawn0.refl _ | apply Drawn0.step)⟩
    · have hib : decide (i < 9) = false := decide_eq_false hi
      have hr : r = true := by rw [← HR.out]; exact all3_iff.mpr fun a b c' h0 h1 h2 h3 h4 h5 => A1.out a b c' h0 (by omega) h2 h3 h4 h5
      subst hr
      clear HR
      go_wp2
      go_ret
      exact ⟨rfl, by repeat (first | exact Drawn0.refl _ | apply Drawn0.step)⟩
theorem spec_l2All.calls (A0 : Option Addr) (c0 : Nat) (l0 : List Int) (a1 : Int) (r : Bool) (w : World) (hr0 : Kd.C (Kd.int .i64) w A0 l0.length l0) (hc0 : l0.length ≤ c0) (h : spec_l2All.f l0 a1 = some r) :
    Calls Try.prog 53 #[.slice A0 l0.length c0, .int .i64 a1] w fun e w' => e = .returned (.bool r) ∧ Drawn0 w w' := by
  unfold spec_l2All.f at h
  by_cases hn : nines l0 81 = true
  · rw [if_pos hn] at h
    have hl := nines_len hn
    obtain ⟨ad, rfl, hat⟩ := RowAt.mk' hl hr0
    rw [hl]
    by_cases h0 : a1 = 0
    · rw [if_pos h0] at h
      subst h0
      exact spec_l2All.at0 ad c0 l0 r w hn hat (Option.some.inj h)
    · rw [if_neg h0] at h
      by_cases h1 : a1 = 1
      · rw [if_pos h1] at h
        subst h1
        exact spec_l2All.at1 ad c0 l0 r w hn hat (Option.some.inj h)
      · rw [if_neg h1] at h
        cases h
  · rw [if_neg hn] at h
    cases h

/-! ### spec_SystemBoth: function 22 -/
def spec_SystemBoth.f (k : Nat) (l0 : List Int) : Option (Bool) := (spec_SystemIn.f k l0).bind fun t134 => (if t134 = true then ((spec_l2All.f l0 0).bind fun t135 => (some t135)) else (some false))
theorem spec_SystemBoth.mono : ∀ a0 k, LeO (spec_SystemBoth.f k a0) (spec_SystemBoth.f (k + 1) a0) := by
  intro a0 k
  unfold spec_SystemBoth.f
  repeat' first
      | (with_reducible exact spec_SystemIn.mono _ _)
      | (with_reducible exact LeO.refl _)
      | (with_reducible exact LeO.none _)
      | (with_reducible refine LeO.ite ?_ ?_)
      | (with_reducible refine LeO.bind ?_ (fun _ => ?_))
      | exact spec_SystemIn.mono _ _
      | exact LeO.none _
      | refine LeO.ite ?_ ?_
      | refine LeO.bind ?_ (fun _ => ?_)
set_option maxHeartbeats 8000000 in
set_option maxRecDepth 100000 in
theorem spec_SystemBoth.calls (k : Nat) (A0 : Option Addr) (c0 : Nat) (l0 : List Int) (r : Bool) (w : World) (hr0 : Kd.C (Kd.int .i64) w A0 l0.length l0) (hc0 : l0.length ≤ c0) (h : spec_SystemBoth.f k l0 = some r) :
    Calls Try.prog 22 #[.slice A0 l0.length c0] w fun e w' => e = .returned (.bool r) ∧ Below w.heap.size w w' := by
  have HR0 := Aside0.mk hr0
  have HC0 := Aside0.mk hc0
  clear hr0 hc0
  have HB := Aside0.mk (Below.refl w.heap.size w)
  have H : ((spec_SystemIn.f k l0).bind fun t134 => (if t134 = true then ((spec_l2All.f l0 0).bind fun t135 => (some t135)) else (some false))) = some r := h
  clear h
  replace H := Option.bind_eq_some_iff.mp H
  obtain ⟨t134, A20, H⟩ := H
  replace H : (if t134 = true then ((spec_l2All.f l0 0).bind fun t135 => (some t135)) else (some false)) = some r := H
  have A2 := Aside0.mk A20
  clear A20
  by_cases c3 : t134 = true
  · subst c3
    have H1 : ((spec_l2All.f l0 0).bind fun t135 => (some t135)) = some r := by rw [if_pos rfl] at H; exact H
    clear H
    have H := H1
    clear H1
    replace H := Option.bind_eq_some_iff.mp H
    obtain ⟨t135, A40, H⟩ := H
    replace H : (some t135) = some r := H
    have A4 := Aside0.mk A40
    clear A40
    obtain rfl := Option.some.inj H
    go_enter Try.func22, Try.ntmps22
    go_wp2_with (first | ((with_reducible refine gate_callee (f := 18) rfl ?_); refine goesL_ (some 4) rfl rfl Try.func18 (by kernel_rfl) rfl #[.slice A0 l0.length c0] rfl (by (try simp only [List.map_toArray, List.map_cons, List.map_nil]); first | done | rfl | (simp only [List.length_drop, List.length_take]; rfl)) ?_; (with_reducible refine (spec_SystemIn.calls k _ _ l0 true _ ?side1 ?side2 A2.out).mono ?_); (case side1 => repeat (first | exact HR0.out | (with_reducible refine Kd.C_alloc ?_ _) | (with_reducible refine Kd.C_drewN ?_ _) | (with_reducible refine Kd.C_drew ?_))); (case side2 => exact HC0.out); rintro e w5 ⟨rfl, hb⟩; refine ⟨_, rfl, ?_⟩; have n0_ := Aside0.mk (below_step (by repeat (first | (with_reducible first | exact HB.out | apply below_alloc | apply pw_below_drewN | apply below_drew1) | exact HB.out)) hb); clear HB; have HB := n0_; clear n0_; (try clear hb); (try clear hb2); (try clear hk); (try clear hi)) | (go_at_call 53; (with_reducible refine (spec_l2All.calls _ _ l0 0 t135 _ ?side1 ?side2 A4.out).mono ?_); (case side1 => repeat (first | exact (Kd.C_below HR0.out HB.out) | (with_reducible refine Kd.C_alloc ?_ _) | (with_reducible refine Kd.C_drewN ?_ _) | (with_reducible refine Kd.C_drew ?_))); (case side2 => exact HC0.out); rintro e w' ⟨rfl, ⟨nd, rfl⟩⟩))
    go_ret
    exact ⟨by first | rfl | (simp [errW_none, errW_some] <;> rfl) | (simp [*, errW_none, errW_some] <;> rfl), by repeat (first | (with_reducible first | exact HB.out | apply below_alloc | apply pw_below_drewN | apply below_drew1) | exact HB.out)⟩
  · replace c3 := Bool.eq_false_iff.mpr c3
    subst c3
    have H1 : (some false) = some r := by rw [if_neg (show ¬ (false = true) by decide)] at H; exact H
    clear H
    have H := H1
    clear H1
    obtain rfl := Option.some.inj H
    go_enter Try.func22, Try.ntmps22
    go_wp2_with (first | ((with_reducible refine gate_callee (f := 18) rfl ?_); refine goesL_ (some 4) rfl rfl Try.func18 (by kernel_rfl) rfl #[.slice A0 l0.length c0] rfl (by (try simp only [List.map_toArray, List.map_cons, List.map_nil]); first | done | rfl | (simp only [List.length_drop, List.length_take]; rfl)) ?_; (with_reducible refine (spec_SystemIn.calls k _ _ l0 false _ ?side1 ?side2 A2.out).mono ?_); (case side1 => repeat (first | exact HR0.out | (with_reducible refine Kd.C_alloc ?_ _) | (with_reducible refine Kd.C_drewN ?_ _) | (with_reducible refine Kd.C_drew ?_))); (case side2 => exact HC0.out); rintro e w6 ⟨rfl, hb⟩; refine ⟨_, rfl, ?_⟩; have n0_ := Aside0.mk (below_step (by repeat (first | (with_reducible first | exact HB.out | apply below_alloc | apply pw_below_drewN | apply below_drew1) | exact HB.out)) hb); clear HB; have HB := n0_; clear n0_; (try clear hb); (try clear hb2); (try clear hk); (try clear hi)))
    go_ret
    exact ⟨by first | rfl | (simp [errW_none, errW_some] <;> rfl) | (simp [*, errW_none, errW_some] <;> rfl), by repeat (first | (with_reducible first | exact HB.out | apply below_alloc | apply pw_below_drewN | apply below_drew1) | exact HB.out)⟩

/-! ### spec_SystemBrackets: function 24 -/
def spec_SystemBrackets.f (k : Nat) (l0 : List Int) : Option (Bool) := (spec_SystemIn.f k l0).bind fun t148 => (if t148 = true then ((spec_l2All.f l0 1).bind fun t149 => (some t149)) else (some false))
theorem spec_SystemBrackets.mono : ∀ a0 k, LeO (spec_SystemBrackets.f k a0) (spec_SystemBrackets.f (k + 1) a0) := by
  intro a0 k
  unfold spec_SystemBrackets.f
  repeat' first
      | (with_reducible exact spec_SystemIn.mono _ _)
      | (with_reducible exact LeO.refl _)
      | (with_reducible exact LeO.none _)
      | (with_reducible refine LeO.ite ?_ ?_)
      | (with_reducible refine LeO.bind ?_ (fun _ => ?_))
      | exact spec_SystemIn.mono _ _
      | exact LeO.none _
      | refine LeO.ite ?_ ?_
      | refine LeO.bind ?_ (fun _ => ?_)
set_option maxHeartbeats 8000000 in
set_option maxRecDepth 100000 in
theorem spec_SystemBrackets.calls (k : Nat) (A0 : Option Addr) (c0 : Nat) (l0 : List Int) (r : Bool) (w : World) (hr0 : Kd.C (Kd.int .i64) w A0 l0.length l0) (hc0 : l0.length ≤ c0) (h : spec_SystemBrackets.f k l0 = some r) :
    Calls Try.prog 24 #[.slice A0 l0.length c0] w fun e w' => e = .returned (.bool r) ∧ Below w.heap.size w w' := by
  have HR0 := Aside0.mk hr0
  have HC0 := Aside0.mk hc0
  clear hr0 hc0
  have HB := Aside0.mk (Below.refl w.heap.size w)
  have H : ((spec_SystemIn.f k l0).bind fun t148 => (if t148 = true then ((spec_l2All.f l0 1).bind fun t149 => (some t149)) else (some false))) = some r := h
  clear h
  replace H := Option.bind_eq_some_iff.mp H
  obtain ⟨t148, A20, H⟩ := H
  replace H : (if t148 = true then ((spec_l2All.f l0 1).bind fun t149 => (some t149)) else (some false)) = some r := H
  have A2 := Aside0.mk A20
  clear A20
  by_cases c3 : t148 = true
  · subst c3
    have H1 : ((spec_l2All.f l0 1).bind fun t149 => (some t149)) = some r := by rw [if_pos rfl] at H; exact H
    clear H
    have H := H1
    clear H1
    replace H := Option.bind_eq_some_iff.mp H
    obtain ⟨t149, A40, H⟩ := H
    replace H : (some t149) = some r := H
    have A4 := Aside0.mk A40
    clear A40
    obtain rfl := Option.some.inj H
    go_enter Try.func24, Try.ntmps24
    go_wp2_with (first | ((with_reducible refine gate_callee (f := 18) rfl ?_); refine goesL_ (some 4) rfl rfl Try.func18 (by kernel_rfl) rfl #[.slice A0 l0.length c0] rfl (by (try simp only [List.map_toArray, List.map_cons, List.map_nil]); first | done | rfl | (simp only [List.length_drop, List.length_take]; rfl)) ?_; (with_reducible refine (spec_SystemIn.calls k _ _ l0 true _ ?side1 ?side2 A2.out).mono ?_); (case side1 => repeat (first | exact HR0.out | (with_reducible refine Kd.C_alloc ?_ _) | (with_reducible refine Kd.C_drewN ?_ _) | (with_reducible refine Kd.C_drew ?_))); (case side2 => exact HC0.out); rintro e w5 ⟨rfl, hb⟩; refine ⟨_, rfl, ?_⟩; have n0_ := Aside0.mk (below_step (by repeat (first | (with_reducible first | exact HB.out | apply below_alloc | apply pw_below_drewN | apply below_drew1) | exact HB.out)) hb); clear HB; have HB := n0_; clear n0_; (try clear hb); (try clear hb2); (try clear hk); (try clear hi)) | (go_at_call 53; (with_reducible refine (spec_l2All.calls _ _ l0 1 t149 _ ?side1 ?side2 A4.out).mono ?_); (case side1 => repeat (first | exact (Kd.C_below HR0.out HB.out) | (with_reducible refine Kd.C_alloc ?_ _) | (with_reducible refine Kd.C_drewN ?_ _) | (with_reducible refine Kd.C_drew ?_))); (case side2 => exact HC0.out); rintro e w' ⟨rfl, ⟨nd, rfl⟩⟩))
    go_ret
    exact ⟨by first | rfl | (simp [errW_none, errW_some] <;> rfl) | (simp [*, errW_none, errW_some] <;> rfl), by repeat (first | (with_reducible first | exact HB.out | apply below_alloc | apply pw_below_drewN | apply below_drew1) | exact HB.out)⟩
  · replace c3 := Bool.eq_false_iff.mpr c3
    subst c3
    have H1 : (some false) = some r := by rw [if_neg (show ¬ (false = true) by decide)] at H; exact H
    clear H
    have H := H1
    clear H1
    obtain rfl := Option.some.inj H
    go_enter Try.func24, Try.ntmps24
    go_wp2_with (first | ((with_reducible refine gate_callee (f := 18) rfl ?_); refine goesL_ (some 4) rfl rfl Try.func18 (by kernel_rfl) rfl #[.slice A0 l0.length c0] rfl (by (try simp only [List.map_toArray, List.map_cons, List.map_nil]); first | done | rfl | (simp only [List.length_drop, List.length_take]; rfl)) ?_; (with_reducible refine (spec_SystemIn.calls k _ _ l0 false _ ?side1 ?side2 A2.out).mono ?_); (case side1 => repeat (first | exact HR0.out | (with_reducible refine Kd.C_alloc ?_ _) | (with_reducible refine Kd.C_drewN ?_ _) | (with_reducible refine Kd.C_drew ?_))); (case side2 => exact HC0.out); rintro e w6 ⟨rfl, hb⟩; refine ⟨_, rfl, ?_⟩; have n0_ := Aside0.mk (below_step (by repeat (first | (with_reducible first | exact HB.out | apply below_alloc | apply pw_below_drewN | apply below_drew1) | exact HB.out)) hb); clear HB; have HB := n0_; clear n0_; (try clear hb); (try clear hb2); (try clear hk); (try clear hi)))
    go_ret
    exact ⟨by first | rfl | (simp [errW_none, errW_some] <;> rfl) | (simp [*, errW_none, errW_some] <;> rfl), by repeat (first | (with_reducible first | exact HB.out | apply below_alloc | apply pw_below_drewN | apply below_drew1) | exact HB.out)⟩

end Go.Proofs.Yteioeojpomahgaa.P
