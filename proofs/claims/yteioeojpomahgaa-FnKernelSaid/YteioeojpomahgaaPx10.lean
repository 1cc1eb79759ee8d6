/- Contracts of Go functions of the given program: each says, under its own hypotheses, what a call returns and leaves. Written by this claim's own program over the kit's print. -/
import Derived.Test.YteioeojpomahgaaPx0
import Derived.Test.YteioeojpomahgaaPx1
import Derived.Test.YteioeojpomahgaaPx3
import Derived.Test.YteioeojpomahgaaPx6
namespace Go.Proofs.Yteioeojpomahgaa.P
open Go.RowKit Go.Proofs.YteioeojpomahgaaW.PrintWords Go.Proofs.YteioeojpomahgaaW.PrintLast Go.Proofs.YteioeojpomahgaaW.PrintMore
attribute [local go_sem] max2_int min2_int max_two min_two max_three min_three max_four min_four   -- for this text's walks alone
set_option linter.unusedVariables false
set_option linter.unusedSimpArgs false

/-! ### impl_elementsThat: function 64 -/
/-- What is asked of a function value of one number below 9: it answers p, and what lay lies. -/
def Gives1 (g : Nat) (lb : Array Value) (p : Int → Bool) (w : World) : Prop :=
  ∀ (W : World) (a : Int), Below w.heap.size w W → 0 ≤ a → a < 9 →
    Calls Try.prog g (#[.int .i64 a] ++ lb) W fun e w' => e = .returned (.bool (p a)) ∧ Below W.heap.size W w'
theorem e9_take {i : Int} (h0 : 0 ≤ i) (h1 : i < 9) : e9.take (i + 1).toNat = e9.take i.toNat ++ [i] := by
  obtain ⟨n, rfl⟩ := Int.eq_ofNat_of_zero_le h0
  have h := (by decide +kernel : ∀ n, n < 9 → e9.take (n + 1) = e9.take n ++ [(n : Int)]) n (by omega)
  rw [show ((n : Int) + 1).toNat = n + 1 by omega, show (n : Int).toNat = n by omega]
  exact h
theorem e9_all : e9.take 9 = e9 := by decide +kernel
theorem info_elementsThat : (Try.prog.info? 3).map (fun i => (i.zero, i.size, i.bytes)) = some (some (.int .i64 0), 1, 8) := by kernel_rfl
set_option maxHeartbeats 4000000 in
set_option maxRecDepth 100000 in
theorem impl_elementsThat.calls (g : Nat) (lb : Array Value) (p : Int → Bool) (r : List Int) (w : World) (eg : ∀ args w, (callFunc g args).run Try.prog w = .ok (.enter g args) w) (hp : Gives1 g lb p w) (h : e9.filter p = r) :
    Calls Try.prog 64 #[.func (.func g) #[] lb] w fun e w' => ∃ v0_ : Value, e = .returned v0_ ∧ Kd.R (Kd.int .i64) 3 w' w.heap.size (fun _ => True) v0_ r ∧ Below w.heap.size w w' := by
  have HP := Aside0.mk hp
  have HR := Aside0.mk h
  clear hp h
  go_enter Try.func64, Try.ntmps64
  go_wp2_with ((with_reducible refine gate_dst (N := 5) rfl ?_); refine Kd.R_lit (Kd.int .i64) _ 3 ?hg (N := 5) ?hd (xs := ([] : List Int)) (inner := []) (ok := fun _ => True) (okp := fun _ => True) ?hr ?hp (fun _ hk => hk) trivial (Below.refl _ _) (Nat.le_refl _) (by simp) ?_; (case hd => rfl); (case hg => rfl); (case hr => first | (go_simp; done) | (go_simp; rfl)); (case hp => exact (Reps.none _ _)); intro v1 w1 ho hb hg_ hnew_; clear hg_ hnew_; have HO := Aside0.mk ho; have HB := Aside0.mk hb; clear ho hb)
  go_loopg [3, 6] 9 (fun kq v3 v6 w2 => ∃ (xs : List Int) (i : Int), v6 = .int .i64 i ∧ Aside0 (0 ≤ i ∧ i ≤ 9 ∧ (9 - i).toNat ≤ kq) ∧ Aside0 (xs = (e9.take i.toNat).filter p) ∧ Aside0 (Kd.R (Kd.int .i64) 3 w2 w.heap.size (fun _ => True) v3 xs) ∧ Aside0 (Below w.heap.size w w2))
  case atStart => exact ⟨[], 0, rfl, ⟨by omega, by omega, by decide⟩, ⟨rfl⟩, HO, HB⟩
  case round =>
    obtain ⟨xs, i, rfl, B1, A1, HO1, HB1⟩ := hrel
    have i0 := B1.out.1
    have i1 := B1.out.2.1
    by_cases hi : i < 9
    · have hib : decide (i < 9) = true := decide_eq_true hi
      cases hq : p i with
      | true =>
        have HC0 : ∀ W, Below w.heap.size w W → Calls Try.prog g (#[.int .i64 i] ++ lb) W fun e w' => e = .returned (.bool true) ∧ Below W.heap.size W w' := fun W hb => by
          have := HP.out W i hb i0 hi
          rw [hq] at this
          exact this
        have HC := Aside0.mk HC0
        clear HC0
        have HQ := Aside0.mk hq
        clear hq
        go_wp2_with (fail)
        refine (HC.out _ HB1.out).mono ?_
        rintro e w' ⟨rfl, hbw⟩
        have HB2 := Aside0.mk (below_then HB1.out HB1.out.size hbw)
        have HO2 := Aside0.mk (Kd.R_below HO1.out hbw)
        clear hbw HO1 HB1 HC
        obtain ⟨ys, hys⟩ : ∃ ys, ys = xs ++ [i] := ⟨_, rfl⟩
        have NY := Aside0.mk hys
        clear hys
        have LL : Aside0 (xs.length ≤ 9) := ⟨by
          have h2 := List.length_filter_le p (e9.take i.toNat)
          rw [← A1.out, List.length_take] at h2
          have h4 : e9.length = 9 := by decide +kernel
          omega⟩
        go_wp2_with (at_builtin; refine Kd.R_append (Kd.int .i64) (w0 := w) w.heap.size rfl (.tmp 12) (.tmp 14) 22 3 (.int .i64 0) 8 rfl Try.underlying22 info_elementsThat rfl (by decide) (by omega) u3 xs i [.int .i64 i] (fun _ => True) (fun _ => False) rfl rfl ?aP (fun _ hk => hk.elim) ?aF ?aO ?aB ?aS ?aL ?_; (case aP => exact rfl); (case aB => exact HB2.out); (case aF => exact (fun _ _ => trivial)); (case aO => exact HO2.out); (case aS => exact (below_size HB2.out)); (case aL => have := LL.out; omega); intro v2 w3 ho hb hg hat; rw [← NY.out] at ho; have HO3 := Aside0.mk ho; have HB3 := Aside0.mk hb; clear ho hb hg hat)
        go_roundg (8 - i).toNat
        case measure => have := B1.out.2.2; omega
        case rel => exact ⟨ys, i + 1, by go_num, ⟨by omega, by omega, by omega⟩, ⟨by rw [NY.out, e9_take i0 hi, List.filter_append, ← A1.out]; simp [HQ.out]⟩, HO3, HB3⟩
      | false =>
        have HC0 : ∀ W, Below w.heap.size w W → Calls Try.prog g (#[.int .i64 i] ++ lb) W fun e w' => e = .returned (.bool false) ∧ Below W.heap.size W w' := fun W hb => by
          have := HP.out W i hb i0 hi
          rw [hq] at this
          exact this
        have HC := Aside0.mk HC0
        clear HC0
        have HQ := Aside0.mk hq
        clear hq
        go_wp2_with (fail)
        refine (HC.out _ HB1.out).mono ?_
        rintro e w' ⟨rfl, hbw⟩
        have HB2 := Aside0.mk (below_then HB1.out HB1.out.size hbw)
        have HO2 := Aside0.mk (Kd.R_below HO1.out hbw)
        clear hbw HO1 HB1 HC
        go_wp2
        go_roundg (8 - i).toNat
        case measure => have := B1.out.2.2; omega
        case rel => exact ⟨xs, i + 1, by go_num, ⟨by omega, by omega, by omega⟩, ⟨by rw [e9_take i0 hi, List.filter_append, ← A1.out]; simp [HQ.out]⟩, HO2, HB2⟩
    · have hib : decide (i < 9) = false := decide_eq_false hi
      have hr : xs = r := by
        rw [A1.out, ← HR.out, show i.toNat = 9 by omega, e9_all]
      subst hr
      clear HR
      go_wp2
      go_ret
      exact ⟨_, rfl, HO1.out, HB1.out⟩

/-! ### impl_kernel: function 67 -/
set_option maxHeartbeats 4000000 in
set_option maxRecDepth 100000 in
theorem impl_kernel_1_1.calls (B : Nat) (ad : Addr) (l : List Int) (cap : Nat) (a b c : Int) (r : Bool) (W : World) (Bk : Nat) (k : Int) (hk : W.cell? ⟨Bk, 0, none⟩ = some (.int .i64 k)) (a0 : 0 ≤ a) (b0 : 0 ≤ b) (c0 : 0 ≤ c) (k0 : 0 ≤ k) (a1 : a ≤ 8) (b1 : b ≤ 8) (c1 : c ≤ 8) (k1 : k ≤ 8) (hT : Tab W B ad l cap) (hn : nines l 81 = true) (h : kerP l k a b c = r) :
    Calls Try.prog 83 #[.int .i64 a, .int .i64 b, .int .i64 c, .pointer (some ⟨B, 0, none⟩), .pointer (some ⟨Bk, 0, none⟩)] W fun e w' => e = .returned (.bool r) ∧ Drawn0 W w' := by
  unfold kerP at h
  have hcell := hT.var
  have kk1 := hT.at_ (9 * a + b) (by omega) (by omega)
  have x1m := rd_mem hn (9 * a + b)
  have w1 : IntKind.i64.wrap (9 * a) = 9 * a := w_in (by omega) (by omega)
  obtain ⟨j1, e1⟩ : ∃ j, 9 * a + b = j := ⟨_, rfl⟩
  have g1 : IntKind.i64.wrap (9 * a + b) = j1 := by rw [← e1]; exact w_in (by omega) (by omega)
  have p1 : 0 ≤ j1 := by omega
  have q1 : j1 < 81 := by omega
  rw [e1] at kk1 h x1m
  obtain ⟨x1, x1E⟩ : ∃ z, rd l j1 = z := ⟨_, rfl⟩
  rw [x1E] at kk1 h x1m
  obtain ⟨x10, x11⟩ := x1m
  have kk2 := hT.at_ (9 * k + x1) (by omega) (by omega)
  have w2 : IntKind.i64.wrap (9 * k) = 9 * k := w_in (by omega) (by omega)
  obtain ⟨j2, e2⟩ : ∃ j, 9 * k + x1 = j := ⟨_, rfl⟩
  have g2 : IntKind.i64.wrap (9 * k + x1) = j2 := by rw [← e2]; exact w_in (by omega) (by omega)
  have p2 : 0 ≤ j2 := by omega
  have q2 : j2 < 81 := by omega
  rw [e2] at kk2 h
  obtain ⟨x2, x2E⟩ : ∃ z, rd l j2 = z := ⟨_, rfl⟩
  rw [x2E] at kk2 h
  have kk3 := hT.at_ (9 * k + a) (by omega) (by omega)
  have x3m := rd_mem hn (9 * k + a)
  obtain ⟨j3, e3⟩ : ∃ j, 9 * k + a = j := ⟨_, rfl⟩
  have g3 : IntKind.i64.wrap (9 * k + a) = j3 := by rw [← e3]; exact w_in (by omega) (by omega)
  have p3 : 0 ≤ j3 := by omega
  have q3 : j3 < 81 := by omega
  rw [e3] at kk3 h x3m
  obtain ⟨x3, x3E⟩ : ∃ z, rd l j3 = z := ⟨_, rfl⟩
  rw [x3E] at kk3 h x3m
  obtain ⟨x30, x31⟩ := x3m
  have kk4 := hT.at_ (9 * x3 + b) (by omega) (by omega)
  have w4 : IntKind.i64.wrap (9 * x3) = 9 * x3 := w_in (by omega) (by omega)
  obtain ⟨j4, e4⟩ : ∃ j, 9 * x3 + b = j := ⟨_, rfl⟩
  have g4 : IntKind.i64.wrap (9 * x3 + b) = j4 := by rw [← e4]; exact w_in (by omega) (by omega)
  have p4 : 0 ≤ j4 := by omega
  have q4 : j4 < 81 := by omega
  rw [e4] at kk4 h
  obtain ⟨x4, x4E⟩ : ∃ z, rd l j4 = z := ⟨_, rfl⟩
  rw [x4E] at kk4 h
  have sm := addP_mem a0 a1 b0 b1
  have F5 := add_some a b
  obtain ⟨s, sE⟩ : ∃ z, addP a b = z := ⟨_, rfl⟩
  rw [sE] at F5 h sm
  obtain ⟨s0, s1⟩ := sm
  have kk6 := hT.at_ (9 * k + s) (by omega) (by omega)
  obtain ⟨j6, e6⟩ : ∃ j, 9 * k + s = j := ⟨_, rfl⟩
  have g6 : IntKind.i64.wrap (9 * k + s) = j6 := by rw [← e6]; exact w_in (by omega) (by omega)
  have p6 : 0 ≤ j6 := by omega
  have q6 : j6 < 81 := by omega
  rw [e6] at kk6 h
  obtain ⟨x5, x5E⟩ : ∃ z, rd l j6 = z := ⟨_, rfl⟩
  rw [x5E] at kk6 h
  have kk7 := hT.at_ (9 * k + b) (by omega) (by omega)
  have x6m := rd_mem hn (9 * k + b)
  obtain ⟨j7, e7⟩ : ∃ j, 9 * k + b = j := ⟨_, rfl⟩
  have g7 : IntKind.i64.wrap (9 * k + b) = j7 := by rw [← e7]; exact w_in (by omega) (by omega)
  have p7 : 0 ≤ j7 := by omega
  have q7 : j7 < 81 := by omega
  rw [e7] at kk7 h x6m
  obtain ⟨x6, x6E⟩ : ∃ z, rd l j7 = z := ⟨_, rfl⟩
  rw [x6E] at kk7 h x6m
  obtain ⟨x60, x61⟩ := x6m
  have F8 := add_some x3 x6
  obtain ⟨y, yE⟩ : ∃ z, addP x3 x6 = z := ⟨_, rfl⟩
  rw [yE] at F8 h
  clear hT e1 x1E x10 x11 e2 x2E e3 x3E x30 x31 e4 x4E s0 s1 sE e6 x5E e7 x6E x60 x61 yE a0 a1 b0 b1 c0 c1 k0 k1
  clear hn
  have F5 := Aside0.mk F5
  have F8 := Aside0.mk F8
  by_cases e : x2 = x4
  · have eb : (x2 == x4) = true := beq_iff_eq.mpr e
    rw [decide_eq_true e, Bool.true_and] at h
    clear e
    by_cases e : x5 = y
    · have eb2 : (x5 == y) = true := beq_iff_eq.mpr e
      rw [decide_eq_true e] at h
      subst h
      clear e
      go_enter Try.func83, Try.ntmps83
      go_wp2
      repeat (go_quiet (first | (go_at_call 56; (with_reducible refine (impl_add.calls a b s _ F5.out).mono ?_); rintro e w' ⟨rfl, ⟨nd, rfl⟩⟩; (try first | exact ⟨rfl, _, World.drewN_drewN _ _ _⟩ | exact ⟨rfl, _, Eq.trans (World.drewN_drewN _ _ _) (congrArg (World.drewN _) (Nat.add_assoc _ _ _))⟩)) | (go_at_call 56; (with_reducible refine (impl_add.calls x3 x6 y _ F8.out).mono ?_); rintro e w' ⟨rfl, ⟨nd, rfl⟩⟩; (try first | exact ⟨rfl, _, World.drewN_drewN _ _ _⟩ | exact ⟨rfl, _, Eq.trans (World.drewN_drewN _ _ _) (congrArg (World.drewN _) (Nat.add_assoc _ _ _))⟩))); try go_wp2)
      go_ret
      exact ⟨rfl, by repeat (first | exact Drawn0.refl _ | apply Drawn0.step)⟩
    · have eb2 : (x5 == y) = false := beq_eq_false_iff_ne.mpr e
      rw [decide_eq_false e] at h
      subst h
      clear e
      go_enter Try.func83, Try.ntmps83
      go_wp2
      repeat (go_quiet (first | (go_at_call 56; (with_reducible refine (impl_add.calls a b s _ F5.out).mono ?_); rintro e w' ⟨rfl, ⟨nd, rfl⟩⟩; (try first | exact ⟨rfl, _, World.drewN_drewN _ _ _⟩ | exact ⟨rfl, _, Eq.trans (World.drewN_drewN _ _ _) (congrArg (World.drewN _) (Nat.add_assoc _ _ _))⟩)) | (go_at_call 56; (with_reducible refine (impl_add.calls x3 x6 y _ F8.out).mono ?_); rintro e w' ⟨rfl, ⟨nd, rfl⟩⟩; (try first | exact ⟨rfl, _, World.drewN_drewN _ _ _⟩ | exact ⟨rfl, _, Eq.trans (World.drewN_drewN _ _ _) (congrArg (World.drewN _) (Nat.add_assoc _ _ _))⟩))); try go_wp2)
      go_ret
      exact ⟨rfl, by repeat (first | exact Drawn0.refl _ | apply Drawn0.step)⟩
  · have eb : (x2 == x4) = false := beq_eq_false_iff_ne.mpr e
    rw [decide_eq_false e, Bool.false_and] at h
    subst h
    clear e
    go_enter Try.func83, Try.ntmps83
    go_wp2
    repeat (go_quiet (first | (go_at_call 56; (with_reducible refine (impl_add.calls a b s _ F5.out).mono ?_); rintro e w' ⟨rfl, ⟨nd, rfl⟩⟩; (try first | exact ⟨rfl, _, World.drewN_drewN _ _ _⟩ | exact ⟨rfl, _, Eq.trans (World.drewN_drewN _ _ _) (congrArg (World.drewN _) (Nat.add_assoc _ _ _))⟩)) | (go_at_call 56; (with_reducible refine (impl_add.calls x3 x6 y _ F8.out).mono ?_); rintro e w' ⟨rfl, ⟨nd, rfl⟩⟩; (try first | exact ⟨rfl, _, World.drewN_drewN _ _ _⟩ | exact ⟨rfl, _, Eq.trans (World.drewN_drewN _ _ _) (congrArg (World.drewN _) (Nat.add_assoc _ _ _))⟩))); try go_wp2)
    go_ret
    exact ⟨rfl, by repeat (first | exact Drawn0.refl _ | apply Drawn0.step)⟩
set_option maxHeartbeats 4000000 in
set_option maxRecDepth 100000 in
theorem impl_kernel_1.calls (B : Nat) (ad : Addr) (l : List Int) (cap : Nat) (k : Int) (r : Bool) (w : World) (k0 : 0 ≤ k) (k1 : k ≤ 8) (hT : Tab w B ad l cap) (hn : nines l 81 = true) (h : kerI l k = r) :
    Calls Try.prog 82 #[.int .i64 k, .pointer (some ⟨B, 0, none⟩)] w fun e w' => e = .returned (.bool r) ∧ Below w.heap.size w w' := by
  have HV := Aside0.mk (show (w.alloc (.cells #[.int .i64 k] 3)).cell? ⟨w.heap.size, 0, none⟩ = some (.int .i64 k) by simp)
  have HT := Aside0.mk (hT.alloc (.cells #[.int .i64 k] 3))
  have HB := Aside0.mk (below_alloc (Below.refl w.heap.size w) (.cells #[.int .i64 k] 3))
  have eg : ∀ args w, (callFunc 83 args).run Try.prog w = .ok (.enter 83 args) w := enters_of Try.func83 (by kernel_rfl) rfl
  have G1 : Gives3 83 #[.pointer (some ⟨B, 0, none⟩), .pointer (some ⟨w.heap.size, 0, none⟩)] (kerP l k) (w.alloc (.cells #[.int .i64 k] 3)) := fun W a b c hb a0 a1 b0 b1 c0' c1 => (impl_kernel_1_1.calls B ad l cap a b c _ W w.heap.size k (pw_cell_below hb HV.out) a0 b0 c0' k0 a1 b1 c1 k1 (HT.out.below hb) hn rfl).mono fun e w' ⟨h1, h2⟩ => ⟨h1, h2.below⟩
  have FC := Aside0.mk (impl_forAll.calls 83 #[.pointer (some ⟨B, 0, none⟩), .pointer (some ⟨w.heap.size, 0, none⟩)] (kerP l k) r _ eg G1 h)
  clear hT hn h G1 eg HV HT
  go_enter Try.func82, Try.ntmps82
  go_wp2_with (fail)
  refine FC.out.mono ?_
  rintro e w2 ⟨rfl, hb⟩
  have HB2 := Aside0.mk (below_then HB.out HB.out.size hb)
  clear hb FC
  go_wp2
  go_ret
  exact ⟨rfl, HB2.out⟩
def impl_kernel.f (l : List Int) : Option (List Int) := if nines l 81 = true then some (e9.filter (kerI l)) else none
set_option maxHeartbeats 4000000 in
set_option maxRecDepth 100000 in
theorem impl_kernel.calls (A0 : Option Addr) (c0 : Nat) (l0 : List Int) (r : List Int) (w : World) (hr0 : Kd.C (Kd.int .i64) w A0 l0.length l0) (hc0 : l0.length ≤ c0) (h : impl_kernel.f l0 = some r) :
    Calls Try.prog 67 #[.slice A0 l0.length c0] w fun e w' => ∃ v0_ : Value, e = .returned (v0_) ∧ Kd.R (Kd.int .i64) 3 w' w.heap.size (fun _ => True) v0_ r ∧ Below w.heap.size w w' := by
  unfold impl_kernel.f at h
  by_cases hn : nines l0 81 = true
  · rw [if_pos hn] at h
    have h1 : e9.filter (kerI l0) = r := Option.some.inj h
    have hl : l0.length = 81 := by have := sys_len hn; omega
    obtain ⟨ad, rfl, hT⟩ := Tab.mk' (cap := c0) (t := 22) hl hr0
    have HB := Aside0.mk (below_alloc (Below.refl w.heap.size w) (.cells #[.slice (some ad) 81 c0] 22))
    rw [hl]
    have eg : ∀ args w, (callFunc 82 args).run Try.prog w = .ok (.enter 82 args) w := enters_of Try.func82 (by kernel_rfl) rfl
    have G1 : Gives1 82 #[.pointer (some ⟨w.heap.size, 0, none⟩)] (kerI l0) (w.alloc (.cells #[.slice (some ad) 81 c0] 22)) := fun W a hb a0 a1 => impl_kernel_1.calls w.heap.size ad l0 c0 a _ W a0 (by omega) (hT.below hb) hn rfl
    have EC := Aside0.mk (impl_elementsThat.calls 82 #[.pointer (some ⟨w.heap.size, 0, none⟩)] (kerI l0) r _ eg G1 h1)
    clear hr0 hc0 h hn h1 hl hT G1 eg
    go_enter Try.func67, Try.ntmps67
    go_wp2_with (fail)
    refine EC.out.mono ?_
    rintro e w2 ⟨v, rfl, ho, hb⟩
    have HO := Aside0.mk (Kd.R_lower ho (below_size HB.out))
    have HB2 := Aside0.mk (below_then HB.out HB.out.size hb)
    clear hb ho EC
    go_wp2
    go_ret
    exact ⟨_, rfl, HO.out, HB2.out⟩
  · rw [if_neg hn] at h
    cases h

/-! ### impl_SystemKernel: function 35 -/
def impl_SystemKernel.f (l0 : List Int) : Option (List Int × Bool) := (impl_isSystem.f l0).bind fun t131 => (if t131 = true then ((impl_kernel.f l0).bind fun t132 => (some (t132, true))) else (some (([] : List Int), false)))
set_option maxHeartbeats 8000000 in
set_option maxRecDepth 100000 in
theorem impl_SystemKernel.calls (A0 : Option Addr) (c0 : Nat) (l0 : List Int) (r1 : List Int) (r2 : Bool) (w : World) (hr0 : Kd.C (Kd.int .i64) w A0 l0.length l0) (hc0 : l0.length ≤ c0) (h : impl_SystemKernel.f l0 = some (r1, r2)) :
    Calls Try.prog 35 #[.slice A0 l0.length c0] w fun e w' => ∃ v0_ : Value, e = .returned (.tuple #[v0_, .bool r2]) ∧ Kd.R (Kd.int .i64) 3 w' w.heap.size (fun _ => True) v0_ r1 ∧ Below w.heap.size w w' := by
  have HR0 := Aside0.mk hr0
  have HC0 := Aside0.mk hc0
  clear hr0 hc0
  have HB := Aside0.mk (Below.refl w.heap.size w)
  have H : ((impl_isSystem.f l0).bind fun t131 => (if t131 = true then ((impl_kernel.f l0).bind fun t132 => (some (t132, true))) else (some (([] : List Int), false)))) = some (r1, r2) := h
  clear h
  replace H := Option.bind_eq_some_iff.mp H
  obtain ⟨t131, A20, H⟩ := H
  replace H : (if t131 = true then ((impl_kernel.f l0).bind fun t132 => (some (t132, true))) else (some (([] : List Int), false))) = some (r1, r2) := H
  have A2 := Aside0.mk A20
  clear A20
  by_cases c3 : t131 = true
  · subst c3
    have H1 : ((impl_kernel.f l0).bind fun t132 => (some (t132, true))) = some (r1, r2) := by rw [if_pos rfl] at H; exact H
    clear H
    have H := H1
    clear H1
    replace H := Option.bind_eq_some_iff.mp H
    obtain ⟨t132, A40, H⟩ := H
    replace H : (some (t132, true)) = some (r1, r2) := H
    have A4 := Aside0.mk A40
    clear A40
    simp only [Option.some.injEq, Prod.mk.injEq] at H
    obtain ⟨rfl, rfl⟩ := H
    go_enter Try.func35, Try.ntmps35
    go_wp2_with (first | ((with_reducible refine gate_callee (f := 52) rfl ?_); refine goesL_ (some 5) rfl rfl Try.func52 (by kernel_rfl) rfl #[.slice A0 l0.length c0] rfl (by (try simp only [List.map_toArray, List.map_cons, List.map_nil]); first | done | rfl | (simp only [List.length_drop, List.length_take]; rfl)) ?_; (with_reducible refine (impl_isSystem.calls _ _ l0 true _ ?side1 ?side2 A2.out).mono ?_); (case side1 => repeat (first | exact HR0.out | (with_reducible refine Kd.C_alloc ?_ _) | (with_reducible refine Kd.C_drewN ?_ _) | (with_reducible refine Kd.C_drew ?_))); (case side2 => exact HC0.out); rintro e w5 ⟨rfl, hb⟩; refine ⟨_, rfl, ?_⟩; have n0_ := Aside0.mk (below_step (by repeat (first | (with_reducible first | exact HB.out | apply below_alloc | apply pw_below_drewN | apply below_drew1) | exact HB.out)) hb); clear HB; have HB := n0_; clear n0_; (try clear hb); (try clear hb2); (try clear hk); (try clear hi)) | ((with_reducible refine gate_callee (f := 67) rfl ?_); refine goesL_ (some 8) rfl rfl Try.func67 (by kernel_rfl) rfl #[.slice A0 l0.length c0] rfl (by (try simp only [List.map_toArray, List.map_cons, List.map_nil]); first | done | rfl | (simp only [List.length_drop, List.length_take]; rfl)) ?_; (with_reducible refine (impl_kernel.calls _ _ l0 t132 _ ?side1 ?side2 A4.out).mono ?_); (case side1 => repeat (first | exact (Kd.C_below HR0.out HB.out) | (with_reducible refine Kd.C_alloc ?_ _) | (with_reducible refine Kd.C_drewN ?_ _) | (with_reducible refine Kd.C_drew ?_))); (case side2 => exact HC0.out); rintro e w6 ⟨v133, rfl, ho0, hb⟩; refine ⟨_, rfl, ?_⟩; have n0_ := Aside0.mk (Kd.R_lower ho0 (below_size (by repeat (first | (with_reducible first | exact HB.out | apply below_alloc | apply pw_below_drewN | apply below_drew1) | exact HB.out)))); have n1_ := Aside0.mk (below_step (by repeat (first | (with_reducible first | exact HB.out | apply below_alloc | apply pw_below_drewN | apply below_drew1) | exact HB.out)) hb); clear HB; have HO134 := n0_; have HB := n1_; clear n0_ n1_; (try clear hb); (try clear hb2); (try clear hk); (try clear hi); (try clear ho0)))
    go_ret2
    exact ⟨_, by first | rfl | (simp [errW_none, errW_some] <;> rfl) | (simp [*, errW_none, errW_some] <;> rfl), by (with_reducible repeat (first | apply Kd.R_alloc | apply Kd.R_drewN | apply Kd.R_drew)); exact HO134.out, by repeat (first | (with_reducible first | exact HB.out | apply below_alloc | apply pw_below_drewN | apply below_drew1) | exact HB.out)⟩
  · replace c3 := Bool.eq_false_iff.mpr c3
    subst c3
    have H1 : (some (([] : List Int), false)) = some (r1, r2) := by rw [if_neg (show ¬ (false = true) by decide)] at H; exact H
    clear H
    have H := H1
    clear H1
    simp only [Option.some.injEq, Prod.mk.injEq] at H
    obtain ⟨rfl, rfl⟩ := H
    go_enter Try.func35, Try.ntmps35
    go_wp2_with (first | ((with_reducible refine gate_callee (f := 52) rfl ?_); refine goesL_ (some 5) rfl rfl Try.func52 (by kernel_rfl) rfl #[.slice A0 l0.length c0] rfl (by (try simp only [List.map_toArray, List.map_cons, List.map_nil]); first | done | rfl | (simp only [List.length_drop, List.length_take]; rfl)) ?_; (with_reducible refine (impl_isSystem.calls _ _ l0 false _ ?side1 ?side2 A2.out).mono ?_); (case side1 => repeat (first | exact HR0.out | (with_reducible refine Kd.C_alloc ?_ _) | (with_reducible refine Kd.C_drewN ?_ _) | (with_reducible refine Kd.C_drew ?_))); (case side2 => exact HC0.out); rintro e w7 ⟨rfl, hb⟩; refine ⟨_, rfl, ?_⟩; have n0_ := Aside0.mk (below_step (by repeat (first | (with_reducible first | exact HB.out | apply below_alloc | apply pw_below_drewN | apply below_drew1) | exact HB.out)) hb); clear HB; have HB := n0_; clear n0_; (try clear hb); (try clear hb2); (try clear hk); (try clear hi)))
    go_ret2
    exact ⟨_, by first | rfl | (simp [errW_none, errW_some] <;> rfl) | (simp [*, errW_none, errW_some] <;> rfl), by first | exact Kd.R_nil _ _ _ _ _ | exact Kd.N_nil _ _ _ _ _ | exact Kd.V_nil _ _ _ _ _ | exact Kd.Q_nil _ _ _ _ _ | exact Kd.S_nil _ _ _ _ _, by repeat (first | (with_reducible first | exact HB.out | apply below_alloc | apply pw_below_drewN | apply below_drew1) | exact HB.out)⟩

end Go.Proofs.Yteioeojpomahgaa.P
