/- Contracts of Go functions of the given program: each says, under its own hypotheses, what a call returns and leaves. Written by this claim's own program over the kit's print. -/
import Derived.Test.YtpfennpbemeikaaPx0
import Derived.Test.YtpfennpbemeikaaPx1
import Derived.Test.YtpfennpbemeikaaPx4
import Derived.Test.YtpfennpbemeikaaPx7
import Derived.Test.YtpfennpbemeikaaPx8
namespace Go.Proofs.Ytpfennpbemeikaa.P
open Go.RowKit Go.Proofs.YtpfennpbemeikaaW.PrintWords Go.Proofs.YtpfennpbemeikaaW.PrintLast Go.Proofs.YtpfennpbemeikaaW.PrintMore
attribute [local go_sem] max2_int min2_int max_two min_two max_three min_three max_four min_four   -- for this text's walks alone
set_option linter.unusedVariables false
set_option linter.unusedSimpArgs false

/-! ### impl_pointsThat: function 53 -/
/-- What is asked of a function value of one number below 91: it answers p, and what lay lies. -/
def Gives91 (g : Nat) (lb : Array Value) (p : Int → Bool) (w : World) : Prop :=
  ∀ (W : World) (a : Int), Below w.heap.size w W → 0 ≤ a → a < 91 →
    Calls Try.prog g (#[.int .i64 a] ++ lb) W fun e w' => e = .returned (.bool (p a)) ∧ Below W.heap.size W w'
theorem e91_take {i : Int} (h0 : 0 ≤ i) (h1 : i < 91) : e91.take (i + 1).toNat = e91.take i.toNat ++ [i] := by
  obtain ⟨n, rfl⟩ := Int.eq_ofNat_of_zero_le h0
  have h := (by decide +kernel : ∀ n, n < 91 → e91.take (n + 1) = e91.take n ++ [(n : Int)]) n (by omega)
  rw [show ((n : Int) + 1).toNat = n + 1 by omega, show (n : Int).toNat = n by omega]
  exact h
theorem e91_all : e91.take 91 = e91 := by decide +kernel
theorem info_pointsThat : (Try.prog.info? 3).map (fun i => (i.zero, i.size, i.bytes)) = some (some (.int .i64 0), 1, 8) := by kernel_rfl
set_option maxHeartbeats 4000000 in
set_option maxRecDepth 100000 in
theorem impl_pointsThat.calls (g : Nat) (lb : Array Value) (p : Int → Bool) (r : List Int) (w : World) (eg : ∀ args w, (callFunc g args).run Try.prog w = .ok (.enter g args) w) (hp : Gives91 g lb p w) (h : e91.filter p = r) :
    Calls Try.prog 53 #[.func (.func g) #[] lb] w fun e w' => ∃ v0_ : Value, e = .returned v0_ ∧ Kd.R (Kd.int .i64) 3 w' w.heap.size (fun _ => True) v0_ r ∧ Below w.heap.size w w' := by
  have HP := Aside0.mk hp
  have HR := Aside0.mk h
  clear hp h
  go_enter Try.func53, Try.ntmps53
  go_wp2_with ((with_reducible refine gate_dst (N := 5) rfl ?_); refine Kd.R_lit (Kd.int .i64) _ 3 ?hg (N := 5) ?hd (xs := ([] : List Int)) (inner := []) (ok := fun _ => True) (okp := fun _ => True) ?hr ?hp (fun _ hk => hk) trivial (Below.refl _ _) (Nat.le_refl _) (by simp) ?_; (case hd => rfl); (case hg => rfl); (case hr => first | (go_simp; done) | (go_simp; rfl)); (case hp => exact (Reps.none _ _)); intro v1 w1 ho hb hg_ hnew_; clear hg_ hnew_; have HO := Aside0.mk ho; have HB := Aside0.mk hb; clear ho hb)
  go_loopg [3, 6] 91 (fun kq v3 v6 w2 => ∃ (xs : List Int) (i : Int), v6 = .int .i64 i ∧ Aside0 (0 ≤ i ∧ i ≤ 91 ∧ (91 - i).toNat ≤ kq) ∧ Aside0 (xs = (e91.take i.toNat).filter p) ∧ Aside0 (Kd.R (Kd.int .i64) 3 w2 w.heap.size (fun _ => True) v3 xs) ∧ Aside0 (Below w.heap.size w w2))
  case atStart => exact ⟨[], 0, rfl, ⟨by omega, by omega, by decide⟩, ⟨rfl⟩, HO, HB⟩
  case round =>
    obtain ⟨xs, i, rfl, B1, A1, HO1, HB1⟩ := hrel
    have i0 := B1.out.1
    have i1 := B1.out.2.1
    by_cases hi : i < 91
    · have hib : decide (i < 91) = true := decide_eq_true hi
      cases hq : p i with
      | true =>
        have HC0 : ∀ W, Below w.heap.size w W → Calls Try.prog g (#[.int .i64 i] ++ lb) W fun e w' => e = .returned (.bool true) ∧ Below W.heap.size W w' := fun W hb => by
          have := HP.out W i hb i0 hi
          rw [hq] at this
          exact this
        have HC := Aside0.mk HC0
        clear HC0
        have HQ := Aside0.mk hq
        clear hq
        go_wp2_with (fail)
        refine (HC.out _ HB1.out).mono ?_
        rintro e w' ⟨rfl, hbw⟩
        have HB2 := Aside0.mk (below_then HB1.out HB1.out.size hbw)
        have HO2 := Aside0.mk (Kd.R_below HO1.out hbw)
        clear hbw HO1 HB1 HC
        obtain ⟨ys, hys⟩ : ∃ ys, ys = xs ++ [i] := ⟨_, rfl⟩
        have NY := Aside0.mk hys
        clear hys
        have LL : Aside0 (xs.length ≤ 91) := ⟨by
          have h2 := List.length_filter_le p (e91.take i.toNat)
          rw [← A1.out, List.length_take] at h2
          have h4 : e91.length = 91 := by decide +kernel
          omega⟩
        go_wp2_with (at_builtin; refine Kd.R_append (Kd.int .i64) (w0 := w) w.heap.size rfl (.tmp 12) (.tmp 14) 22 3 (.int .i64 0) 8 rfl Try.underlying22 info_pointsThat rfl (by decide) (by omega) u3 xs i [.int .i64 i] (fun _ => True) (fun _ => False) rfl rfl ?aP (fun _ hk => hk.elim) ?aF ?aO ?aB ?aS ?aL ?_; (case aP => exact rfl); (case aB => exact HB2.out); (case aF => exact (fun _ _ => trivial)); (case aO => exact HO2.out); (case aS => exact (below_size HB2.out)); (case aL => have := LL.out; omega); intro v2 w3 ho hb hg hat; rw [← NY.out] at ho; have HO3 := Aside0.mk ho; have HB3 := Aside0.mk hb; clear ho hb hg hat)
        go_roundg (90 - i).toNat
        case measure => have := B1.out.2.2; omega
        case rel => exact ⟨ys, i + 1, by go_num, ⟨by omega, by omega, by omega⟩, ⟨by rw [NY.out, e91_take i0 hi, List.filter_append, ← A1.out]; simp [HQ.out]⟩, HO3, HB3⟩
      | false =>
        have HC0 : ∀ W, Below w.heap.size w W → Calls Try.prog g (#[.int .i64 i] ++ lb) W fun e w' => e = .returned (.bool false) ∧ Below W.heap.size W w' := fun W hb => by
          have := HP.out W i hb i0 hi
          rw [hq] at this
          exact this
        have HC := Aside0.mk HC0
        clear HC0
        have HQ := Aside0.mk hq
        clear hq
        go_wp2_with (fail)
        refine (HC.out _ HB1.out).mono ?_
        rintro e w' ⟨rfl, hbw⟩
        have HB2 := Aside0.mk (below_then HB1.out HB1.out.size hbw)
        have HO2 := Aside0.mk (Kd.R_below HO1.out hbw)
        clear hbw HO1 HB1 HC
        go_wp2
        go_roundg (90 - i).toNat
        case measure => have := B1.out.2.2; omega
        case rel => exact ⟨xs, i + 1, by go_num, ⟨by omega, by omega, by omega⟩, ⟨by rw [e91_take i0 hi, List.filter_append, ← A1.out]; simp [HQ.out]⟩, HO2, HB2⟩
    · have hib : decide (i < 91) = false := decide_eq_false hi
      have hr : xs = r := by
        rw [A1.out, ← HR.out, show i.toNat = 91 by omega, e91_all]
      subst hr
      clear HR
      go_wp2
      go_ret
      exact ⟨_, rfl, HO1.out, HB1.out⟩

/-! ### impl_PlaneLines: function 26 -/
theorem impl_PlaneLines.on_some {l : List Int} (hn : nines l 81 = true) {p q : Int} (p0 : 0 ≤ p) (p1 : p < 91) (q0 : 0 ≤ q) (q1 : q < 91) : impl_plane_on.f l p q = some (onB l p q) := by
  have hl := (nines_iff.mp hn).1
  unfold impl_plane_on.f onB
  rw [tdiv9 p0, tdiv9 q0, tmod9 p0, tmod9 q0]
  by_cases c1 : q = 90
  · rw [if_pos c1, if_pos c1]
  · rw [if_neg c1, if_neg c1]
    by_cases c2 : q ≥ 81
    · rw [if_pos c2, if_pos c2]
      by_cases c3 : p = 90
      · rw [if_pos c3, decide_eq_true c3, Bool.true_or]
      · rw [if_neg c3, decide_eq_false c3, Bool.false_or]
        by_cases c4 : p < 81
        · rw [if_pos c4, decide_eq_true c4, Bool.true_and, show wrap64 (p / 9) = p / 9 by unfold wrap64; omega, show wrap64 (q - 81) = q - 81 by unfold wrap64; omega]
          rfl
        · rw [if_neg c4, decide_eq_false c4, Bool.false_and]
    · rw [if_neg c2, if_neg c2]
      by_cases c3 : p ≥ 81
      · rw [if_pos c3, if_pos c3, show wrap64 (q / 9) = q / 9 by unfold wrap64; omega, show wrap64 (81 + q / 9) = 81 + q / 9 by unfold wrap64; omega]
        rfl
      · rw [if_neg c3, if_neg c3, show wrap64 (p / 9) = p / 9 by unfold wrap64; omega, show wrap64 (q / 9) = q / 9 by unfold wrap64; omega, show wrap64 (9 * (p / 9)) = 9 * (p / 9) by unfold wrap64; omega, show wrap64 (9 * (p / 9) + q / 9) = 9 * (p / 9) + q / 9 by unfold wrap64; omega]
        rw [if_pos (by omega), if_pos (by omega), add_some]
        rfl
set_option maxHeartbeats 4000000 in
set_option maxRecDepth 100000 in
theorem impl_PlaneLines_1.calls (B B2 : Nat) (A : Option Addr) (c : Nat) (l : List Int) (v q : Int) (r : Bool) (w : World) (hT : OnAt w B B2 A c l v) (hc : l.length ≤ c) (h : impl_plane_on.f l v q = some r) :
    Calls Try.prog 54 #[.int .i64 q, .pointer (some ⟨B, 0, none⟩), .pointer (some ⟨B2, 0, none⟩)] w fun e w' => e = .returned (.bool r) ∧ Drawn0 w w' := by
  have v1 := hT.tb
  have v2 := hT.pb
  have HC := Aside0.mk (impl_plane_on.calls A c l v q r w hT.at_ hc h)
  clear hT h hc
  go_enter Try.func54, Try.ntmps54
  go_wp2_with (fail)
  refine HC.out.mono ?_
  rintro e w' ⟨rfl, ⟨nd, rfl⟩⟩
  clear HC
  go_wp2
  go_ret
  exact ⟨rfl, by repeat (first | exact Drawn0.refl _ | apply Drawn0.step)⟩
def impl_PlaneLines.f (l : List Int) (v : Int) : Option (List Int × Bool) := if (sysI l && (decide (0 ≤ v) && decide (v < 91))) = true then some (e91.filter (fun q => onB l v q), true) else some ([], false)
set_option maxHeartbeats 4000000 in
set_option maxRecDepth 100000 in
theorem impl_PlaneLines.calls (A0 : Option Addr) (c0 : Nat) (l0 : List Int) (a1 : Int) (r1 : List Int) (r2 : Bool) (w : World) (hr0 : Kd.C (Kd.int .i64) w A0 l0.length l0) (hc0 : l0.length ≤ c0) (h : impl_PlaneLines.f l0 a1 = some (r1, r2)) :
    Calls Try.prog 26 #[.slice A0 l0.length c0, .int .i64 a1] w fun e w' => ∃ v0_ : Value, e = .returned (.tuple #[v0_, .bool r2]) ∧ Kd.R (Kd.int .i64) 3 w' w.heap.size (fun _ => True) v0_ r1 ∧ Below w.heap.size w w' := by
  unfold impl_PlaneLines.f at h
  obtain ⟨W0, hW0⟩ : ∃ W0, (w.alloc (.cells #[.slice A0 l0.length c0] 22)).alloc (.cells #[.int .i64 a1] 3) = W0 := ⟨_, rfl⟩
  have hB0 : Below w.heap.size w W0 := by rw [← hW0]; exact below_alloc (below_alloc (Below.refl _ _) _) _
  have HB0 := Aside0.mk hB0
  have hT : OnAt W0 w.heap.size (w.heap.size + 1) A0 c0 l0 a1 := by
    rw [← hW0]
    exact ⟨by simp, by simp, Kd.C_alloc (Kd.C_alloc hr0 _) _⟩
  obtain ⟨q, hq⟩ : ∃ q, sysI l0 = q := ⟨_, rfl⟩
  have HC := Aside0.mk (impl_isSystem.calls A0 c0 l0 q W0 hT.at_ hc0 (congrArg some hq))
  rw [hq] at h
  cases q with
  | false =>
    rw [Bool.false_and, if_neg (by decide)] at h
    simp only [Option.some.injEq, Prod.mk.injEq] at h
    obtain ⟨rfl, rfl⟩ := h
    subst hW0
    clear hr0 hq hc0 hT hB0
    go_enter Try.func26, Try.ntmps26
    go_wp2_with (fail)
    refine HC.out.mono ?_
    rintro e w' ⟨rfl, hb⟩
    have HB := Aside0.mk (below_then HB0.out HB0.out.size hb)
    clear hb HC
    go_wp2
    go_ret2
    exact ⟨_, rfl, Kd.R_nil _ _ _ _ _, HB.out⟩
  | true =>
    obtain ⟨ip, hip⟩ : ∃ b, (decide (0 ≤ a1) && decide (a1 < 91)) = b := ⟨_, rfl⟩
    have hf : impl_isPoint.f a1 = some ip := by
      unfold impl_isPoint.f
      rw [← hip]
      by_cases z : 0 ≤ a1
      · rw [if_pos z, decide_eq_true z, Bool.true_and]
      · rw [if_neg z, decide_eq_false z, Bool.false_and]
    have HI := Aside0.mk (fun W => impl_isPoint.calls a1 ip W hf)
    rw [hip] at h
    cases ip with
    | false =>
      rw [if_neg (by decide)] at h
      simp only [Option.some.injEq, Prod.mk.injEq] at h
      obtain ⟨rfl, rfl⟩ := h
      have HT := Aside0.mk hT
      subst hW0
      clear hr0 hq hc0 hT hB0 hip hf
      go_enter Try.func26, Try.ntmps26
      go_wp2_with (fail)
      refine HC.out.mono ?_
      rintro e w1 ⟨rfl, hb⟩
      have HB := Aside0.mk (below_then HB0.out HB0.out.size hb)
      have HT1 := Aside0.mk (HT.out.below hb)
      have v2 := HT1.out.pb
      clear hb HC HT
      go_wp2_with (fail)
      refine (HI.out _).mono ?_
      rintro e w' ⟨rfl, ⟨nd, rfl⟩⟩
      go_wp2
      go_ret2
      exact ⟨_, rfl, Kd.R_nil _ _ _ _ _, by repeat (first | exact HB.out | apply pw_below_drewN | apply below_drew)⟩
    | true =>
      rw [if_pos (by decide)] at h
      simp only [Option.some.injEq, Prod.mk.injEq] at h
      obtain ⟨h1, rfl⟩ := h
      have hn : nines l0 81 = true := (Bool.and_eq_true_iff.mp hq).1
      have ha := Bool.and_eq_true_iff.mp hip
      have a0 : 0 ≤ a1 := of_decide_eq_true ha.1
      have a2 : a1 < 91 := of_decide_eq_true ha.2
      have HT := Aside0.mk hT
      have HR := Aside0.mk h1
      have HN := Aside0.mk hn
      have HA := Aside0.mk (And.intro a0 a2)
      have HC0 := Aside0.mk hc0
      subst hW0
      clear hr0 hq hc0 hn hT h1 ha a0 a2 hip hf hB0
      have eg : ∀ args w, (callFunc 54 args).run Try.prog w = .ok (.enter 54 args) w := enters_of Try.func54 (by kernel_rfl) rfl
      have EG := Aside0.mk eg
      clear eg
      go_enter Try.func26, Try.ntmps26
      go_wp2_with (fail)
      refine HC.out.mono ?_
      rintro e w1 ⟨rfl, hb⟩
      have HB := Aside0.mk (below_then HB0.out HB0.out.size hb)
      have HT1 := Aside0.mk (HT.out.below hb)
      have v2 := HT1.out.pb
      clear hb HC HT
      go_wp2_with (fail)
      refine (HI.out _).mono ?_
      rintro e w' ⟨rfl, ⟨nd, rfl⟩⟩
      obtain ⟨w2, hw2⟩ : ∃ w2, w1.drewN nd = w2 := ⟨_, rfl⟩
      have HB1 := Aside0.mk (show Below w.heap.size w w2 by rw [← hw2]; exact pw_below_drewN HB.out _)
      have HT2 := Aside0.mk (show OnAt w2 w.heap.size (w.heap.size + 1) A0 c0 l0 a1 by rw [← hw2]; exact HT1.out.below (pw_below_drewN (Below.refl _ _) _))
      clear HB HT1 v2
      rw [hw2]
      clear hw2
      have G1 : Gives91 54 #[.pointer (some ⟨w.heap.size, 0, none⟩), .pointer (some ⟨w.heap.size + 1, 0, none⟩)] (fun q => onB l0 a1 q) w2 := fun W a hb a0 a1_ => (impl_PlaneLines_1.calls w.heap.size (w.heap.size + 1) A0 c0 l0 a1 a _ W (HT2.out.below hb) HC0.out (impl_PlaneLines.on_some HN.out HA.out.1 HA.out.2 a0 a1_)).mono fun e w' ⟨h1, h2⟩ => ⟨h1, h2.below⟩
      have EC := Aside0.mk (impl_pointsThat.calls 54 #[.pointer (some ⟨w.heap.size, 0, none⟩), .pointer (some ⟨w.heap.size + 1, 0, none⟩)] _ r1 w2 EG.out G1 HR.out)
      clear G1 EG
      go_wp2_with (fail)
      refine EC.out.mono ?_
      rintro e w3 ⟨v, rfl, ho, hb⟩
      have HO := Aside0.mk (Kd.R_lower ho (below_size HB1.out))
      have HB2 := Aside0.mk (below_then HB1.out HB1.out.size hb)
      clear hb ho EC
      go_wp2
      go_ret2
      exact ⟨_, rfl, HO.out, HB2.out⟩

/-! ### impl_plane_points: function 59 -/
theorem impl_plane_points.on_some {l : List Int} (hn : nines l 81 = true) {p q : Int} (p0 : 0 ≤ p) (p1 : p < 91) (q0 : 0 ≤ q) (q1 : q < 91) : impl_plane_on.f l p q = some (onB l p q) := by
  have hl := (nines_iff.mp hn).1
  unfold impl_plane_on.f onB
  rw [tdiv9 p0, tdiv9 q0, tmod9 p0, tmod9 q0]
  by_cases c1 : q = 90
  · rw [if_pos c1, if_pos c1]
  · rw [if_neg c1, if_neg c1]
    by_cases c2 : q ≥ 81
    · rw [if_pos c2, if_pos c2]
      by_cases c3 : p = 90
      · rw [if_pos c3, decide_eq_true c3, Bool.true_or]
      · rw [if_neg c3, decide_eq_false c3, Bool.false_or]
        by_cases c4 : p < 81
        · rw [if_pos c4, decide_eq_true c4, Bool.true_and, show wrap64 (p / 9) = p / 9 by unfold wrap64; omega, show wrap64 (q - 81) = q - 81 by unfold wrap64; omega]
          rfl
        · rw [if_neg c4, decide_eq_false c4, Bool.false_and]
    · rw [if_neg c2, if_neg c2]
      by_cases c3 : p ≥ 81
      · rw [if_pos c3, if_pos c3, show wrap64 (q / 9) = q / 9 by unfold wrap64; omega, show wrap64 (81 + q / 9) = 81 + q / 9 by unfold wrap64; omega]
        rfl
      · rw [if_neg c3, if_neg c3, show wrap64 (p / 9) = p / 9 by unfold wrap64; omega, show wrap64 (q / 9) = q / 9 by unfold wrap64; omega, show wrap64 (9 * (p / 9)) = 9 * (p / 9) by unfold wrap64; omega, show wrap64 (9 * (p / 9) + q / 9) = 9 * (p / 9) + q / 9 by unfold wrap64; omega]
        rw [if_pos (by omega), if_pos (by omega), add_some]
        rfl
set_option maxHeartbeats 4000000 in
set_option maxRecDepth 100000 in
theorem impl_plane_points_1.calls (B B2 : Nat) (A : Option Addr) (c : Nat) (l : List Int) (v q : Int) (r : Bool) (w : World) (hT : OnAt w B B2 A c l v) (hc : l.length ≤ c) (h : impl_plane_on.f l q v = some r) :
    Calls Try.prog 84 #[.int .i64 q, .pointer (some ⟨B, 0, none⟩), .pointer (some ⟨B2, 0, none⟩)] w fun e w' => e = .returned (.bool r) ∧ Drawn0 w w' := by
  have v1 := hT.tb
  have v2 := hT.pb
  have HC := Aside0.mk (impl_plane_on.calls A c l q v r w hT.at_ hc h)
  clear hT h hc
  go_enter Try.func84, Try.ntmps84
  go_wp2_with (fail)
  refine HC.out.mono ?_
  rintro e w' ⟨rfl, ⟨nd, rfl⟩⟩
  clear HC
  go_wp2
  go_ret
  exact ⟨rfl, by repeat (first | exact Drawn0.refl _ | apply Drawn0.step)⟩
def impl_plane_points.f (l : List Int) (v : Int) : Option (List Int) := if (nines l 81 && (decide (0 ≤ v) && decide (v < 91))) = true then some (e91.filter (fun q => onB l q v)) else none
set_option maxHeartbeats 4000000 in
set_option maxRecDepth 100000 in
theorem impl_plane_points.calls (A0 : Option Addr) (c0 : Nat) (l0 : List Int) (a1 : Int) (r1 : List Int) (w : World) (hr0 : Kd.C (Kd.int .i64) w A0 l0.length l0) (hc0 : l0.length ≤ c0) (h : impl_plane_points.f l0 a1 = some r1) :
    Calls Try.prog 59 #[.slice A0 l0.length c0, .int .i64 a1] w fun e w' => ∃ v0_ : Value, e = .returned v0_ ∧ Kd.R (Kd.int .i64) 3 w' w.heap.size (fun _ => True) v0_ r1 ∧ Below w.heap.size w w' := by
  unfold impl_plane_points.f at h
  obtain ⟨q, hq⟩ : ∃ q, (nines l0 81 && (decide (0 ≤ a1) && decide (a1 < 91))) = q := ⟨_, rfl⟩
  rw [hq] at h
  cases q with
  | false => rw [if_neg (by decide)] at h; cases h
  | true =>
    rw [if_pos rfl] at h
    have h1 := Option.some.inj h
    clear h
    have hn : nines l0 81 = true := (Bool.and_eq_true_iff.mp hq).1
    have ha := Bool.and_eq_true_iff.mp (Bool.and_eq_true_iff.mp hq).2
    have a0 : 0 ≤ a1 := of_decide_eq_true ha.1
    have a2 : a1 < 91 := of_decide_eq_true ha.2
    obtain ⟨W0, hW0⟩ : ∃ W0, (w.alloc (.cells #[.slice A0 l0.length c0] 45)).alloc (.cells #[.int .i64 a1] 3) = W0 := ⟨_, rfl⟩
    have hB0 : Below w.heap.size w W0 := by rw [← hW0]; exact below_alloc (below_alloc (Below.refl _ _) _) _
    have hT : OnAt W0 w.heap.size (w.heap.size + 1) A0 c0 l0 a1 := by
      rw [← hW0]
      exact ⟨by simp, by simp, Kd.C_alloc (Kd.C_alloc hr0 _) _⟩
    have eg : ∀ args w, (callFunc 84 args).run Try.prog w = .ok (.enter 84 args) w := enters_of Try.func84 (by kernel_rfl) rfl
    have G1 : Gives91 84 #[.pointer (some ⟨w.heap.size, 0, none⟩), .pointer (some ⟨w.heap.size + 1, 0, none⟩)] (fun q => onB l0 q a1) W0 := fun W a hb b0 b1 => (impl_plane_points_1.calls w.heap.size (w.heap.size + 1) A0 c0 l0 a1 a _ W (hT.below hb) hc0 (impl_plane_points.on_some hn b0 b1 a0 a2)).mono fun e w' ⟨h1, h2⟩ => ⟨h1, h2.below⟩
    have EC := Aside0.mk (impl_pointsThat.calls 84 #[.pointer (some ⟨w.heap.size, 0, none⟩), .pointer (some ⟨w.heap.size + 1, 0, none⟩)] _ r1 W0 eg G1 h1)
    have HB1 := Aside0.mk hB0
    clear hr0 hq hc0 hn hT h1 ha a0 a2 hB0 G1 eg
    subst hW0
    go_enter Try.func59, Try.ntmps59
    go_wp2_with (fail)
    refine EC.out.mono ?_
    rintro e w3 ⟨v, rfl, ho, hb⟩
    have HO := Aside0.mk (Kd.R_lower ho (below_size HB1.out))
    have HB2 := Aside0.mk (below_then HB1.out HB1.out.size hb)
    clear hb ho EC
    go_wp2
    go_ret
    exact ⟨_, rfl, HO.out, HB2.out⟩

/-! ### impl_PlanePoints: function 32 -/
def impl_PlanePoints.f (l0 : List Int) (a1 : Int) : Option (List Int × Bool) := (impl_isSystem.f l0).bind fun t294 => (if t294 = true then ((impl_isPoint.f a1).bind fun t295 => (if t295 = true then ((impl_plane_points.f l0 a1).bind fun t296 => (some (t296, true))) else (some (([] : List Int), false)))) else (some (([] : List Int), false)))
set_option maxHeartbeats 8000000 in
set_option maxRecDepth 100000 in
theorem impl_PlanePoints.calls (A0 : Option Addr) (c0 : Nat) (l0 : List Int) (a1 : Int) (r1 : List Int) (r2 : Bool) (w : World) (hr0 : Kd.C (Kd.int .i64) w A0 l0.length l0) (hc0 : l0.length ≤ c0) (h : impl_PlanePoints.f l0 a1 = some (r1, r2)) :
    Calls Try.prog 32 #[.slice A0 l0.length c0, .int .i64 a1] w fun e w' => ∃ v0_ : Value, e = .returned (.tuple #[v0_, .bool r2]) ∧ Kd.R (Kd.int .i64) 3 w' w.heap.size (fun _ => True) v0_ r1 ∧ Below w.heap.size w w' := by
  have HR0 := Aside0.mk hr0
  have HC0 := Aside0.mk hc0
  clear hr0 hc0
  have HB := Aside0.mk (Below.refl w.heap.size w)
  have H : ((impl_isSystem.f l0).bind fun t294 => (if t294 = true then ((impl_isPoint.f a1).bind fun t295 => (if t295 = true then ((impl_plane_points.f l0 a1).bind fun t296 => (some (t296, true))) else (some (([] : List Int), false)))) else (some (([] : List Int), false)))) = some (r1, r2) := h
  clear h
  replace H := Option.bind_eq_some_iff.mp H
  obtain ⟨t294, A30, H⟩ := H
  replace H : (if t294 = true then ((impl_isPoint.f a1).bind fun t295 => (if t295 = true then ((impl_plane_points.f l0 a1).bind fun t296 => (some (t296, true))) else (some (([] : List Int), false)))) else (some (([] : List Int), false))) = some (r1, r2) := H
  have A3 := Aside0.mk A30
  clear A30
  by_cases c4 : t294 = true
  · subst c4
    have H1 : ((impl_isPoint.f a1).bind fun t295 => (if t295 = true then ((impl_plane_points.f l0 a1).bind fun t296 => (some (t296, true))) else (some (([] : List Int), false)))) = some (r1, r2) := by rw [if_pos rfl] at H; exact H
    clear H
    have H := H1
    clear H1
    replace H := Option.bind_eq_some_iff.mp H
    obtain ⟨t295, A50, H⟩ := H
    replace H : (if t295 = true then ((impl_plane_points.f l0 a1).bind fun t296 => (some (t296, true))) else (some (([] : List Int), false))) = some (r1, r2) := H
    have A5 := Aside0.mk A50
    clear A50
    by_cases c6 : t295 = true
    · subst c6
      have H1 : ((impl_plane_points.f l0 a1).bind fun t296 => (some (t296, true))) = some (r1, r2) := by rw [if_pos rfl] at H; exact H
      clear H
      have H := H1
      clear H1
      replace H := Option.bind_eq_some_iff.mp H
      obtain ⟨t296, A70, H⟩ := H
      replace H : (some (t296, true)) = some (r1, r2) := H
      have A7 := Aside0.mk A70
      clear A70
      simp only [Option.some.injEq, Prod.mk.injEq] at H
      obtain ⟨rfl, rfl⟩ := H
      go_enter Try.func32, Try.ntmps32
      go_wp2_with (first | ((with_reducible refine gate_callee (f := 46) rfl ?_); refine goesL_ (some 7) rfl rfl Try.func46 (by kernel_rfl) rfl #[.slice A0 l0.length c0] rfl (by (try simp only [List.map_toArray, List.map_cons, List.map_nil]); first | done | rfl | (simp only [List.length_drop, List.length_take]; rfl)) ?_; (with_reducible refine (impl_isSystem.calls _ _ l0 true _ ?side1 ?side2 A3.out).mono ?_); (case side1 => repeat (first | exact HR0.out | (with_reducible refine Kd.C_alloc ?_ _) | (with_reducible refine Kd.C_drewN ?_ _) | (with_reducible refine Kd.C_drew ?_))); (case side2 => exact HC0.out); rintro e w8 ⟨rfl, hb⟩; refine ⟨_, rfl, ?_⟩; have n0_ := Aside0.mk (below_step (by repeat (first | (with_reducible first | exact HB.out | apply below_alloc | apply pw_below_drewN | apply below_drew1) | exact HB.out)) hb); clear HB; have HB := n0_; clear n0_; (try clear hb); (try clear hb2); (try clear hk); (try clear hi)) | (go_at_call 47; (with_reducible refine (impl_isPoint.calls a1 true _ A5.out).mono ?_); rintro e w' ⟨rfl, ⟨nd, rfl⟩⟩) | ((with_reducible refine gate_callee (f := 59) rfl ?_); refine goesL_ (some 16) rfl rfl Try.func59 (by kernel_rfl) rfl #[.slice A0 l0.length c0, .int .i64 a1] rfl (by (try simp only [List.map_toArray, List.map_cons, List.map_nil]); first | done | rfl | (simp only [List.length_drop, List.length_take]; rfl)) ?_; (with_reducible refine (impl_plane_points.calls _ _ l0 a1 t296 _ ?side1 ?side2 A7.out).mono ?_); (case side1 => repeat (first | exact (Kd.C_below HR0.out (by repeat (first | (with_reducible first | exact HB.out | apply below_alloc | apply pw_below_drewN | apply below_drew1) | exact HB.out))) | (with_reducible refine Kd.C_alloc ?_ _) | (with_reducible refine Kd.C_drewN ?_ _) | (with_reducible refine Kd.C_drew ?_))); (case side2 => exact HC0.out); rintro e w9 ⟨v297, rfl, ho0, hb⟩; refine ⟨_, rfl, ?_⟩; have n0_ := Aside0.mk (Kd.R_lower ho0 (below_size (by repeat (first | (with_reducible first | exact HB.out | apply below_alloc | apply pw_below_drewN | apply below_drew1) | exact HB.out)))); have n1_ := Aside0.mk (below_step (by repeat (first | (with_reducible first | exact HB.out | apply below_alloc | apply pw_below_drewN | apply below_drew1) | exact HB.out)) hb); clear HB; have HO298 := n0_; have HB := n1_; clear n0_ n1_; (try clear hb); (try clear hb2); (try clear hk); (try clear hi); (try clear ho0)))
      go_ret2
      exact ⟨_, by first | rfl | (simp [errW_none, errW_some] <;> rfl) | (simp [*, errW_none, errW_some] <;> rfl), by (with_reducible repeat (first | apply Kd.R_alloc | apply Kd.R_drewN | apply Kd.R_drew)); exact HO298.out, by repeat (first | (with_reducible first | exact HB.out | apply below_alloc | apply pw_below_drewN | apply below_drew1) | exact HB.out)⟩
    · replace c6 := Bool.eq_false_iff.mpr c6
      subst c6
      have H1 : (some (([] : List Int), false)) = some (r1, r2) := by rw [if_neg (show ¬ (false = true) by decide)] at H; exact H
      clear H
      have H := H1
      clear H1
      simp only [Option.some.injEq, Prod.mk.injEq] at H
      obtain ⟨rfl, rfl⟩ := H
      go_enter Try.func32, Try.ntmps32
      go_wp2_with (first | ((with_reducible refine gate_callee (f := 46) rfl ?_); refine goesL_ (some 7) rfl rfl Try.func46 (by kernel_rfl) rfl #[.slice A0 l0.length c0] rfl (by (try simp only [List.map_toArray, List.map_cons, List.map_nil]); first | done | rfl | (simp only [List.length_drop, List.length_take]; rfl)) ?_; (with_reducible refine (impl_isSystem.calls _ _ l0 true _ ?side1 ?side2 A3.out).mono ?_); (case side1 => repeat (first | exact HR0.out | (with_reducible refine Kd.C_alloc ?_ _) | (with_reducible refine Kd.C_drewN ?_ _) | (with_reducible refine Kd.C_drew ?_))); (case side2 => exact HC0.out); rintro e w10 ⟨rfl, hb⟩; refine ⟨_, rfl, ?_⟩; have n0_ := Aside0.mk (below_step (by repeat (first | (with_reducible first | exact HB.out | apply below_alloc | apply pw_below_drewN | apply below_drew1) | exact HB.out)) hb); clear HB; have HB := n0_; clear n0_; (try clear hb); (try clear hb2); (try clear hk); (try clear hi)) | (go_at_call 47; (with_reducible refine (impl_isPoint.calls a1 false _ A5.out).mono ?_); rintro e w' ⟨rfl, ⟨nd, rfl⟩⟩))
      go_ret2
      exact ⟨_, by first | rfl | (simp [errW_none, errW_some] <;> rfl) | (simp [*, errW_none, errW_some] <;> rfl), by first | exact Kd.R_nil _ _ _ _ _ | exact Kd.N_nil _ _ _ _ _ | exact Kd.V_nil _ _ _ _ _ | exact Kd.Q_nil _ _ _ _ _ | exact Kd.S_nil _ _ _ _ _, by repeat (first | (with_reducible first | exact HB.out | apply below_alloc | apply pw_below_drewN | apply below_drew1) | exact HB.out)⟩
  · replace c4 := Bool.eq_false_iff.mpr c4
    subst c4
    have H1 : (some (([] : List Int), false)) = some (r1, r2) := by rw [if_neg (show ¬ (false = true) by decide)] at H; exact H
    clear H
    have H := H1
    clear H1
    simp only [Option.some.injEq, Prod.mk.injEq] at H
    obtain ⟨rfl, rfl⟩ := H
    go_enter Try.func32, Try.ntmps32
    go_wp2_with (first | ((with_reducible refine gate_callee (f := 46) rfl ?_); refine goesL_ (some 7) rfl rfl Try.func46 (by kernel_rfl) rfl #[.slice A0 l0.length c0] rfl (by (try simp only [List.map_toArray, List.map_cons, List.map_nil]); first | done | rfl | (simp only [List.length_drop, List.length_take]; rfl)) ?_; (with_reducible refine (impl_isSystem.calls _ _ l0 false _ ?side1 ?side2 A3.out).mono ?_); (case side1 => repeat (first | exact HR0.out | (with_reducible refine Kd.C_alloc ?_ _) | (with_reducible refine Kd.C_drewN ?_ _) | (with_reducible refine Kd.C_drew ?_))); (case side2 => exact HC0.out); rintro e w11 ⟨rfl, hb⟩; refine ⟨_, rfl, ?_⟩; have n0_ := Aside0.mk (below_step (by repeat (first | (with_reducible first | exact HB.out | apply below_alloc | apply pw_below_drewN | apply below_drew1) | exact HB.out)) hb); clear HB; have HB := n0_; clear n0_; (try clear hb); (try clear hb2); (try clear hk); (try clear hi)))
    go_ret2
    exact ⟨_, by first | rfl | (simp [errW_none, errW_some] <;> rfl) | (simp [*, errW_none, errW_some] <;> rfl), by first | exact Kd.R_nil _ _ _ _ _ | exact Kd.N_nil _ _ _ _ _ | exact Kd.V_nil _ _ _ _ _ | exact Kd.Q_nil _ _ _ _ _ | exact Kd.S_nil _ _ _ _ _, by repeat (first | (with_reducible first | exact HB.out | apply below_alloc | apply pw_below_drewN | apply below_drew1) | exact HB.out)⟩

end Go.Proofs.Ytpfennpbemeikaa.P
