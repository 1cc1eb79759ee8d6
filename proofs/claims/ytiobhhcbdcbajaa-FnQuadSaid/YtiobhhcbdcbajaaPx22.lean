/- Contracts of Go functions of the given program: each says, under its own hypotheses, what a call returns and leaves. Written by this claim's own program over the kit's print. -/
import Derived.Test.YtiobhhcbdcbajaaPx0
import Derived.Test.YtiobhhcbdcbajaaPx4
import Derived.Test.YtiobhhcbdcbajaaPx7
import Derived.Test.YtiobhhcbdcbajaaPx8
import Derived.Test.YtiobhhcbdcbajaaPx9
import Derived.Test.YtiobhhcbdcbajaaPx10
namespace Go.Proofs.Ytiobhhcbdcbajaa.P
open Go.RowKit Go.Proofs.YtiobhhcbdcbajaaW.PrintWords Go.Proofs.YtiobhhcbdcbajaaW.PrintLast Go.Proofs.YtiobhhcbdcbajaaW.PrintMore
attribute [local go_sem] max2_int min2_int max_two min_two max_three min_three max_four min_four   -- for this text's walks alone
set_option linter.unusedVariables false
set_option linter.unusedSimpArgs false

/-! ### impl_plane_apart: function 85 -/
theorem impl_plane_apart.on_some {l : List Int} (hn : nines l 81 = true) {p q : Int} (p0 : 0 ≤ p) (p1 : p < 91) (q0 : 0 ≤ q) (q1 : q < 91) : impl_plane_on.f l p q = some (onB l p q) := by
  have hl := (nines_iff.mp hn).1
  unfold impl_plane_on.f onB
  rw [tdiv9 p0, tdiv9 q0, tmod9 p0, tmod9 q0]
  by_cases c1 : q = 90
  · rw [if_pos c1, if_pos c1]
  · rw [if_neg c1, if_neg c1]
    by_cases c2 : q ≥ 81
    · rw [if_pos c2, if_pos c2]
      by_cases c3 : p = 90
      · rw [if_pos c3, decide_eq_true c3, Bool.true_or]
      · rw [if_neg c3, decide_eq_false c3, Bool.false_or]
        by_cases c4 : p < 81
        · rw [if_pos c4, decide_eq_true c4, Bool.true_and, show wrap64 (p / 9) = p / 9 by unfold wrap64; omega, show wrap64 (q - 81) = q - 81 by unfold wrap64; omega]
          rfl
        · rw [if_neg c4, decide_eq_false c4, Bool.false_and]
    · rw [if_neg c2, if_neg c2]
      by_cases c3 : p ≥ 81
      · rw [if_pos c3, if_pos c3, show wrap64 (q / 9) = q / 9 by unfold wrap64; omega, show wrap64 (81 + q / 9) = 81 + q / 9 by unfold wrap64; omega]
        rfl
      · rw [if_neg c3, if_neg c3, show wrap64 (p / 9) = p / 9 by unfold wrap64; omega, show wrap64 (q / 9) = q / 9 by unfold wrap64; omega, show wrap64 (9 * (p / 9)) = 9 * (p / 9) by unfold wrap64; omega, show wrap64 (9 * (p / 9) + q / 9) = 9 * (p / 9) + q / 9 by unfold wrap64; omega]
        rw [if_pos (by omega), if_pos (by omega), add_some]
        rfl
set_option maxHeartbeats 4000000 in
set_option maxRecDepth 100000 in
theorem impl_plane_apart_1.calls (B B2 : Nat) (A : Option Addr) (c : Nat) (l : List Int) (v q : Int) (r : Bool) (w : World) (hT : OnAt w B B2 A c l v) (hc : l.length ≤ c) (h : impl_plane_on.f l q v = some r) :
    Calls Try.prog 101 #[.int .i64 q, .pointer (some ⟨B, 0, none⟩), .pointer (some ⟨B2, 0, none⟩)] w fun e w' => e = .returned (.bool r) ∧ Drawn0 w w' := by
  have v1 := hT.tb
  have v2 := hT.pb
  have HC := Aside0.mk (impl_plane_on.calls A c l q v r w hT.at_ hc h)
  clear hT h hc
  go_enter Try.func101, Try.ntmps101
  go_wp2_with (fail)
  refine HC.out.mono ?_
  rintro e w' ⟨rfl, ⟨nd, rfl⟩⟩
  clear HC
  go_wp2
  go_ret
  exact ⟨rfl, by repeat (first | exact Drawn0.refl _ | apply Drawn0.step)⟩
mutual
def impl_plane_apart.l0 : Nat → List Int → List Int → Int → Option (Bool)
  | 0, _, _, _ => none
  | k + 1, x0, x1, x5 => if x5 < (x1.length : Int) then (impl_plane_apart.l1 k x0 x1 x5 0) else (some true)
def impl_plane_apart.l1 : Nat → List Int → List Int → Int → Int → Option (Bool)
  | 0, _, _, _, _ => none
  | k + 1, x0, x1, x5, x6 => if x6 < x5 then ((impl_plane_join.f k x0 (rd x1 x5) (rd x1 x6)).bind fun t => (if 0 ≤ t then (if t < 91 then (if (x1.take x6.toNat).any (fun r => onB x0 r t) = true then (some false) else (impl_plane_apart.l1 k x0 x1 x5 (x6 + 1))) else (none)) else (none))) else (impl_plane_apart.l0 k x0 x1 (x5 + 1))
end
def impl_plane_apart.f (k : Nat) (l0 : List Int) (l1 : List Int) : Option (Bool) := if nines l0 81 = true then ((impl_areDifferent.f k l1).bind fun t => (if t = true then (if (l1.all fun a => decide (0 ≤ a) && decide (a < 91)) = true then (if (l1.length : Int) ≤ 1000 then (impl_plane_apart.l0 k l0 l1 0) else (none)) else (none)) else (some false))) else (none)
theorem impl_plane_apart.mono_l : ∀ k, (∀ y0 y1 y2, LeO (impl_plane_apart.l0 k y0 y1 y2) (impl_plane_apart.l0 (k + 1) y0 y1 y2)) ∧ (∀ y0 y1 y2 y3, LeO (impl_plane_apart.l1 k y0 y1 y2 y3) (impl_plane_apart.l1 (k + 1) y0 y1 y2 y3))
  | 0 => ⟨fun _ _ _ r h => by simp [impl_plane_apart.l0] at h, fun _ _ _ _ r h => by simp [impl_plane_apart.l1] at h⟩
  | k + 1 => by
    obtain ⟨ih0, ih1⟩ := impl_plane_apart.mono_l k
    constructor
    · intro y0 y1 y2
      simp only [impl_plane_apart.l0]
      refine LeO.ite ?_ ?_
      · exact ih1 _ _ _ _
      · exact LeO.refl _
    · intro y0 y1 y2 y3
      simp only [impl_plane_apart.l1]
      refine LeO.ite ?_ ?_
      · refine LeO.bind (impl_plane_join.mono _ _ _ _) (fun _ => ?_)
        refine LeO.ite ?_ (LeO.refl _)
        refine LeO.ite ?_ (LeO.refl _)
        refine LeO.ite (LeO.refl _) ?_
        exact ih1 _ _ _ _
      · exact ih0 _ _ _
theorem impl_plane_apart.mono : ∀ a0 a1 k, LeO (impl_plane_apart.f k a0 a1) (impl_plane_apart.f (k + 1) a0 a1) := by
  intro a0 a1 k
  unfold impl_plane_apart.f
  refine LeO.ite ?_ (LeO.refl _)
  refine LeO.bind (impl_areDifferent.mono _ _) (fun _ => ?_)
  refine LeO.ite ?_ (LeO.refl _)
  refine LeO.ite ?_ (LeO.refl _)
  refine LeO.ite ?_ (LeO.refl _)
  exact (impl_plane_apart.mono_l k).1 _ _ _
theorem info_apart : (Try.prog.info? 3).map (fun i => (i.zero, i.size, i.bytes)) = some (some (.int .i64 0), 1, 8) := by kernel_rfl
set_option maxHeartbeats 8000000 in
set_option maxRecDepth 100000 in
theorem impl_plane_apart.calls (k : Nat) (A0 : Option Addr) (c0 : Nat) (l0 : List Int) (A1 : Option Addr) (c1 : Nat) (l1 : List Int) (r : Bool) (w : World) (hr0 : Kd.C (Kd.int .i64) w A0 l0.length l0) (hc0 : l0.length ≤ c0) (hr1 : Kd.C (Kd.int .i64) w A1 l1.length l1) (hc1 : l1.length ≤ c1) (h : impl_plane_apart.f k l0 l1 = some r) :
    Calls Try.prog 85 #[.slice A0 l0.length c0, .slice A1 l1.length c1] w fun e w' => e = .returned (.bool r) ∧ Below w.heap.size w w' := by
  unfold impl_plane_apart.f at h
  by_cases hn : nines l0 81 = true
  · rw [if_pos hn] at h
    obtain ⟨d, hd, h⟩ := Option.bind_eq_some_iff.mp h
    obtain ⟨W0, hW0⟩ : ∃ W0, w.alloc (.cells #[.slice A0 l0.length c0] 34) = W0 := ⟨_, rfl⟩
    have hB0 : Below w.heap.size w W0 := by rw [← hW0]; exact below_alloc (Below.refl _ _) _
    have hv : W0.cell? ⟨w.heap.size, 0, none⟩ = some (.slice A0 l0.length c0) := by rw [← hW0]; simp
    have hr0' : Kd.C (Kd.int .i64) W0 A0 l0.length l0 := by rw [← hW0]; exact Kd.C_alloc hr0 _
    have hr1' : Kd.C (Kd.int .i64) W0 A1 l1.length l1 := by rw [← hW0]; exact Kd.C_alloc hr1 _
    have DC := Aside0.mk (impl_areDifferent.calls k A1 c1 l1 d W0 hr1' hc1 hd)
    have HB0 := Aside0.mk hB0
    have HV := Aside0.mk hv
    have HR0 := Aside0.mk hr0'
    have HR1 := Aside0.mk hr1'
    have HC0 := Aside0.mk hc0
    have HC1 := Aside0.mk hc1
    have HN := Aside0.mk hn
    subst hW0
    clear hr0 hr1 hn hd hB0 hv hr0' hr1' hc0 hc1
    cases d with
    | false =>
      rw [if_neg (by decide)] at h
      obtain rfl := Option.some.inj h
      go_enter Try.func85, Try.ntmps85
      go_wp2_with (fail)
      refine DC.out.mono ?_
      rintro e w' ⟨rfl, ⟨nd, rfl⟩⟩
      go_wp2
      go_ret
      exact ⟨rfl, by repeat (first | exact HB0.out | apply pw_below_drewN | apply below_drew)⟩
    | true =>
      rw [if_pos rfl] at h
      by_cases ha : (l1.all fun a => decide (0 ≤ a) && decide (a < 91)) = true
      · rw [if_pos ha] at h
        by_cases hm : (l1.length : Int) ≤ 1000
        · rw [if_pos hm] at h
          have H' := Aside0.mk h
          have HA91 := Aside0.mk ha
          have HM := Aside0.mk hm
          clear h ha hm
          go_enter Try.func85, Try.ntmps85
          go_wp2_with (fail)
          refine DC.out.mono ?_
          rintro e w1 ⟨rfl, hb⟩
          have HB1 := Aside0.mk (below_then HB0.out HB0.out.size hb.below)
          have HV1 := Aside0.mk (pw_cell_below hb.below HV.out)
          have HR01 := Aside0.mk (Kd.C_below HR0.out hb.below)
          have HR11 := Aside0.mk (Kd.C_below HR1.out hb.below)
          clear hb HB0 HV HR0 HR1 DC
          go_wp2
          go_loopg [15] k (fun kq v15 w2 => ∃ (i : Int), v15 = .int .i64 i ∧ Aside0 (0 ≤ i) ∧ Aside0 (impl_plane_apart.l0 kq l0 l1 i = some r) ∧ Aside0 (kq ≤ k) ∧ Aside0 (Below w1.heap.size w1 w2))
          case atStart => exact ⟨0, rfl, ⟨Int.le_refl _⟩, H', ⟨Nat.le_refl _⟩, ⟨Below.refl _ _⟩⟩
          case round =>
            clear H'
            obtain ⟨i, rfl, I0, HA, HK1, HB2⟩ := hrel
            cases gk with
            | zero => exact absurd HA.out (by simp [impl_plane_apart.l0])
            | succ k1 =>
              have H := HA.out
              clear HA
              simp only [impl_plane_apart.l0] at H
              by_cases hi : i < (l1.length : Int)
              · rw [if_pos hi] at H
                have H' := Aside0.mk H
                have hib : decide (i < (l1.length : Int)) = true := decide_eq_true hi
                have i0 := I0.out
                have hi1 : i ≤ (l1.length : Int) := by omega
                obtain ⟨ad, e1, hx1⟩ := Kd.at_int (Kd.C_below HR11.out HB2.out) i i0 hi
                subst e1
                obtain ⟨ii, hii, _, hsz, _⟩ := info_parts info_apart
                obtain ⟨hcut, hA, hC⟩ := print_take_of (P := Try.prog) (Value.int .i64) 0 23 3 .i64 Try.underlying23 hii hsz (some ad) c1 l1 i i0 hi1 HC1.out
                have HI1 := Aside0.mk hi
                have p1 := eq_true i0
                have q1 := eq_true hi1
                have q2 := eq_true hi
                clear H hi hA hC hii hsz
                go_wp2
                have hmx : max i 0 = i := by omega
                rw [hmx]
                clear hcut hx1
                go_loopg [24] k1 (fun kq v24 w2 => ∃ (j : Int), v24 = .int .i64 j ∧ Aside0 (0 ≤ j) ∧ Aside0 (impl_plane_apart.l1 kq l0 l1 i j = some r) ∧ Aside0 (kq ≤ k1) ∧ Aside0 (Below w1.heap.size w1 w2))
                case atStart => exact ⟨0, rfl, ⟨Int.le_refl _⟩, H', ⟨Nat.le_refl _⟩, HB2⟩
                case round =>
                  clear H' HB2
                  obtain ⟨j, rfl, J0, HA, HK2, HB2⟩ := hrel
                  cases gk with
                  | zero => exact absurd HA.out (by simp [impl_plane_apart.l1])
                  | succ k2 =>
                    have H := HA.out
                    clear HA
                    simp only [impl_plane_apart.l1] at H
                    by_cases hj : j < i
                    · rw [if_pos hj] at H
                      have hjb : decide (j < i) = true := decide_eq_true hj
                      have j0 := J0.out
                      have hjl : j < (l1.length : Int) := by have := HI1.out; omega
                      have hjl1 : j ≤ (l1.length : Int) := by omega
                      obtain ⟨ad', e1, hx1⟩ := Kd.at_int (Kd.C_below HR11.out HB2.out) j j0 hjl
                      obtain rfl : ad = ad' := (by injection e1)
                      obtain ⟨t, ht, H⟩ := Option.bind_eq_some_iff.mp H
                      replace H : (if 0 ≤ t then (if t < 91 then (if (l1.take j.toNat).any (fun r => onB l0 r t) = true then (some false) else (impl_plane_apart.l1 k2 l0 l1 i (j + 1))) else (none)) else (none)) = some r := H
                      by_cases t0 : 0 ≤ t
                      · rw [if_pos t0] at H
                        by_cases t1 : t < 91
                        · rw [if_pos t1] at H
                          have JC := Aside0.mk (impl_plane_join.calls k2 A0 c0 l0 (rd l1 i) (rd l1 j) t wr (Kd.C_below HR01.out HB2.out) HC0.out ht)
                          have hv2 := pw_cell_below HB2.out HV1.out
                          have H2 := Aside0.mk H
                          have T0 := Aside0.mk t0
                          have T1 := Aside0.mk t1
                          have p3 := eq_true j0
                          have q3 := eq_true hjl
                          have q4 := eq_true hjl1
                          have q5 : (j < max i 0) = True := eq_true (by omega)
                          have q6 : (j < ((i.toNat : Nat) : Int)) = True := eq_true (by omega)
                          have q8 : (j < i) = True := eq_true hj
                          have d0 : decide (0 ≤ j) = true := decide_eq_true j0
                          have q7 : (j.toNat < i.toNat) = True := eq_true (by omega)
                          clear H t0 t1 ht hj hjl hjl1 e1
                          go_wp2_with (fail)
                          refine JC.out.mono ?_
                          rintro e w3 ⟨rfl, hb⟩
                          have HB3 := Aside0.mk (below_then HB2.out HB2.out.size hb.below)
                          clear hb JC hv2 hx1
                          obtain ⟨ii, hii, _, hsz, _⟩ := info_parts info_apart
                          obtain ⟨hcut, hA, hC⟩ := print_take_of (P := Try.prog) (Value.int .i64) 0 23 3 .i64 Try.underlying23 hii hsz (some ad) c1 l1 j (of_eq_true p3) (of_eq_true q4) HC1.out
                          clear hA hC hii hsz
                          obtain ⟨w4, hw4⟩ : ∃ w4, w3.alloc (Obj.cells #[Value.int IntKind.i64 t] 3) = w4 := ⟨_, rfl⟩
                          have HB4 := Aside0.mk (show Below w1.heap.size w1 w4 by rw [← hw4]; exact below_then HB3.out HB3.out.size (below_alloc (Below.refl _ _) _))
                          have HT4 : OnAt w4 w.heap.size w3.heap.size A0 c0 l0 t := ⟨pw_cell_below HB4.out HV1.out, by rw [← hw4]; simp, Kd.C_below HR01.out HB4.out⟩
                          have hlt : (l1.take j.toNat).length = j.toNat := by rw [List.length_take]; have := of_eq_true q4; have := of_eq_true p3; omega
                          have hrt : Kd.C (Kd.int .i64) w4 (some ad) (l1.take j.toNat).length (l1.take j.toNat) := Kd.C_take (Kd.C_below HR11.out HB4.out) (by have := of_eq_true q4; have := of_eq_true p3; omega)
                          have hp91 : ∀ a ∈ l1, 0 ≤ a ∧ a < 91 := fun a ha => by
                            have := List.all_eq_true.mp HA91.out a ha
                            rw [Bool.and_eq_true, decide_eq_true_eq, decide_eq_true_eq] at this
                            exact this
                          have G : GivesL 101 #[.pointer (some ⟨w.heap.size, 0, none⟩), .pointer (some ⟨w3.heap.size, 0, none⟩)] (fun a => onB l0 a t) (l1.take j.toNat) w4 := fun W a hb ha => (impl_plane_apart_1.calls w.heap.size w3.heap.size A0 c0 l0 t a _ W (HT4.below hb) HC0.out (impl_plane_apart.on_some HN.out (hp91 a (List.mem_of_mem_take ha)).1 (hp91 a (List.mem_of_mem_take ha)).2 T0.out T1.out)).mono fun e w' ⟨h1, h2⟩ => ⟨h1, h2.below⟩
                          have eg : ∀ args w, (callFunc 101 args).run Try.prog w = .ok (.enter 101 args) w := enters_of Try.func101 (by kernel_rfl) rfl
                          obtain ⟨b, hb⟩ : ∃ b, ((l1.take j.toNat).any fun a => onB l0 a t) = b := ⟨_, rfl⟩
                          have CF0 := slices_ContainsFunc_int_int.calls (some ad) c1 (l1.take j.toNat) 101 #[.pointer (some ⟨w.heap.size, 0, none⟩), .pointer (some ⟨w3.heap.size, 0, none⟩)] (fun a => onB l0 a t) b w4 eg hrt G hb
                          rw [hlt] at CF0
                          have CF := Aside0.mk CF0
                          have H3 := H2.out
                          rw [hb] at H3
                          clear CF0 G eg hp91 hrt hlt HT4 H2 hb HB3
                          subst hw4
                          go_wp2_with (fail)
                          refine CF.out.mono ?_
                          rintro e w5 ⟨rfl, hb5⟩
                          have HB5 := Aside0.mk (below_then HB4.out HB4.out.size hb5)
                          clear hb5 CF HB4 hcut
                          cases b with
                          | true =>
                            rw [if_pos rfl] at H3
                            obtain rfl := Option.some.inj H3
                            go_wp2
                            go_ret
                            exact ⟨rfl, below_then HB1.out HB1.out.size HB5.out⟩
                          | false =>
                            rw [if_neg (by decide)] at H3
                            have H4 := Aside0.mk H3
                            clear H3
                            have wj : IntKind.i64.wrap (j + 1) = j + 1 := by have := of_eq_true q8; have := of_eq_true p3; have := HI1.out; have := HM.out; exact w_in (by omega) (by omega)
                            go_wp2
                            go_roundg k2
                            case measure => omega
                            case rel => exact ⟨j + 1, by go_num, ⟨by have := J0.out; omega⟩, H4, ⟨by have := HK2.out; omega⟩, HB5⟩
                        · rw [if_neg t1] at H; cases H
                      · rw [if_neg t0] at H; cases H
                    · rw [if_neg hj] at H
                      have hjb : decide (j < i) = false := decide_eq_false hj
                      have H' := Aside0.mk H
                      have wi : IntKind.i64.wrap (i + 1) = i + 1 := by have := HI1.out; have := HM.out; have := I0.out; exact w_in (by omega) (by omega)
                      go_wp2
                      go_roundg k2
                      case measure => have := HK2.out; omega
                      case rel => exact ⟨i + 1, by go_num, ⟨by have := I0.out; omega⟩, H', ⟨by have := HK1.out; have := HK2.out; omega⟩, HB2⟩
              · rw [if_neg hi] at H
                have hib : decide (i < (l1.length : Int)) = false := decide_eq_false hi
                obtain rfl := Option.some.inj H
                go_wp2
                go_ret
                exact ⟨rfl, below_then HB1.out HB1.out.size HB2.out⟩
        · rw [if_neg hm] at h; cases h
      · rw [if_neg ha] at h; cases h
  · rw [if_neg hn] at h; cases h

/-! ### impl_plane_isQuad: function 52 -/
def impl_plane_isQuad.f (k : Nat) (l0 : List Int) (l1 : List Int) : Option (Bool) := if (l1.length : Int) = 4 then ((impl_plane_apart.f k l0 l1).bind fun t327 => (some t327)) else (some false)
theorem impl_plane_isQuad.mono : ∀ a0 a1 k, LeO (impl_plane_isQuad.f k a0 a1) (impl_plane_isQuad.f (k + 1) a0 a1) := by
  intro a0 a1 k
  unfold impl_plane_isQuad.f
  repeat' first
      | (with_reducible exact impl_plane_apart.mono _ _ _)
      | (with_reducible exact LeO.refl _)
      | (with_reducible exact LeO.none _)
      | (with_reducible refine LeO.ite ?_ ?_)
      | (with_reducible refine LeO.bind ?_ (fun _ => ?_))
      | exact impl_plane_apart.mono _ _ _
      | exact LeO.none _
      | refine LeO.ite ?_ ?_
      | refine LeO.bind ?_ (fun _ => ?_)
set_option maxHeartbeats 8000000 in
set_option maxRecDepth 100000 in
theorem impl_plane_isQuad.calls (k : Nat) (A0 : Option Addr) (c0 : Nat) (l0 : List Int) (A1 : Option Addr) (c1 : Nat) (l1 : List Int) (r : Bool) (w : World) (hr0 : Kd.C (Kd.int .i64) w A0 l0.length l0) (hc0 : l0.length ≤ c0) (hr1 : Kd.C (Kd.int .i64) w A1 l1.length l1) (hc1 : l1.length ≤ c1) (h : impl_plane_isQuad.f k l0 l1 = some r) :
    Calls Try.prog 52 #[.slice A0 l0.length c0, .slice A1 l1.length c1] w fun e w' => e = .returned (.bool r) ∧ Below w.heap.size w w' := by
  have HR0 := Aside0.mk hr0
  have HC0 := Aside0.mk hc0
  clear hr0 hc0
  have HR1 := Aside0.mk hr1
  have HC1 := Aside0.mk hc1
  clear hr1 hc1
  have HB := Aside0.mk (Below.refl w.heap.size w)
  have H : (if (l1.length : Int) = 4 then ((impl_plane_apart.f k l0 l1).bind fun t327 => (some t327)) else (some false)) = some r := h
  clear h
  by_cases c3 : (l1.length : Int) = 4
  · rw [if_pos c3] at H
    have c3b0 : ((l1.length : Int) == 4) = true := beq_iff_eq.mpr c3
    have c3b1 : ((l1.length : Int) != 4) = false := bne_eq_false_iff_eq.mpr c3
    clear c3
    replace H := Option.bind_eq_some_iff.mp H
    obtain ⟨t327, A40, H⟩ := H
    replace H : (some t327) = some r := H
    have A4 := Aside0.mk A40
    clear A40
    obtain rfl := Option.some.inj H
    go_enter Try.func52, Try.ntmps52
    go_wp2_with (first | (go_at_call 85; (with_reducible refine (impl_plane_apart.calls k _ _ l0 _ _ l1 t327 _ ?side1 ?side2 ?side3 ?side4 A4.out).mono ?_); (case side1 => repeat (first | exact HR0.out | (with_reducible refine Kd.C_alloc ?_ _) | (with_reducible refine Kd.C_drewN ?_ _) | (with_reducible refine Kd.C_drew ?_))); (case side2 => exact HC0.out); (case side3 => repeat (first | exact HR1.out | (with_reducible refine Kd.C_alloc ?_ _) | (with_reducible refine Kd.C_drewN ?_ _) | (with_reducible refine Kd.C_drew ?_))); (case side4 => exact HC1.out); rintro e w5 ⟨rfl, hb⟩; have n0_ := Aside0.mk (below_step (by repeat (first | (with_reducible first | exact HB.out | apply below_alloc | apply pw_below_drewN | apply below_drew1) | exact HB.out)) hb); clear HB; have HB := n0_; clear n0_; (try clear hb); (try clear hb2); (try clear hk); (try clear hi)))
    go_ret
    exact ⟨by first | rfl | (simp [errW_none, errW_some] <;> rfl) | (simp [*, errW_none, errW_some] <;> rfl), by repeat (first | (with_reducible first | exact HB.out | apply below_alloc | apply pw_below_drewN | apply below_drew1) | exact HB.out)⟩
  · rw [if_neg c3] at H
    have c3b0 : ((l1.length : Int) == 4) = false := beq_eq_false_iff_ne.mpr c3
    have c3b1 : ((l1.length : Int) != 4) = true := bne_iff_ne.mpr c3
    obtain rfl := Option.some.inj H
    go_enter Try.func52, Try.ntmps52
    go_wp2
    go_ret
    exact ⟨by first | rfl | (simp [errW_none, errW_some] <;> rfl) | (simp [*, errW_none, errW_some] <;> rfl), by repeat (first | (with_reducible first | exact HB.out | apply below_alloc | apply pw_below_drewN | apply below_drew1) | exact HB.out)⟩

end Go.Proofs.Ytiobhhcbdcbajaa.P
