/- Kernels have three elements or nine. No conditions. -/
import Derived.Test.YteioeojpomahgaaPx14
import Derived.Test.YteioeojpomahgaaKerSpec
import Derived.Test.YteioeojpomahgaaEvMore
import Derived.Test.YteioeojpomahgaaKerDraw
import Derived.Test.YteioeojpomahgaaSliceSame
set_option linter.unusedVariables false
set_option linter.unusedSimpArgs false
namespace Go.Proofs.Yteioeojpomahgaa.Pure
open Go.RowKit Go.Proofs.Yteioeojpomahgaa.P Go.Proofs.Yteioeojpomahgaa.Nine Go.Proofs.YteioeojpomahgaaW.PrintWords Go.Proofs.YteioeojpomahgaaW.PrintLast

theorem nineAdd {a b : Int} (a0 : 0 ≤ a) (a1 : a ≤ 8) (b0 : 0 ≤ b) (b1 : b ≤ 8) : impl_NineAdd.f a b = some (addP a b) :=
  (by decide +kernel : ∀ a ∈ e9, ∀ b ∈ e9, impl_NineAdd.f a b = some (addP a b)) a (mem_e9.mpr ⟨a0, a1⟩) b (mem_e9.mpr ⟨b0, b1⟩)
theorem mem_ker {t : List Int} {a : Int} : a ∈ e9.filter (kerI t) ↔ (0 ≤ a ∧ a ≤ 8) ∧ kerI t a = true := by rw [List.mem_filter, mem_e9]
theorem ker_len {t : List Int} (h : sysI t = true) : ((e9.filter (kerI t)).length : Int) = if (all3 (bothI t) && all3 (brkI t)) = true then 9 else 3 := by
  obtain ⟨hN, S⟩ := sys_iff.mp h
  have ka : (all3 (bothI t) && all3 (brkI t)) = true ↔ ∀ a, InKer (mOf t) a := by
    rw [Bool.and_eq_true, both_iff hN, brk_iff hN, Sys.ker_all]
  by_cases hk : ∀ a, InKer (mOf t) a
  · rw [if_pos (ka.mpr hk)]
    have : e9.all (kerI t) = true := all9_fin.mpr fun a => (ker_iff hN a).mpr (hk a)
    rw [← filter_all, beq_iff_eq] at this
    exact this
  · rw [if_neg fun h => hk (ka.mp h)]
    have k0 : kerI t 0 = true := (ker_iff hN 0).mpr S.ker_zero
    have k1 : kerI t 1 = true := (ker_iff hN 1).mpr S.ker_one
    have k2 : kerI t 2 = true := (ker_iff hN 2).mpr S.ker_two
    have no : ∀ x : Fin 9, x ≠ 0 → x ≠ 1 → x ≠ 2 → kerI t (i9 x) = false := fun x h0 h1 h2 => by
      cases e : kerI t (i9 x) with
      | false => rfl
      | true => exact absurd (fun a => S.ker_big ((ker_iff hN x).mp e) h0 h1 h2 a) hk
    have k3 : kerI t 3 = false := no 3 (by decide) (by decide) (by decide)
    have k4 : kerI t 4 = false := no 4 (by decide) (by decide) (by decide)
    have k5 : kerI t 5 = false := no 5 (by decide) (by decide) (by decide)
    have k6 : kerI t 6 = false := no 6 (by decide) (by decide) (by decide)
    have k7 : kerI t 7 = false := no 7 (by decide) (by decide) (by decide)
    have k8 : kerI t 8 = false := no 8 (by decide) (by decide) (by decide)
    simp [e9, List.filter, k0, k1, k2, k3, k4, k5, k6, k7, k8]
theorem FnKernel_end {t : List Int} (h : sysI t = true) : Ev (fun k => laws_FnKernel.l1 k t (e9.filter (kerI t)) (mk (e9.filter (kerI t))) ((e9.filter (kerI t)).length : Int)) true := by
  obtain ⟨hN, S⟩ := sys_iff.mp h
  have k0 : (0 : Int) ∈ e9.filter (kerI t) := mem_ker.mpr ⟨by omega, (ker_iff hN 0).mpr S.ker_zero⟩
  have k1 : (1 : Int) ∈ e9.filter (kerI t) := mem_ker.mpr ⟨by omega, (ker_iff hN 1).mpr S.ker_one⟩
  have hlen := ker_len h
  refine Ev.step (fun k => laws_FnKernel.l1.eq_2 ..) (Ev.neg (by omega) ?_)
  unfold impl_SystemBoth.f impl_SystemBrackets.f
  rw [mk_len, mk_rd _ (by omega) (by omega), mk_rd _ (by omega) (by omega), decide_eq_true k0, decide_eq_true k1, hlen, h, Bool.true_and, Bool.true_and]
  cases hB : all3 (bothI t) with
  | true =>
    refine Ev.some' (Ev.pos rfl (Ev.some' (Ev.pos (by omega) (Ev.pos rfl (Ev.pos (by omega) (Ev.pos rfl ?_))))))
    cases hR : all3 (brkI t) with
    | true => exact Ev.neg (by decide) (Ev.pos (by decide) (Ev.now _))
    | false => exact Ev.pos (by decide) (Ev.now _)
  | false =>
    refine Ev.some' (Ev.neg (by decide) (Ev.pos (by omega) (Ev.pos rfl (Ev.pos (by omega) (Ev.pos rfl (Ev.pos (by rw [Bool.false_and]; decide) (by rw [Bool.false_and]; exact Ev.now _)))))))
theorem FnKernel_pairs {t : List Int} (h : sysI t = true) : Ev (fun k => laws_FnKernel.l1 k t (e9.filter (kerI t)) (mk (e9.filter (kerI t))) 0) true := by
  obtain ⟨hN, S⟩ := sys_iff.mp h
  have hl := len81 hN
  have hx := filter_len (kerI t) 9
  rw [show (9 : Int).toNat = 9 from rfl, e9_all] at hx
  refine loop_go (g := fun k i => laws_FnKernel.l1 k t (e9.filter (kerI t)) (mk (e9.filter (kerI t))) i) (N := (e9.filter (kerI t)).length) (by omega) ?_ (FnKernel_end h)
  intro i i0 i1 hgo
  refine Ev.step (fun k => laws_FnKernel.l1.eq_2 ..) (Ev.pos i1 ?_)
  refine loop_go (g := fun k j => laws_FnKernel.l2 k t (e9.filter (kerI t)) (mk (e9.filter (kerI t))) i j) (N := (e9.filter (kerI t)).length) (by omega) ?_ ?_
  · intro j j0 j1 hg
    obtain ⟨⟨a0, a1⟩, ka⟩ := mem_ker.mp (mem_of_rd i0 i1)
    obtain ⟨⟨b0, b1⟩, kb⟩ := mem_ker.mp (mem_of_rd j0 j1)
    refine Ev.step (fun k => laws_FnKernel.l2.eq_2 ..) (Ev.pos j1 (Ev.pos i0 (Ev.pos i1 (Ev.pos j0 ?_))))
    generalize rd (e9.filter (kerI t)) i = a at *
    generalize rd (e9.filter (kerI t)) j = b at *
    have m := addP_mem a0 a1 b0 b1
    have r := rd_mem hN (9 * a + b)
    have s1 : addP a b ∈ e9.filter (kerI t) := by
      refine mem_ker.mpr ⟨m, ?_⟩
      obtain ⟨x, rfl⟩ := ex9 a0 a1
      obtain ⟨y, rfl⟩ := ex9 b0 b1
      rw [add_i9]
      exact (ker_iff hN _).mpr (S.ker_ad ((ker_iff hN x).mp ka) ((ker_iff hN y).mp kb))
    have s2 : rd t (9 * a + b) ∈ e9.filter (kerI t) := by
      refine mem_ker.mpr ⟨r, ?_⟩
      obtain ⟨x, rfl⟩ := ex9 a0 a1
      obtain ⟨y, rfl⟩ := ex9 b0 b1
      rw [rd_i9 hN]
      exact (ker_iff hN _).mpr (Sys.ker_m ((ker_iff hN x).mp ka) ((ker_iff hN y).mp kb))
    rw [nineAdd a0 a1 b0 b1]
    refine Ev.some' ?_
    rw [mk_len, mk_rd _ m.1 m.2, decide_eq_true s1, w9c a0 a1 b0 b1, mk_rd _ r.1 r.2, decide_eq_true s2, w1 j0 (by omega)]
    exact Ev.pos m.1 (Ev.pos (by omega) (Ev.pos rfl (Ev.pos (by omega) (Ev.pos (by omega) (Ev.pos r.1 (Ev.pos (by omega) (Ev.pos rfl hg)))))))
  · refine Ev.step (fun k => laws_FnKernel.l2.eq_2 ..) (Ev.neg (by omega) ?_)
    rw [w1 i0 (by omega)]
    exact hgo
theorem FnKernel_rows {t : List Int} (h : sysI t = true) : Ev (fun k => laws_FnKernel.l0 k t (e9.filter (kerI t)) (mk []) 0) true := by
  have hx := filter_len (kerI t) 9
  rw [show (9 : Int).toNat = 9 from rfl, e9_all] at hx
  refine loop_from (g := fun k (x : List Bool) i => laws_FnKernel.l0 k t (e9.filter (kerI t)) x i) (N := (e9.filter (kerI t)).length) (acc := fun i => mk ((e9.filter (kerI t)).take i.toNat)) (s := 0) (by omega) ?_ ?_
  · intro i i0 i1 hg
    have m := (mem_ker.mp (mem_of_rd i0 i1)).1
    refine Ev.step (fun k => laws_FnKernel.l0.eq_2 ..) (Ev.pos i1 (Ev.pos i0 ?_))
    rw [take_rd _ i0 i1, ← mk_set _ m.1 m.2] at hg
    rw [mk_len, w1 i0 (by omega)]
    exact Ev.pos m.1 (Ev.pos (by omega) hg)
  · refine Ev.step (fun k => laws_FnKernel.l0.eq_2 ..) (Ev.neg (by omega) ?_)
    simp only [Int.toNat_natCast, List.take_length]
    exact FnKernel_pairs h
theorem FnKernel : laws_FnKernel.Pure := by
  intro l hl _ hb
  apply Ev.rounds
  unfold laws_FnKernel.f spec_DrawSystemKernel.f
  refine of_draw (f := fun k x => (spec_l91System.f k x.1 x.2).bind fun y => some y.1) hl hb fun b hb' hl' => ?_
  obtain ⟨t, ht, hn⟩ := one_draw hb' hl'
  refine ⟨t, ht, ?_⟩
  have hx := filter_len (kerI t) 9
  rw [show (9 : Int).toNat = 9 from rfl, e9_all] at hx
  have hs := kernel_ev hn
  unfold impl_SystemKernel.f impl_isSystem.f impl_kernel.f
  cases h : sysI t with
  | false =>
    rw [h, if_neg (by decide)] at hs
    refine Ev.bind (Ev.some' (Ev.neg (by decide) (Ev.now _))) (Ev.bind hs (Ev.neg (by decide) (Ev.bind (same_ev (by show (0 : Int) ≤ _; omega)) (Ev.pos rfl ?_))))
    exact Ev.step (fun k => laws_FnKernel.j0.eq_2 ..) (Ev.pos rfl (Ev.pos rfl (Ev.bind (same_ev (by show (0 : Int) ≤ _; omega)) (Ev.now _))))
  | true =>
    have hN := sysI_nines h
    rw [h, if_pos rfl] at hs
    rw [if_pos hN]
    refine Ev.bind (Ev.some' (Ev.pos rfl (Ev.some' (Ev.now _)))) (Ev.bind hs (Ev.neg Bool.false_ne_true (Ev.bind (same_ev (by show ((e9.filter (kerI t)).length : Int) ≤ _; omega)) (Ev.pos rfl ?_))))
    refine Ev.step (fun k => laws_FnKernel.j0.eq_2 ..) (Ev.neg Bool.false_ne_true (Ev.pos (by decide) ?_))
    rw [mk_nil]
    exact FnKernel_rows h

end Go.Proofs.Yteioeojpomahgaa.Pure
