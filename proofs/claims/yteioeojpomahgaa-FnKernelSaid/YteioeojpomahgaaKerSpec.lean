/- What the reference computes of a system: both sides' sharing, brackets, solving, swaps, centre and kernel, in terms of the tests that the program's own functions are told by. Conditions: the table's length is an int's. -/
import Derived.Test.YteioeojpomahgaaSpecSys
import Derived.Test.YteioeojpomahgaaBrg
import Derived.Test.YteioeojpomahgaaPx7
import Derived.Test.YteioeojpomahgaaPx8
import Derived.Test.YteioeojpomahgaaPx10
set_option linter.unusedVariables false
set_option linter.unusedSimpArgs false
namespace Go.Proofs.Yteioeojpomahgaa.Pure
open Go.RowKit Go.Proofs.Yteioeojpomahgaa.P Go.Proofs.Yteioeojpomahgaa.Nine Go.Proofs.YteioeojpomahgaaW.PrintWords Go.Proofs.YteioeojpomahgaaW.PrintLast

theorem sysI_nines {l : List Int} (h : sysI l = true) : nines l 81 = true := (sys_iff.mp h).1
theorem filter_len (p : Int → Bool) (i : Int) : ((e9.take i.toNat).filter p).length ≤ 9 := by
  have h2 := List.length_filter_le p (e9.take i.toNat)
  have h3 := List.length_take_le i.toNat e9
  have h4 : (e9.take i.toNat).length ≤ e9.length := by rw [List.length_take]; omega
  have h5 : e9.length = 9 := rfl
  omega
theorem filter_step (p : Int → Bool) {i : Int} (h0 : 0 ≤ i) (h1 : i < 9) : (e9.take (i + 1).toNat).filter p = if p i = true then (e9.take i.toNat).filter p ++ [i] else (e9.take i.toNat).filter p := by
  rw [e9_take h0 h1, List.filter_append]
  cases h : p i with
  | true => simp [h]
  | false => simp [h]
theorem filter_all (p : Int → Bool) : (((e9.filter p).length : Int) == 9) = e9.all p := by
  rw [Bool.eq_iff_iff, beq_iff_eq, List.all_eq_true, ← List.length_filter_eq_length_iff]
  have : e9.length = 9 := rfl
  omega
theorem l2Kernel_ev {l : List Int} (hn : nines l 81 = true) {c : Int} (c0 : 0 ≤ c) (c1 : c ≤ 8) : Ev (fun k => spec_l2Kernel.f k l c) (kerI l c) := by
  have hl := len81 hn
  have R := fun i => rd_mem hn i
  have K : kerI l c = e9.all fun a => e9.all fun b => kerP l c a b 0 := by
    rw [Bool.eq_iff_iff]
    unfold kerI
    rw [all3_iff, all9_iff]
    simp only [all9_iff]
    exact ⟨fun h a a0 a1 b b0 b1 => h a b 0 a0 a1 b0 b1 (by omega) (by omega), fun h a b _ a0 a1 b0 b1 _ _ => h a a0 a1 b b0 b1⟩
  have st : ∀ a b, 0 ≤ a → a ≤ 8 → 0 ≤ b → b ≤ 8 → ∀ r s, (kerP l c a b 0 = true → Ev (fun k => spec_l2Kernel.l1 k l c a (b + 1)) r) → (kerP l c a b 0 = false → s = false) → (kerP l c a b 0 = true → s = r) → Ev (fun k => spec_l2Kernel.l1 k l c a b) s := by
    intro a b a0 a1 b0 b1 r s hy hf ht
    refine Ev.step (fun k => spec_l2Kernel.l1.eq_2 ..) ?_
    have m := addP_mem a0 a1 b0 b1
    rw [w9c a0 a1 b0 b1, w9c c0 c1 (R _).1 (R _).2, w9c c0 c1 a0 a1, w9c (R _).1 (R _).2 b0 b1, addS_some a0 a1 b0 b1, w9c c0 c1 b0 b1]
    have r1 := R (9 * a + b)
    have r2 := R (9 * c + a)
    have r3 := R (9 * c + b)
    refine Ev.pos (by omega) (Ev.pos (by omega) (Ev.pos (by omega) (Ev.pos (by omega) (Ev.pos (by omega) (Ev.pos (by omega) (Ev.pos (by omega) (Ev.pos (by omega) (Ev.pos (by omega) ?_))))))))
    by_cases p1 : rd l (9 * c + rd l (9 * a + b)) = rd l (9 * rd l (9 * c + a) + b)
    · refine Ev.pos p1 (Ev.some' ?_)
      rw [w9c c0 c1 m.1 m.2, addS_some r2.1 r2.2 r3.1 r3.2, w1 b0 (by omega)]
      refine Ev.pos (by omega) (Ev.pos (by omega) (Ev.pos (by omega) (Ev.pos (by omega) (Ev.some' ?_))))
      by_cases p2 : rd l (9 * c + addP a b) = addP (rd l (9 * c + a)) (rd l (9 * c + b))
      · have hk : kerP l c a b 0 = true := by unfold kerP; rw [decide_eq_true p1, decide_eq_true p2]; rfl
        rw [ht hk]
        exact Ev.pos p2 (hy hk)
      · rw [hf (by unfold kerP; rw [decide_eq_true p1, decide_eq_false p2]; rfl)]
        exact Ev.neg p2 (Ev.now _)
    · rw [hf (by unfold kerP; rw [decide_eq_false p1]; rfl)]
      exact Ev.neg p1 (Ev.now _)
  rw [K]
  refine loop_if (g := fun k i => spec_l2Kernel.l0 k l c i) (N := 9) (p := fun a => e9.all fun b => kerP l c a b 0) (r := true) (stop := false) (by omega) ?_ ?_ ?_ (q := _) (by rw [all9_iff]; exact ⟨fun h j h0 h1 => h j h0 (by omega), fun h j h0 h1 => h j h0 (by omega)⟩) (by split <;> simp_all)
  · intro s a a0 a1 hp h
    have hp := all9_iff.mp hp
    refine Ev.step (fun k => spec_l2Kernel.l0.eq_2 ..) (Ev.pos a1 ?_)
    refine loop_all (g := fun k i => spec_l2Kernel.l1 k l c a i) (N := 9) (p := fun b => kerP l c a b 0) (by omega) ?_ (fun b b0 b1 => hp b b0 (by omega)) ?_
    · intro b b0 b1 hb h
      exact st a b a0 (by omega) b0 (by omega) s s (fun _ => h) (fun h' => by rw [hb] at h'; cases h') (fun _ => rfl)
    · refine Ev.step (fun k => spec_l2Kernel.l1.eq_2 ..) (Ev.neg (by omega) ?_)
      rw [w1 a0 (by omega)]
      exact h
  · intro a a0 a1 hp
    refine Ev.step (fun k => spec_l2Kernel.l0.eq_2 ..) (Ev.pos a1 ?_)
    have : ∃ b, 0 ≤ b ∧ b < 9 ∧ kerP l c a b 0 = false := Classical.byContradiction fun hn' => by
      have : (e9.all fun b => kerP l c a b 0) = true := all9_iff.mpr fun b b0 b1 => by
        cases ho : kerP l c a b 0 with
        | true => rfl
        | false => exact absurd ⟨b, b0, by omega, ho⟩ hn'
      rw [this] at hp
      cases hp
    obtain ⟨b, b0, b1, hb⟩ := this
    refine loop_stop (g := fun k i => spec_l2Kernel.l1 k l c a i) (N := 9) (p := fun b => kerP l c a b 0) ?_ ?_ b0 b1 hb
    · intro b b0 b1 hb h
      exact st a b a0 (by omega) b0 (by omega) false false (fun _ => h) (fun _ => rfl) (fun _ => rfl)
    · intro b b0 b1 hb
      exact st a b a0 (by omega) b0 (by omega) false false (fun h' => by rw [hb] at h'; cases h') (fun _ => rfl) (fun _ => rfl)
  · intro _
    refine Ev.step (fun k => spec_l2Kernel.l0.eq_2 ..) ?_
    exact Ev.neg (by omega) (Ev.now _)
theorem kernel_ev {l : List Int} (hl : (l.length : Int) ≤ 9223372036854775806) : Ev (fun k => spec_SystemKernel.f k l) (if sysI l = true then (e9.filter (kerI l), true) else ([], false)) := by
  unfold spec_SystemKernel.f
  refine Ev.some' (Ev.bind (sysIn_ev hl) ?_)
  cases hs : sysI l with
  | false => exact Ev.neg (by decide) (Ev.now _)
  | true =>
    have hn := sysI_nines hs
    refine Ev.pos rfl ?_
    refine loop_gather (g := fun k x i => spec_SystemKernel.l0 k l x i) (N := 9) (acc := fun i => (e9.take i.toNat).filter (kerI l)) (by omega) ?_ ?_
    · intro i h0 h1 h
      refine Ev.step (fun k => spec_SystemKernel.l0.eq_2 ..) ?_
      refine Ev.pos h1 (Ev.bind (l2Kernel_ev hn h0 (by omega)) ?_)
      rw [w1 h0 (by omega)]
      have := filter_len (kerI l) i
      rw [filter_step _ h0 h1] at h
      cases hc : kerI l i with
      | true =>
        rw [hc, if_pos rfl] at h
        exact Ev.pos rfl (Ev.pos (by omega) h)
      | false =>
        rw [hc, if_neg (by decide)] at h
        exact Ev.neg (by decide) h
    · refine Ev.step (fun k => spec_SystemKernel.l0.eq_2 ..) ?_
      exact Ev.neg (by omega) (Ev.now _)

end Go.Proofs.Yteioeojpomahgaa.Pure
