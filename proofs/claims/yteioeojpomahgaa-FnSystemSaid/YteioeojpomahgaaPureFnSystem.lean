/- Systems are quasifields: in each, all rows and columns but those of 0 have each element once. No conditions. -/
import Derived.Test.YteioeojpomahgaaPx25
import Derived.Test.YteioeojpomahgaaSpecSys2
import Derived.Test.YteioeojpomahgaaEvMore
import Derived.Test.YteioeojpomahgaaDrawSys
set_option linter.unusedVariables false
set_option linter.unusedSimpArgs false
namespace Go.Proofs.Yteioeojpomahgaa.Pure
open Go.RowKit Go.Proofs.Yteioeojpomahgaa.P Go.Proofs.Yteioeojpomahgaa.Nine Go.Proofs.YteioeojpomahgaaW.PrintWords Go.Proofs.YteioeojpomahgaaW.PrintLast

theorem FnSystem_rows {t : List Int} (h : sysI t = true) : Ev (fun k => laws_FnSystem.l0 k t 1) true := by
  obtain ⟨hn, S⟩ := sys_iff.mp h
  have hl := len81 hn
  have R := fun i => rd_mem hn i
  refine loop_go (g := fun k i => laws_FnSystem.l0 k t i) (N := 9) (by omega) ?_ ?_
  · intro c c0 c1 hgo
    refine Ev.step (fun k => laws_FnSystem.l0.eq_2 ..) (Ev.pos c1 (Ev.pos (by decide) ?_))
    rw [mk_nil]
    have nz : f9 c.toNat ≠ 0 := fun e => by
      have := i9_f9 (a := c) (by omega) (by omega)
      rw [e] at this
      exact absurd this.symm (by show ¬ c = 0; omega)
    have row : ∀ i j, 0 ≤ i → i ≤ 8 → 0 ≤ j → j ≤ 8 → rd t (9 * c + i) = rd t (9 * c + j) → i = j := by
      intro i j i0 i1 j0 j1 e
      obtain ⟨i, rfl⟩ := ex9 i0 i1
      obtain ⟨j, rfl⟩ := ex9 j0 j1
      obtain ⟨c, rfl⟩ := ex9 (a := c) (by omega) (by omega)
      rw [f9_i9] at nz
      rw [rd_i9 hn, rd_i9 hn] at e
      rw [S.row nz (i9_inj e)]
    have col : ∀ i j, 0 ≤ i → i ≤ 8 → 0 ≤ j → j ≤ 8 → rd t (9 * i + c) = rd t (9 * j + c) → i = j := by
      intro i j i0 i1 j0 j1 e
      obtain ⟨i, rfl⟩ := ex9 i0 i1
      obtain ⟨j, rfl⟩ := ex9 j0 j1
      obtain ⟨c, rfl⟩ := ex9 (a := c) (by omega) (by omega)
      rw [f9_i9] at nz
      rw [rd_i9 hn, rd_i9 hn] at e
      rw [S.col nz (i9_inj e)]
    have fresh : ∀ (f : Int → Int) (i : Int), 0 ≤ i → i < 9 → (∀ x y, 0 ≤ x → x ≤ 8 → 0 ≤ y → y ≤ 8 → f x = f y → x = y) → f i ∉ (e9.take i.toNat).map f := by
      intro f i i0 i1 hf hm
      obtain ⟨j, hj, e⟩ := List.mem_map.mp hm
      have j9 := mem_e9.mp (List.mem_of_mem_take hj)
      have := hf j i j9.1 j9.2 i0 (by omega) e
      subst this
      have : ∀ n : Nat, n < 9 → (n : Int) ∉ e9.take n := by decide
      exact this j.toNat (by omega) (by rw [Int.toNat_of_nonneg i0]; exact hj)
    refine loop_from (g := fun k (x : List Bool × List Bool) i => laws_FnSystem.l1 k t c x.1 x.2 i) (N := 9) (acc := fun i => (mk ((e9.take i.toNat).map fun y => rd t (9 * c + y)), mk ((e9.take i.toNat).map fun y => rd t (9 * y + c)))) (s := 0) (by omega) ?_ ?_
    · intro i i0 i1 hg
      refine Ev.step (fun k => laws_FnSystem.l1.eq_2 ..) (Ev.pos i1 ?_)
      simp only
      have r1 := R (9 * c + i)
      have r2 := R (9 * i + c)
      rw [w9c (x := c) (c := i) (by omega) (by omega) i0 (by omega), w9c (x := i) (c := c) i0 (by omega) (by omega) (by omega), w1 (i := i) i0 (by omega), mk_rd _ r1.1 r1.2, mk_rd _ r2.1 r2.2, mk_set _ r1.1 r1.2, mk_set _ r2.1 r2.2, mk_len, mk_len]
      have e1 := fresh (fun y => rd t (9 * c + y)) i i0 i1 row
      have e2 := fresh (fun y => rd t (9 * y + c)) i i0 i1 col
      simp only [e9_take i0 i1, List.map_append, List.map_cons, List.map_nil] at hg
      exact Ev.pos (by omega) (Ev.pos (by omega) (Ev.pos (by omega) (Ev.pos (by omega) (Ev.neg (by simpa using e1) (Ev.pos (by omega) (Ev.pos (by omega) (Ev.pos (by omega) (Ev.pos (by omega) (Ev.neg (by simpa using e2) hg)))))))))
    · refine Ev.step (fun k => laws_FnSystem.l1.eq_2 ..) (Ev.neg (by omega) ?_)
      rw [w1 (by omega) (by omega)]
      exact hgo
  · refine Ev.step (fun k => laws_FnSystem.l0.eq_2 ..) (Ev.neg (by omega) ?_)
    rw [show ((t.length : Int) == 81) = true from beq_iff_eq.mpr hl]
    exact Ev.now _
theorem FnSystem : laws_FnSystem.Pure := by
  intro l hl _ hb
  apply Ev.rounds
  unfold laws_FnSystem.f spec_DrawSystemIn.f
  refine of_draw (f := fun k x => (spec_l91System.f k x.1 x.2).bind fun y => some y.1) hl hb fun b hb' hl' => ?_
  obtain ⟨t, ht, hn⟩ := one_draw hb' hl'
  refine ⟨t, ht, ?_⟩
  unfold impl_SystemIn.f impl_isSystem.f
  refine Ev.some' (Ev.some' (Ev.bind (sysIn_ev hn) ?_))
  cases h : sysI t with
  | false => exact Ev.neg (by decide) (Ev.step (fun k => laws_FnSystem.j0.eq_2 ..) (Ev.pos rfl (Ev.now _)))
  | true => exact Ev.neg (by decide) (Ev.step (fun k => laws_FnSystem.j0.eq_2 ..) (Ev.neg (by decide) (FnSystem_rows h)))

end Go.Proofs.Yteioeojpomahgaa.Pure
