/- What the program's tests of a table say of the table that the list holds. Conditions: where it says so, the list is one of 81 elements. What the reference computes of a table: whether it is a system, solved products, centre and kernel, in terms of the tests that the program's own functions are told by. Conditions: the table's length is an int's, and where it says so the table is one of 81 elements. -/
import Derived.Test.YtiobhhcbdcbajaaAlgA
import Derived.Test.YtiobhhcbdcbajaaPx4
import Derived.Test.YtiobhhcbdcbajaaEvA
import Derived.Test.YtiobhhcbdcbajaaPx1
import Derived.Test.YtiobhhcbdcbajaaPx5
import Derived.Test.YtiobhhcbdcbajaaPx6
set_option linter.unusedVariables false
set_option linter.unusedSimpArgs false
set_option linter.unusedSectionVars false
namespace Go.Proofs.Ytiobhhcbdcbajaa.Nine
open Go.RowKit Go.Proofs.Ytiobhhcbdcbajaa.P Go.Proofs.YtiobhhcbdcbajaaW.PrintWords

/-! from lists to tables -/
def mOf (l : List Int) (a b : Fin 9) : Fin 9 := f9 (rd l (9 * (a.1 : Int) + (b.1 : Int))).toNat
def i9 (a : Fin 9) : Int := (a.1 : Int)
theorem i9_mem (a : Fin 9) : 0 ≤ i9 a ∧ i9 a ≤ 8 := by unfold i9; have := a.2; omega
theorem i9_inj {a b : Fin 9} (h : i9 a = i9 b) : a = b := Fin.ext (by unfold i9 at h; omega)
theorem i9_f9 {a : Int} (h0 : 0 ≤ a) (h1 : a ≤ 8) : i9 (f9 a.toNat) = a := by unfold i9 f9; simp only; omega
theorem f9_i9 (a : Fin 9) : f9 (i9 a).toNat = a := by apply i9_inj; exact i9_f9 (i9_mem a).1 (i9_mem a).2
theorem ex9 {a : Int} (h0 : 0 ≤ a) (h1 : a ≤ 8) : ∃ x : Fin 9, i9 x = a := ⟨_, i9_f9 h0 h1⟩
theorem add_i9 : ∀ a b : Fin 9, addP (i9 a) (i9 b) = i9 (ad a b) := by decide +kernel
theorem minus_i9 : ∀ a : Fin 9, minusP (i9 a) = i9 (ng a) := by decide +kernel
theorem rd_i9 {l : List Int} {n : Int} (h : nines l n = true) (a b : Fin 9) : rd l (9 * i9 a + i9 b) = i9 (mOf l a b) := by
  have := rd_mem h (9 * i9 a + i9 b)
  exact (i9_f9 this.1 this.2).symm
theorem dec_i9 {a b : Fin 9} : decide (i9 a = i9 b) = true ↔ a = b := by
  rw [decide_eq_true_eq]
  exact ⟨i9_inj, fun h => h ▸ rfl⟩
theorem all9_fin {p : Int → Bool} : e9.all p = true ↔ ∀ a : Fin 9, p (i9 a) = true := by
  rw [all9_iff]
  exact ⟨fun h a => h _ (i9_mem a).1 (i9_mem a).2, fun h a h0 h1 => by obtain ⟨x, rfl⟩ := ex9 h0 h1; exact h x⟩
theorem all3_fin {p : Int → Int → Int → Bool} : all3 p = true ↔ ∀ a b c : Fin 9, p (i9 a) (i9 b) (i9 c) = true := by
  unfold all3
  simp only [all9_fin]
theorem once_fin {f : Int → Int} {g : Fin 9 → Fin 9} (h : ∀ a, f (i9 a) = i9 (g a)) : once f = true ↔ ∀ x y, g x = g y → x = y := by
  unfold once
  simp only [all9_fin, h, Bool.or_eq_true, decide_eq_true_eq]
  constructor
  · intro H x y e
    rcases H x y with h' | h'
    · exact i9_inj h'
    · exact absurd (by rw [e]) h'
  · intro H x y
    by_cases e : x = y
    · exact .inl (by rw [e])
    · exact .inr fun e' => e (H x y (i9_inj e'))
theorem sys_iff {l : List Int} : sysI l = true ↔ nines l 81 = true ∧ Sys (mOf l) := by
  unfold sysI
  rw [Bool.and_eq_true]
  refine and_congr_right fun hn => ?_
  have R := fun a b => rd_i9 hn a b
  have r0 : ∀ a : Fin 9, rd l (i9 a) = i9 (mOf l 0 a) := fun a => by rw [← R, show i9 0 = 0 from rfl]; first | rfl | (congr 1; omega)
  have r1 : ∀ a : Fin 9, rd l (9 * i9 a) = i9 (mOf l a 0) := fun a => by rw [← R, show i9 0 = 0 from rfl]; first | rfl | (congr 1; omega)
  have r2 : ∀ a : Fin 9, rd l (9 + i9 a) = i9 (mOf l 1 a) := fun a => (R _ _).symm ▸ rfl
  have r3 : ∀ a : Fin 9, rd l (9 * i9 a + 1) = i9 (mOf l a 1) := fun a => (R _ _).symm ▸ rfl
  have z : ∀ a : Fin 9, i9 a = 0 ↔ a = 0 := fun a => ⟨fun e => i9_inj e, fun e => by rw [e]; rfl⟩
  have hu : e9.all (unitI l) = true ↔ ∀ a, ((mOf l 0 a = 0 ∧ mOf l a 0 = 0) ∧ mOf l 1 a = a) ∧ mOf l a 1 = a := by
    rw [all9_fin]
    refine forall_congr' fun a => ?_
    simp only [unitI, Bool.and_eq_true, decide_eq_true_eq, r0, r1, r2, r3, z]
    exact ⟨fun ⟨h, d⟩ => ⟨⟨h.1, i9_inj h.2⟩, i9_inj d⟩, fun ⟨h, d⟩ => ⟨⟨h.1, by rw [h.2]⟩, by rw [d]⟩⟩
  have hs : all3 (shareI l) = true ↔ ∀ a b c, mOf l (ad a b) c = ad (mOf l a c) (mOf l b c) := by
    rw [all3_fin]
    refine forall_congr' fun a => forall_congr' fun b => forall_congr' fun c => ?_
    simp only [shareI, R, add_i9]
    exact dec_i9
  have ho : solveI l = true ↔ ∀ c d, d < c → ∀ x y, sb (mOf l x c) (mOf l x d) = sb (mOf l y c) (mOf l y d) → x = y := by
    unfold solveI
    rw [all9_fin]
    refine forall_congr' fun c => ?_
    rw [all9_fin]
    refine forall_congr' fun d => ?_
    rw [Bool.or_eq_true, once_fin (g := fun x => sb (mOf l x c) (mOf l x d)) (fun x => by simp only [lessI, R, add_i9, minus_i9, sb])]
    have hlt : (!decide (i9 d < i9 c)) = true ↔ ¬ d < c := by
      rw [Bool.not_eq_true', decide_eq_false_iff_not]
      exact not_congr (by unfold i9; exact Int.ofNat_lt)
    rw [hlt]
    exact ⟨fun h hd => h.elim (fun h' => absurd hd h') id, fun h => by
      by_cases hd : d < c
      · exact .inr (h hd)
      · exact .inl hd⟩
  rw [Bool.and_eq_true, Bool.and_eq_true, hu, hs, ho]
  exact ⟨fun ⟨u, s, o⟩ => ⟨fun a => (u a).1.1.1, fun a => (u a).1.1.2, fun a => (u a).1.2, fun a => (u a).2, s, o⟩, fun S => ⟨fun a => ⟨⟨⟨S.zl a, S.zr a⟩, S.ol a⟩, S.or a⟩, S.di, S.so⟩⟩
theorem both_iff {l : List Int} (hn : nines l 81 = true) : all3 (bothI l) = true ↔ Both (mOf l) := by
  rw [all3_fin]
  refine forall_congr' fun a => forall_congr' fun b => forall_congr' fun c => ?_
  simp only [bothI, rd_i9 hn, add_i9]
  exact dec_i9
theorem brk_iff {l : List Int} (hn : nines l 81 = true) : all3 (brkI l) = true ↔ Brk (mOf l) := by
  rw [all3_fin]
  refine forall_congr' fun a => forall_congr' fun b => forall_congr' fun c => ?_
  simp only [brkI, rd_i9 hn]
  exact dec_i9
theorem swp_iff {l : List Int} (hn : nines l 81 = true) : all3 (swpI l) = true ↔ Swp (mOf l) := by
  rw [all3_fin]
  refine forall_congr' fun a => forall_congr' fun b => ?_
  simp only [swpI, rd_i9 hn]
  exact ⟨fun h => dec_i9.mp (h 0), fun h _ => dec_i9.mpr h⟩
theorem cen_iff {l : List Int} (hn : nines l 81 = true) (k : Fin 9) : cenI l (i9 k) = true ↔ InCen (mOf l) k := by
  unfold cenI
  rw [all9_fin]
  refine forall_congr' fun a => ?_
  simp only [rd_i9 hn]
  exact dec_i9
theorem ker_iff {l : List Int} (hn : nines l 81 = true) (k : Fin 9) : kerI l (i9 k) = true ↔ InKer (mOf l) k := by
  unfold kerI
  rw [all3_fin]
  refine forall_congr' fun a => forall_congr' fun b => ?_
  simp only [kerP, rd_i9 hn, add_i9, Bool.and_eq_true]
  exact ⟨fun h => ⟨dec_i9.mp (h 0).1, dec_i9.mp (h 0).2⟩, fun h _ => ⟨dec_i9.mpr h.1, dec_i9.mpr h.2⟩⟩

end Go.Proofs.Ytiobhhcbdcbajaa.Nine

namespace Go.Proofs.Ytiobhhcbdcbajaa.Pure
open Go.RowKit Go.Proofs.Ytiobhhcbdcbajaa.P Go.Proofs.YtiobhhcbdcbajaaW.PrintWords Go.Proofs.YtiobhhcbdcbajaaW.PrintLast

theorem in_spec {a : Int} (h : 0 ≤ a ∧ a ≤ 8) : spec_l1In.f a = some true := by
  unfold spec_l1In.f spec_l6In.f
  rw [if_pos (by omega), decide_eq_true (by omega)]
  rfl
theorem out_spec {a : Int} (h : ¬ (0 ≤ a ∧ a ≤ 8)) : spec_l1In.f a = some false := by
  unfold spec_l1In.f spec_l6In.f
  split
  · rw [decide_eq_false (by omega)]
    rfl
  · rfl
theorem mem_rd {l : List Int} {a : Int} (h : a ∈ l) : ∃ i : Int, 0 ≤ i ∧ i < l.length ∧ rd l i = a := by
  obtain ⟨n, hn, e⟩ := List.getElem_of_mem h
  refine ⟨n, by omega, by omega, ?_⟩
  unfold rd
  rw [List.getD_eq_getElem?_getD, List.getElem?_eq_getElem (show (n : Int).toNat < l.length by omega)]
  exact e
theorem rd_of_lt {l : List Int} {i : Int} (h0 : 0 ≤ i) (h1 : i < l.length) : rd l i ∈ l := by
  unfold rd
  rw [List.getD_eq_getElem?_getD, List.getElem?_eq_getElem (show i.toNat < l.length by omega)]
  exact List.getElem_mem _
theorem len81 {l : List Int} (h : nines l 81 = true) : (l.length : Int) = 81 := (nines_iff.mp h).1

theorem table_ev {l : List Int} (hl : (l.length : Int) ≤ 9223372036854775806) : Ev (fun k => spec_l2Table.f k l) (nines l 81) := by
  have hq : (l.all fun a => decide (0 ≤ a) && decide (a < 9)) = true ↔ ∀ j : Int, 0 ≤ j → j < l.length → (decide (0 ≤ rd l j) && decide (rd l j < 9)) = true := by
    rw [List.all_eq_true]
    refine ⟨fun h j h0 h1 => h _ (rd_of_lt h0 h1), fun h a ha => ?_⟩
    obtain ⟨i, i0, i1, rfl⟩ := mem_rd ha
    exact h i i0 i1
  refine loop_if (g := fun k i => spec_l2Table.l0 k l i) (N := l.length) (p := fun j => decide (0 ≤ rd l j) && decide (rd l j < 9)) (r := ((l.length : Int) == 81)) (stop := false) (by omega) ?_ ?_ ?_ hq ?_
  · intro s i h0 h1 hp h
    simp only [Bool.and_eq_true, decide_eq_true_eq] at hp
    refine Ev.step (fun k => spec_l2Table.l0.eq_2 ..) ?_
    refine Ev.pos h1 (Ev.pos h0 ?_)
    rw [in_spec (by omega)]
    refine Ev.some' (Ev.pos rfl ?_)
    rw [w1 h0 (by omega)]
    exact h
  · intro i h0 h1 hp
    refine Ev.step (fun k => spec_l2Table.l0.eq_2 ..) ?_
    refine Ev.pos h1 (Ev.pos h0 ?_)
    rw [out_spec (by simp only [Bool.and_eq_false_iff, decide_eq_false_iff_not] at hp; omega)]
    exact Ev.some' (Ev.neg (by decide) (Ev.now _))
  · intro _
    refine Ev.step (fun k => spec_l2Table.l0.eq_2 ..) ?_
    exact Ev.neg (by omega) (Ev.now _)
  · unfold nines
    cases (l.all fun a => decide (0 ≤ a) && decide (a < 9)) with
    | true => rw [Bool.and_true, if_pos rfl]; rfl
    | false => rw [Bool.and_false]; rfl

theorem units_ev {l : List Int} (hn : nines l 81 = true) : Ev (fun k => spec_l2Units.f k l) (e9.all (unitI l)) := by
  have hl := len81 hn
  refine loop_if (g := fun k i => spec_l2Units.l0 k l i) (N := 9) (p := unitI l) (r := true) (stop := false) (by omega) ?_ ?_ ?_ (q := e9.all (unitI l)) (by rw [all9_iff]; exact ⟨fun h j h0 h1 => h j h0 (by omega), fun h j h0 h1 => h j h0 (by omega)⟩) (by cases e9.all (unitI l) <;> rfl)
  · intro s i h0 h1 hp h
    simp only [unitI, Bool.and_eq_true, decide_eq_true_eq] at hp
    obtain ⟨⟨⟨p1, p2⟩, p3⟩, p4⟩ := hp
    refine Ev.step (fun k => spec_l2Units.l0.eq_2 ..) ?_
    rw [w9 h0 (by omega), w9a h0 (by omega), w64 (n := 9 * i + 1) (by omega) (by omega), w1 h0 (by omega)]
    refine Ev.pos h1 (Ev.pos h0 (Ev.pos (by omega) (Ev.pos p1 (Ev.pos (by omega) (Ev.pos (by omega) (Ev.pos p2 (Ev.pos (by omega) (Ev.pos (by omega) (Ev.pos p3 (Ev.pos (by omega) (Ev.pos (by omega) (Ev.pos p4 ?_))))))))))))
    exact h
  · intro i h0 h1 hp
    refine Ev.step (fun k => spec_l2Units.l0.eq_2 ..) ?_
    rw [w9 h0 (by omega), w9a h0 (by omega), w64 (n := 9 * i + 1) (by omega) (by omega)]
    refine Ev.pos h1 (Ev.pos h0 (Ev.pos (by omega) ?_))
    by_cases p1 : rd l i = 0
    · refine Ev.pos p1 (Ev.pos (by omega) (Ev.pos (by omega) ?_))
      by_cases p2 : rd l (9 * i) = 0
      · refine Ev.pos p2 (Ev.pos (by omega) (Ev.pos (by omega) ?_))
        by_cases p3 : rd l (9 + i) = i
        · refine Ev.pos p3 (Ev.pos (by omega) (Ev.pos (by omega) ?_))
          by_cases p4 : rd l (9 * i + 1) = i
          · simp [unitI, p1, p2, p3, p4] at hp
          · exact Ev.neg p4 (Ev.now _)
        · exact Ev.neg p3 (Ev.now _)
      · exact Ev.neg p2 (Ev.now _)
    · exact Ev.neg p1 (Ev.now _)
  · intro _
    refine Ev.step (fun k => spec_l2Units.l0.eq_2 ..) ?_
    exact Ev.neg (by omega) (Ev.now _)

theorem solves_some {l : List Int} (hn : nines l 81 = true) {c d : Int} (c0 : 0 ≤ c) (c1 : c ≤ 8) (d0 : 0 ≤ d) (d1 : d ≤ 8) : spec_l2Solves.f l c d = some (once (lessI l c d)) := by
  unfold spec_l2Solves.f
  rw [if_pos ⟨hn, c0, c1, d0, d1⟩]
theorem solve_ev {l : List Int} (hn : nines l 81 = true) : Ev (fun k => spec_SystemIn.l0 k l 0) (solveI l) := by
  refine loop_if (g := fun k i => spec_SystemIn.l0 k l i) (N := 9) (p := fun c => e9.all fun d => !(decide (d < c)) || once (lessI l c d)) (r := true) (stop := false) (by omega) ?_ ?_ ?_ (q := solveI l) (by unfold solveI; rw [all9_iff]; exact ⟨fun h j h0 h1 => h j h0 (by omega), fun h j h0 h1 => h j h0 (by omega)⟩) (by cases solveI l <;> rfl)
  · intro s c c0 c1 hp h
    have hp := all9_iff.mp hp
    refine Ev.step (fun k => spec_SystemIn.l0.eq_2 ..) ?_
    refine Ev.pos c1 ?_
    refine loop_all (g := fun k i => spec_SystemIn.l1 k l c i) (N := c) (p := fun d => once (lessI l c d)) c0 ?_ (fun d d0 d1 => by have := hp d d0 (by omega); rw [decide_eq_true d1] at this; exact this) ?_
    · intro d d0 d1 hd h
      refine Ev.step (fun k => spec_SystemIn.l1.eq_2 ..) ?_
      refine Ev.pos d1 ?_
      rw [solves_some hn c0 (by omega) d0 (by omega), hd]
      refine Ev.some' (Ev.pos rfl ?_)
      rw [w1 d0 (by omega)]
      exact h
    · refine Ev.step (fun k => spec_SystemIn.l1.eq_2 ..) ?_
      refine Ev.neg (by omega) ?_
      rw [w1 c0 (by omega)]
      exact h
  · intro c c0 c1 hp
    refine Ev.step (fun k => spec_SystemIn.l0.eq_2 ..) ?_
    refine Ev.pos c1 ?_
    have : ∃ d, 0 ≤ d ∧ d < c ∧ once (lessI l c d) = false := Classical.byContradiction fun hn' => by
      have : (e9.all fun d => !(decide (d < c)) || once (lessI l c d)) = true := all9_iff.mpr fun d d0 d1 => by
        by_cases hd : d < c
        · cases ho : once (lessI l c d) with
          | true => simp
          | false => exact absurd ⟨d, d0, hd, ho⟩ hn'
        · simp [hd]
      rw [this] at hp
      cases hp
    obtain ⟨d, d0, d1, hd⟩ := this
    refine loop_stop (g := fun k i => spec_SystemIn.l1 k l c i) (N := c) (p := fun d => once (lessI l c d)) ?_ ?_ d0 d1 hd
    · intro d d0 d1 hd h
      refine Ev.step (fun k => spec_SystemIn.l1.eq_2 ..) ?_
      refine Ev.pos d1 ?_
      rw [solves_some hn c0 (by omega) d0 (by omega), hd]
      refine Ev.some' (Ev.pos rfl ?_)
      rw [w1 d0 (by omega)]
      exact h
    · intro d d0 d1 hd
      refine Ev.step (fun k => spec_SystemIn.l1.eq_2 ..) ?_
      refine Ev.pos d1 ?_
      rw [solves_some hn c0 (by omega) d0 (by omega), hd]
      exact Ev.some' (Ev.neg (by decide) (Ev.now _))
  · intro _
    refine Ev.step (fun k => spec_SystemIn.l0.eq_2 ..) ?_
    exact Ev.neg (by omega) (Ev.now _)
/-- The reference's SystemIn tells what the program's tells. -/
theorem sysIn_ev {l : List Int} (hl : (l.length : Int) ≤ 9223372036854775806) : Ev (fun k => spec_SystemIn.f k l) (sysI l) := by
  have no : Ev (fun k => spec_SystemIn.j0 k l true) false := Ev.step (fun k => spec_SystemIn.j0.eq_2 ..) (Ev.pos rfl (Ev.now _))
  unfold spec_SystemIn.f
  refine Ev.bind (table_ev hl) ?_
  unfold sysI
  cases hn : nines l 81 with
  | false => exact Ev.neg (by decide) no
  | true =>
    refine Ev.pos rfl (Ev.bind (units_ev hn) ?_)
    cases hu : e9.all (unitI l) with
    | false => exact Ev.neg (by decide) no
    | true =>
      refine Ev.pos rfl ?_
      rw [show spec_l2Shares.f l = some (all3 (shareI l)) by unfold spec_l2Shares.f; rw [if_pos hn]]
      refine Ev.some' ?_
      cases hs : all3 (shareI l) with
      | false => exact no
      | true =>
        refine Ev.step (fun k => spec_SystemIn.j0.eq_2 ..) (Ev.neg (by decide) ?_)
        exact solve_ev hn

end Go.Proofs.Ytiobhhcbdcbajaa.Pure
