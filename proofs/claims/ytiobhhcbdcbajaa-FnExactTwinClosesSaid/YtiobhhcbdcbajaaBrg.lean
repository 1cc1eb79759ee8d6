/- What the program's tests of a table say of the table that the list holds. Conditions: where it says so, the list is one of 81 elements. -/
import Derived.Test.YtiobhhcbdcbajaaAlg2
import Derived.Test.YtiobhhcbdcbajaaPx4
set_option linter.unusedVariables false
set_option linter.unusedSimpArgs false
namespace Go.Proofs.Ytiobhhcbdcbajaa.Nine
open Go.RowKit Go.Proofs.Ytiobhhcbdcbajaa.P Go.Proofs.YtiobhhcbdcbajaaW.PrintWords

/-! from lists to tables -/
def mOf (l : List Int) (a b : Fin 9) : Fin 9 := f9 (rd l (9 * (a.1 : Int) + (b.1 : Int))).toNat
def i9 (a : Fin 9) : Int := (a.1 : Int)
theorem i9_mem (a : Fin 9) : 0 ≤ i9 a ∧ i9 a ≤ 8 := by unfold i9; have := a.2; omega
theorem i9_inj {a b : Fin 9} (h : i9 a = i9 b) : a = b := Fin.ext (by unfold i9 at h; omega)
theorem i9_f9 {a : Int} (h0 : 0 ≤ a) (h1 : a ≤ 8) : i9 (f9 a.toNat) = a := by unfold i9 f9; simp only; omega
theorem f9_i9 (a : Fin 9) : f9 (i9 a).toNat = a := by apply i9_inj; exact i9_f9 (i9_mem a).1 (i9_mem a).2
theorem ex9 {a : Int} (h0 : 0 ≤ a) (h1 : a ≤ 8) : ∃ x : Fin 9, i9 x = a := ⟨_, i9_f9 h0 h1⟩
theorem add_i9 : ∀ a b : Fin 9, addP (i9 a) (i9 b) = i9 (ad a b) := by decide +kernel
theorem minus_i9 : ∀ a : Fin 9, minusP (i9 a) = i9 (ng a) := by decide +kernel
theorem rd_i9 {l : List Int} {n : Int} (h : nines l n = true) (a b : Fin 9) : rd l (9 * i9 a + i9 b) = i9 (mOf l a b) := by
  have := rd_mem h (9 * i9 a + i9 b)
  exact (i9_f9 this.1 this.2).symm
theorem dec_i9 {a b : Fin 9} : decide (i9 a = i9 b) = true ↔ a = b := by
  rw [decide_eq_true_eq]
  exact ⟨i9_inj, fun h => h ▸ rfl⟩
theorem all9_fin {p : Int → Bool} : e9.all p = true ↔ ∀ a : Fin 9, p (i9 a) = true := by
  rw [all9_iff]
  exact ⟨fun h a => h _ (i9_mem a).1 (i9_mem a).2, fun h a h0 h1 => by obtain ⟨x, rfl⟩ := ex9 h0 h1; exact h x⟩
theorem all3_fin {p : Int → Int → Int → Bool} : all3 p = true ↔ ∀ a b c : Fin 9, p (i9 a) (i9 b) (i9 c) = true := by
  unfold all3
  simp only [all9_fin]
theorem once_fin {f : Int → Int} {g : Fin 9 → Fin 9} (h : ∀ a, f (i9 a) = i9 (g a)) : once f = true ↔ ∀ x y, g x = g y → x = y := by
  unfold once
  simp only [all9_fin, h, Bool.or_eq_true, decide_eq_true_eq]
  constructor
  · intro H x y e
    rcases H x y with h' | h'
    · exact i9_inj h'
    · exact absurd (by rw [e]) h'
  · intro H x y
    by_cases e : x = y
    · exact .inl (by rw [e])
    · exact .inr fun e' => e (H x y (i9_inj e'))
theorem sys_iff {l : List Int} : sysI l = true ↔ nines l 81 = true ∧ Sys (mOf l) := by
  unfold sysI
  rw [Bool.and_eq_true]
  refine and_congr_right fun hn => ?_
  have R := fun a b => rd_i9 hn a b
  have r0 : ∀ a : Fin 9, rd l (i9 a) = i9 (mOf l 0 a) := fun a => by rw [← R, show i9 0 = 0 from rfl]; first | rfl | (congr 1; omega)
  have r1 : ∀ a : Fin 9, rd l (9 * i9 a) = i9 (mOf l a 0) := fun a => by rw [← R, show i9 0 = 0 from rfl]; first | rfl | (congr 1; omega)
  have r2 : ∀ a : Fin 9, rd l (9 + i9 a) = i9 (mOf l 1 a) := fun a => (R _ _).symm ▸ rfl
  have r3 : ∀ a : Fin 9, rd l (9 * i9 a + 1) = i9 (mOf l a 1) := fun a => (R _ _).symm ▸ rfl
  have z : ∀ a : Fin 9, i9 a = 0 ↔ a = 0 := fun a => ⟨fun e => i9_inj e, fun e => by rw [e]; rfl⟩
  have hu : e9.all (unitI l) = true ↔ ∀ a, ((mOf l 0 a = 0 ∧ mOf l a 0 = 0) ∧ mOf l 1 a = a) ∧ mOf l a 1 = a := by
    rw [all9_fin]
    refine forall_congr' fun a => ?_
    simp only [unitI, Bool.and_eq_true, decide_eq_true_eq, r0, r1, r2, r3, z]
    exact ⟨fun ⟨h, d⟩ => ⟨⟨h.1, i9_inj h.2⟩, i9_inj d⟩, fun ⟨h, d⟩ => ⟨⟨h.1, by rw [h.2]⟩, by rw [d]⟩⟩
  have hs : all3 (shareI l) = true ↔ ∀ a b c, mOf l (ad a b) c = ad (mOf l a c) (mOf l b c) := by
    rw [all3_fin]
    refine forall_congr' fun a => forall_congr' fun b => forall_congr' fun c => ?_
    simp only [shareI, R, add_i9]
    exact dec_i9
  have ho : solveI l = true ↔ ∀ c d, d < c → ∀ x y, sb (mOf l x c) (mOf l x d) = sb (mOf l y c) (mOf l y d) → x = y := by
    unfold solveI
    rw [all9_fin]
    refine forall_congr' fun c => ?_
    rw [all9_fin]
    refine forall_congr' fun d => ?_
    rw [Bool.or_eq_true, once_fin (g := fun x => sb (mOf l x c) (mOf l x d)) (fun x => by simp only [lessI, R, add_i9, minus_i9, sb])]
    have hlt : (!decide (i9 d < i9 c)) = true ↔ ¬ d < c := by
      rw [Bool.not_eq_true', decide_eq_false_iff_not]
      exact not_congr (by unfold i9; exact Int.ofNat_lt)
    rw [hlt]
    exact ⟨fun h hd => h.elim (fun h' => absurd hd h') id, fun h => by
      by_cases hd : d < c
      · exact .inr (h hd)
      · exact .inl hd⟩
  rw [Bool.and_eq_true, Bool.and_eq_true, hu, hs, ho]
  exact ⟨fun ⟨u, s, o⟩ => ⟨fun a => (u a).1.1.1, fun a => (u a).1.1.2, fun a => (u a).1.2, fun a => (u a).2, s, o⟩, fun S => ⟨fun a => ⟨⟨⟨S.zl a, S.zr a⟩, S.ol a⟩, S.or a⟩, S.di, S.so⟩⟩
theorem both_iff {l : List Int} (hn : nines l 81 = true) : all3 (bothI l) = true ↔ Both (mOf l) := by
  rw [all3_fin]
  refine forall_congr' fun a => forall_congr' fun b => forall_congr' fun c => ?_
  simp only [bothI, rd_i9 hn, add_i9]
  exact dec_i9
theorem brk_iff {l : List Int} (hn : nines l 81 = true) : all3 (brkI l) = true ↔ Brk (mOf l) := by
  rw [all3_fin]
  refine forall_congr' fun a => forall_congr' fun b => forall_congr' fun c => ?_
  simp only [brkI, rd_i9 hn]
  exact dec_i9
theorem swp_iff {l : List Int} (hn : nines l 81 = true) : all3 (swpI l) = true ↔ Swp (mOf l) := by
  rw [all3_fin]
  refine forall_congr' fun a => forall_congr' fun b => ?_
  simp only [swpI, rd_i9 hn]
  exact ⟨fun h => dec_i9.mp (h 0), fun h _ => dec_i9.mpr h⟩
theorem cen_iff {l : List Int} (hn : nines l 81 = true) (k : Fin 9) : cenI l (i9 k) = true ↔ InCen (mOf l) k := by
  unfold cenI
  rw [all9_fin]
  refine forall_congr' fun a => ?_
  simp only [rd_i9 hn]
  exact dec_i9
theorem ker_iff {l : List Int} (hn : nines l 81 = true) (k : Fin 9) : kerI l (i9 k) = true ↔ InKer (mOf l) k := by
  unfold kerI
  rw [all3_fin]
  refine forall_congr' fun a => forall_congr' fun b => ?_
  simp only [kerP, rd_i9 hn, add_i9, Bool.and_eq_true]
  exact ⟨fun h => ⟨dec_i9.mp (h 0).1, dec_i9.mp (h 0).2⟩, fun h _ => ⟨dec_i9.mpr h.1, dec_i9.mpr h.2⟩⟩

end Go.Proofs.Ytiobhhcbdcbajaa.Nine
