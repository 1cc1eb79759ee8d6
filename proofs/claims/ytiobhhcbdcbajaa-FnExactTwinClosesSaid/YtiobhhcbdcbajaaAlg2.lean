/- Points and lines by number: ten points a line, ten lines a point, the join and the meet. Conditions: the table is a system (Sys), the numbers are from 0 to 90 (Rg). -/
import Derived.Test.YtiobhhcbdcbajaaAlg1
set_option linter.unusedVariables false
set_option linter.unusedSimpArgs false
set_option linter.unusedSectionVars false
namespace Go.Proofs.Ytiobhhcbdcbajaa.Nine

/-! numbers and points -/
def f9 (n : Nat) : Fin 9 := ⟨n % 9, Nat.mod_lt _ (by decide)⟩
def pt (p : Int) : Pt := if p < 81 then .aff (f9 (p.toNat / 9)) (f9 p.toNat) else if p < 90 then .inf (f9 p.toNat) else .top
def ln (l : Int) : Ln := if l < 81 then .aff (f9 (l.toNat / 9)) (f9 l.toNat) else if l < 90 then .ver (f9 l.toNat) else .far
def cp : Pt → Int
  | .aff x y => (9 * x.1 + y.1 : Nat)
  | .inf a => (81 + a.1 : Nat)
  | .top => 90
def cl : Ln → Int
  | .aff x y => (9 * x.1 + y.1 : Nat)
  | .ver a => (81 + a.1 : Nat)
  | .far => 90
def r91 : List Int := (List.range 91).map Int.ofNat
theorem mem_r91 {p : Int} : p ∈ r91 ↔ 0 ≤ p ∧ p ≤ 90 := by
  unfold r91
  rw [List.mem_map]
  constructor
  · rintro ⟨n, hn, rfl⟩
    have := List.mem_range.mp hn
    constructor
    · exact Int.natCast_nonneg n
    · show (n : Int) ≤ 90
      omega
  · rintro ⟨h0, h1⟩
    exact ⟨p.toNat, List.mem_range.mpr (by omega), Int.toNat_of_nonneg h0⟩
theorem pt_cp (P : Pt) : pt (cp P) = P := by
  cases P with
  | aff x y => exact (by decide +kernel : ∀ x y, pt (cp (.aff x y)) = .aff x y) x y
  | inf a => exact (by decide +kernel : ∀ a, pt (cp (.inf a)) = .inf a) a
  | top => decide
theorem ln_cl (L : Ln) : ln (cl L) = L := by
  cases L with
  | aff x y => exact (by decide +kernel : ∀ x y, ln (cl (.aff x y)) = .aff x y) x y
  | ver a => exact (by decide +kernel : ∀ a, ln (cl (.ver a)) = .ver a) a
  | far => decide
theorem cp_mem (P : Pt) : 0 ≤ cp P ∧ cp P ≤ 90 := by
  cases P with
  | aff x y => have := x.2; have := y.2; show 0 ≤ ((_ : Nat) : Int) ∧ ((_ : Nat) : Int) ≤ 90; omega
  | inf a => have := a.2; show 0 ≤ ((_ : Nat) : Int) ∧ ((_ : Nat) : Int) ≤ 90; omega
  | top => decide
theorem cl_mem (L : Ln) : 0 ≤ cl L ∧ cl L ≤ 90 := by
  cases L with
  | aff x y => have := x.2; have := y.2; show 0 ≤ ((_ : Nat) : Int) ∧ ((_ : Nat) : Int) ≤ 90; omega
  | ver a => have := a.2; show 0 ≤ ((_ : Nat) : Int) ∧ ((_ : Nat) : Int) ≤ 90; omega
  | far => decide
theorem cp_pt_all : ∀ n, n < 91 → cp (pt (Int.ofNat n)) = Int.ofNat n := by decide +kernel
theorem cl_ln_all : ∀ n, n < 91 → cl (ln (Int.ofNat n)) = Int.ofNat n := by decide +kernel
theorem cp_pt {p : Int} (h : 0 ≤ p ∧ p ≤ 90) : cp (pt p) = p := by
  obtain ⟨n, rfl⟩ := Int.eq_ofNat_of_zero_le h.1
  exact cp_pt_all n (by omega)
theorem cl_ln {l : Int} (h : 0 ≤ l ∧ l ≤ 90) : cl (ln l) = l := by
  obtain ⟨n, rfl⟩ := Int.eq_ofNat_of_zero_le h.1
  exact cl_ln_all n (by omega)
theorem pt_inj {p q : Int} (hp : 0 ≤ p ∧ p ≤ 90) (hq : 0 ≤ q ∧ q ≤ 90) (h : pt p = pt q) : p = q := by rw [← cp_pt hp, ← cp_pt hq, h]
theorem ln_inj {p q : Int} (hp : 0 ≤ p ∧ p ≤ 90) (hq : 0 ≤ q ∧ q ≤ 90) (h : ln p = ln q) : p = q := by rw [← cl_ln hp, ← cl_ln hq, h]

def onI (m : Fin 9 → Fin 9 → Fin 9) (p l : Int) : Bool := decide (On m (pt p) (ln l))
def find91 (f : Int → Bool) (d : Int) : Int := (r91.find? f).getD d
theorem find91_some {f : Int → Bool} (d : Int) {p : Int} (hp : 0 ≤ p ∧ p ≤ 90) (h : f p = true) : f (find91 f d) = true ∧ 0 ≤ find91 f d ∧ find91 f d ≤ 90 := by
  unfold find91
  cases e : r91.find? f with
  | none => exact absurd h (by simpa using List.find?_eq_none.mp e p (mem_r91.mpr hp))
  | some x => exact ⟨List.find?_some e, mem_r91.mp (List.mem_of_find?_eq_some e)⟩
theorem find91_comm {f g : Int → Bool} (h : ∀ p, 0 ≤ p ∧ p ≤ 90 → f p = g p) (d : Int) : find91 f d = find91 g d := by
  unfold find91
  congr 1
  have : ∀ l : List Int, (∀ p ∈ l, f p = g p) → l.find? f = l.find? g := by
    intro l
    induction l with
    | nil => intro _; rfl
    | cons a l ih =>
      intro h
      rw [List.find?_cons, List.find?_cons, h a (by simp), ih (fun p hp => h p (by simp [hp]))]
  exact this _ fun p hp => h p (mem_r91.mp hp)

def Rg (p : Int) : Prop := 0 ≤ p ∧ p ≤ 90
instance (p : Int) : Decidable (Rg p) := by unfold Rg; infer_instance
def joinI (m : Fin 9 → Fin 9 → Fin 9) (p q : Int) : Int := find91 (fun l => onI m p l && onI m q l) (-1)
def meetI (m : Fin 9 → Fin 9 → Fin 9) (l k : Int) : Int := find91 (fun p => onI m p l && onI m p k) (-1)
def threeI (m : Fin 9 → Fin 9 → Fin 9) (p q r : Int) : Bool := onI m r (joinI m p q)
theorem joinI_comm (m : Fin 9 → Fin 9 → Fin 9) (p q : Int) : joinI m p q = joinI m q p := find91_comm (fun _ _ => Bool.and_comm _ _) _
theorem meetI_comm (m : Fin 9 → Fin 9 → Fin 9) (p q : Int) : meetI m p q = meetI m q p := find91_comm (fun _ _ => Bool.and_comm _ _) _

theorem len_le_of_sub {α : Type} [DecidableEq α] : ∀ (l m : List α), l.Nodup → (∀ x ∈ l, x ∈ m) → l.length ≤ m.length := by
  intro l
  induction l with
  | nil => intro m _ _; simp
  | cons a l ih =>
    intro m hl hs
    have h1 := ih (m.erase a) (List.nodup_cons.mp hl).2 (fun x hx => by
      have hne : x ≠ a := fun e => (List.nodup_cons.mp hl).1 (e ▸ hx)
      exact (List.mem_erase_of_ne hne).mpr (hs x (by simp [hx])))
    have h2 := List.length_erase_of_mem (hs a (by simp))
    have h3 : 0 < m.length := List.length_pos_of_mem (hs a (by simp))
    simp only [List.length_cons]
    omega
theorem len_eq_of_same {α : Type} [DecidableEq α] {l m : List α} (hl : l.Nodup) (hm : m.Nodup) (h : ∀ x, x ∈ l ↔ x ∈ m) : l.length = m.length :=
  Nat.le_antisymm (len_le_of_sub l m hl fun x hx => (h x).mp hx) (len_le_of_sub m l hm fun x hx => (h x).mpr hx)
theorem r91_asc : r91.Pairwise (· < ·) := by decide +kernel
theorem r91_nodup : r91.Nodup := by decide +kernel
def all9 : List (Fin 9) := [0, 1, 2, 3, 4, 5, 6, 7, 8]
theorem mem_all9 : ∀ a : Fin 9, a ∈ all9 := by decide
theorem all9_nodup : all9.Nodup := by decide

namespace Sys
variable {m : Fin 9 → Fin 9 → Fin 9} (S : Sys m)
def ptsOf (m : Fin 9 → Fin 9 → Fin 9) : Ln → List Pt
  | .aff a b => .inf a :: all9.map fun x => .aff x (ad (m x a) b)
  | .ver x => .top :: all9.map fun y => .aff x y
  | .far => .top :: all9.map fun a => .inf a
def lnsOf (m : Fin 9 → Fin 9 → Fin 9) : Pt → List Ln
  | .aff x y => .ver x :: all9.map fun a => .aff a (sb y (m x a))
  | .inf a => .far :: all9.map fun b => .aff a b
  | .top => .far :: all9.map fun x => .ver x
theorem mem_ptsOf (m : Fin 9 → Fin 9 → Fin 9) (P : Pt) (L : Ln) : P ∈ ptsOf m L ↔ On m P L := by
  cases P <;> cases L <;> simp only [ptsOf, On, List.mem_cons, List.mem_map, reduceCtorEq, false_or, and_false, exists_false, Pt.aff.injEq, Pt.inf.injEq, or_false, true_or, mem_all9, true_and, exists_eq_right, iff_true, true_iff]
  all_goals first | done | exact ⟨fun ⟨x, h, e⟩ => by subst h; exact e.symm, fun h => ⟨_, rfl, h.symm⟩⟩ | exact ⟨fun ⟨_, h, _⟩ => h.symm, fun h => ⟨_, h.symm, rfl⟩⟩ | exact ⟨fun h => h.symm, fun h => h.symm⟩ | exact ⟨_, rfl⟩
theorem mem_lnsOf (m : Fin 9 → Fin 9 → Fin 9) (P : Pt) (L : Ln) : L ∈ lnsOf m P ↔ On m P L := by
  have key : ∀ y u b : Fin 9, sb y u = b ↔ y = ad u b := by decide +kernel
  cases P <;> cases L <;> simp only [lnsOf, On, List.mem_cons, List.mem_map, reduceCtorEq, false_or, and_false, exists_false, Ln.aff.injEq, Ln.ver.injEq, or_false, true_or, mem_all9, true_and, exists_eq_right, iff_true, true_iff]
  all_goals first | done | exact ⟨fun ⟨x, h, e⟩ => by subst h; exact (key _ _ _).mp e, fun h => ⟨_, rfl, (key _ _ _).mpr h⟩⟩ | exact ⟨fun ⟨_, h, _⟩ => h, fun h => ⟨_, h, rfl⟩⟩ | exact ⟨fun h => h.symm, fun h => h.symm⟩ | exact ⟨_, rfl⟩
end Sys

/-! points and lines by number -/
def pointsI (m : Fin 9 → Fin 9 → Fin 9) (l : Int) : List Int := r91.filter fun p => onI m p l
def linesI (m : Fin 9 → Fin 9 → Fin 9) (p : Int) : List Int := r91.filter fun l => onI m p l
theorem onI_iff {m : Fin 9 → Fin 9 → Fin 9} {p l : Int} : onI m p l = true ↔ On m (pt p) (ln l) := by simp [onI]
theorem mem_pointsI {m : Fin 9 → Fin 9 → Fin 9} {p l : Int} : p ∈ pointsI m l ↔ Rg p ∧ onI m p l = true := by
  unfold pointsI
  rw [List.mem_filter, mem_r91]
  rfl
theorem mem_linesI {m : Fin 9 → Fin 9 → Fin 9} {p l : Int} : l ∈ linesI m p ↔ Rg l ∧ onI m p l = true := by
  unfold linesI
  rw [List.mem_filter, mem_r91]
  rfl
theorem map_nodup {α β : Type} {f : α → β} : ∀ {l : List α}, (∀ a b, f a = f b → a = b) → l.Nodup → (l.map f).Nodup := by
  intro l h
  induction l with
  | nil => intro _; simp
  | cons a l ih =>
    intro hl
    rw [List.map_cons, List.nodup_cons]
    refine ⟨fun hm => ?_, ih (List.nodup_cons.mp hl).2⟩
    obtain ⟨b, hb, e⟩ := List.mem_map.mp hm
    exact (List.nodup_cons.mp hl).1 (h _ _ e ▸ hb)
theorem ptsOf_nodup (m : Fin 9 → Fin 9 → Fin 9) (L : Ln) : (Sys.ptsOf m L).Nodup ∧ (Sys.ptsOf m L).length = 10 := by
  cases L with
  | aff a b =>
    refine ⟨List.nodup_cons.mpr ⟨fun h => ?_, map_nodup (fun x y e => (Pt.aff.inj e).1) all9_nodup⟩, rfl⟩
    obtain ⟨_, _, e⟩ := List.mem_map.mp h
    cases e
  | ver x =>
    refine ⟨List.nodup_cons.mpr ⟨fun h => ?_, map_nodup (fun x y e => (Pt.aff.inj e).2) all9_nodup⟩, rfl⟩
    obtain ⟨_, _, e⟩ := List.mem_map.mp h
    cases e
  | far =>
    refine ⟨List.nodup_cons.mpr ⟨fun h => ?_, map_nodup (fun x y e => Pt.inf.inj e) all9_nodup⟩, rfl⟩
    obtain ⟨_, _, e⟩ := List.mem_map.mp h
    cases e
theorem lnsOf_nodup (m : Fin 9 → Fin 9 → Fin 9) (P : Pt) : (Sys.lnsOf m P).Nodup ∧ (Sys.lnsOf m P).length = 10 := by
  cases P with
  | aff a b =>
    refine ⟨List.nodup_cons.mpr ⟨fun h => ?_, map_nodup (fun x y e => (Ln.aff.inj e).1) all9_nodup⟩, rfl⟩
    obtain ⟨_, _, e⟩ := List.mem_map.mp h
    cases e
  | inf x =>
    refine ⟨List.nodup_cons.mpr ⟨fun h => ?_, map_nodup (fun x y e => (Ln.aff.inj e).2) all9_nodup⟩, rfl⟩
    obtain ⟨_, _, e⟩ := List.mem_map.mp h
    cases e
  | top =>
    refine ⟨List.nodup_cons.mpr ⟨fun h => ?_, map_nodup (fun x y e => Ln.ver.inj e) all9_nodup⟩, rfl⟩
    obtain ⟨_, _, e⟩ := List.mem_map.mp h
    cases e
theorem pointsI_len (m : Fin 9 → Fin 9 → Fin 9) {l : Int} (hl : Rg l) : (pointsI m l).length = 10 := by
  rw [← (ptsOf_nodup m (ln l)).2, ← List.length_map (f := cp)]
  refine len_eq_of_same (r91_nodup.filter _) (map_nodup (fun P Q e => by rw [← pt_cp P, ← pt_cp Q, e]) (ptsOf_nodup m (ln l)).1) fun p => ?_
  rw [mem_pointsI, List.mem_map]
  constructor
  · rintro ⟨hp, ho⟩
    exact ⟨pt p, (Sys.mem_ptsOf m _ _).mpr (onI_iff.mp ho), cp_pt hp⟩
  · rintro ⟨P, hP, rfl⟩
    exact ⟨cp_mem P, onI_iff.mpr (by rw [pt_cp]; exact (Sys.mem_ptsOf m _ _).mp hP)⟩
theorem linesI_len (m : Fin 9 → Fin 9 → Fin 9) {p : Int} (hp : Rg p) : (linesI m p).length = 10 := by
  rw [← (lnsOf_nodup m (pt p)).2, ← List.length_map (f := cl)]
  refine len_eq_of_same (r91_nodup.filter _) (map_nodup (fun P Q e => by rw [← ln_cl P, ← ln_cl Q, e]) (lnsOf_nodup m (pt p)).1) fun l => ?_
  rw [mem_linesI, List.mem_map]
  constructor
  · rintro ⟨hl, ho⟩
    exact ⟨ln l, (Sys.mem_lnsOf m _ _).mpr (onI_iff.mp ho), cl_ln hl⟩
  · rintro ⟨L, hL, rfl⟩
    exact ⟨cl_mem L, onI_iff.mpr (by rw [ln_cl]; exact (Sys.mem_lnsOf m _ _).mp hL)⟩
theorem pointsI_asc (m : Fin 9 → Fin 9 → Fin 9) (l : Int) : (pointsI m l).Pairwise (· < ·) := r91_asc.filter _
theorem linesI_asc (m : Fin 9 → Fin 9 → Fin 9) (p : Int) : (linesI m p).Pairwise (· < ·) := r91_asc.filter _

namespace Sys
variable {m : Fin 9 → Fin 9 → Fin 9} (S : Sys m)
include S
theorem join_spec {p q : Int} (hp : Rg p) (hq : Rg q) (h : p ≠ q) : Rg (joinI m p q) ∧ onI m p (joinI m p q) = true ∧ onI m q (joinI m p q) = true := by
  obtain ⟨L, h1, h2⟩ := S.join_ex (pt p) (pt q) (fun e => h (pt_inj hp hq e))
  have := find91_some (f := fun l => onI m p l && onI m q l) (-1) (cl_mem L) (by rw [Bool.and_eq_true, onI_iff, onI_iff, ln_cl]; exact ⟨h1, h2⟩)
  exact ⟨this.2, Bool.and_eq_true_iff.mp this.1⟩
theorem meet_spec {l k : Int} (hl : Rg l) (hk : Rg k) : Rg (meetI m l k) ∧ onI m (meetI m l k) l = true ∧ onI m (meetI m l k) k = true := by
  by_cases h : l = k
  · subst h
    obtain ⟨p, hp⟩ : ∃ p, p ∈ pointsI m l := by
      cases e : pointsI m l with
      | nil => have := pointsI_len m hl; rw [e] at this; cases this
      | cons a _ => exact ⟨a, by simp⟩
    rw [mem_pointsI] at hp
    have := find91_some (f := fun p => onI m p l && onI m p l) (-1) hp.1 (by rw [Bool.and_self]; exact hp.2)
    exact ⟨this.2, Bool.and_eq_true_iff.mp this.1⟩
  · obtain ⟨P, h1, h2⟩ := S.meet_ex (ln l) (ln k) (fun e => h (ln_inj hl hk e))
    have := find91_some (f := fun p => onI m p l && onI m p k) (-1) (cp_mem P) (by rw [Bool.and_eq_true, onI_iff, onI_iff, pt_cp]; exact ⟨h1, h2⟩)
    exact ⟨this.2, Bool.and_eq_true_iff.mp this.1⟩
theorem one_line {p q l k : Int} (hp : Rg p) (hq : Rg q) (h : p ≠ q) (hl : Rg l) (hk : Rg k) (h1 : onI m p l = true) (h2 : onI m q l = true) (h3 : onI m p k = true) (h4 : onI m q k = true) : l = k :=
  ln_inj hl hk (S.uniq (fun e => h (pt_inj hp hq e)) (onI_iff.mp h1) (onI_iff.mp h2) (onI_iff.mp h3) (onI_iff.mp h4))
theorem one_point {p q l k : Int} (hp : Rg p) (hq : Rg q) (hl : Rg l) (hk : Rg k) (h : l ≠ k) (h1 : onI m p l = true) (h2 : onI m q l = true) (h3 : onI m p k = true) (h4 : onI m q k = true) : p = q :=
  Classical.byContradiction fun hne => h (S.one_line hp hq hne hl hk h1 h2 h3 h4)
theorem join_eq {p q l : Int} (hp : Rg p) (hq : Rg q) (h : p ≠ q) (hl : Rg l) (h1 : onI m p l = true) (h2 : onI m q l = true) : joinI m p q = l :=
  have j := S.join_spec hp hq h
  S.one_line hp hq h j.1 hl j.2.1 j.2.2 h1 h2
theorem meet_eq {l k p : Int} (hl : Rg l) (hk : Rg k) (h : l ≠ k) (hp : Rg p) (h1 : onI m p l = true) (h2 : onI m p k = true) : meetI m l k = p :=
  have j := S.meet_spec hl hk
  S.one_point j.1 hp hl hk h j.2.1 h1 j.2.2 h2
theorem three_join {p q r : Int} (hp : Rg p) (hq : Rg q) (hr : Rg r) (h1 : p ≠ q) (h2 : p ≠ r) (h3 : q ≠ r) (h : threeI m p q r = true) : joinI m q r = joinI m p q ∧ threeI m r q p = true ∧ threeI m q r p = true := by
  have j := S.join_spec hp hq h1
  have e := S.join_eq hq hr h3 j.1 j.2.2 h
  have e2 : joinI m r q = joinI m p q := by rw [joinI_comm, e]
  exact ⟨e, by unfold threeI; rw [e2]; exact j.2.1, by unfold threeI; rw [e]; exact j.2.1⟩
/-- Three points are on one line in any order. -/
theorem three_iff {p q r : Int} (hp : Rg p) (hq : Rg q) (hr : Rg r) (h1 : p ≠ q) (h2 : p ≠ r) (h3 : q ≠ r) : threeI m p q r = true ↔ ∃ l, Rg l ∧ onI m p l = true ∧ onI m q l = true ∧ onI m r l = true := by
  constructor
  · intro h
    have j := S.join_spec hp hq h1
    exact ⟨_, j.1, j.2.1, j.2.2, h⟩
  · rintro ⟨l, hl, a, b, c⟩
    unfold threeI
    rw [S.join_eq hp hq h1 hl a b]
    exact c
/-- Just one line through two points, counted. -/
theorem join_count {p q : Int} (hp : Rg p) (hq : Rg q) (h : p ≠ q) : ((linesI m p).filter fun l => onI m q l).length = 1 := by
  have j := S.join_spec hp hq h
  refine (len_eq_of_same (m := [joinI m p q]) ((r91_nodup.filter _).filter _) (by simp) fun l => ?_)
  rw [List.mem_filter, mem_linesI, List.mem_singleton]
  constructor
  · rintro ⟨⟨hl, h1⟩, h2⟩
    exact (S.join_eq hp hq h hl h1 h2).symm
  · rintro rfl
    exact ⟨⟨j.1, j.2.1⟩, j.2.2⟩
theorem meet_count {l k : Int} (hl : Rg l) (hk : Rg k) (h : l ≠ k) : ((pointsI m l).filter fun p => onI m p k).length = 1 := by
  have j := S.meet_spec hl hk
  refine (len_eq_of_same (m := [meetI m l k]) ((r91_nodup.filter _).filter _) (by simp) fun p => ?_)
  rw [List.mem_filter, mem_pointsI, List.mem_singleton]
  constructor
  · rintro ⟨⟨hp, h1⟩, h2⟩
    exact (S.meet_eq hl hk h hp h1 h2).symm
  · rintro rfl
    exact ⟨⟨j.1, j.2.1⟩, j.2.2⟩
end Sys
end Go.Proofs.Ytiobhhcbdcbajaa.Nine
