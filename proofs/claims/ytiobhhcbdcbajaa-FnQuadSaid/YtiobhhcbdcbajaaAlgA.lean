/- Plain laws of systems of nine elements: products with an element are all different, kernels and centres are closed, two points have just one line. Conditions: the table is a system (Sys). Points and lines by number: ten points a line, ten lines a point, the join and the meet. Conditions: the table is a system (Sys), the numbers are from 0 to 90 (Rg). Quadrangles and hexagons; over a field hexagons close, and no diagonal points are on one line. Conditions: the table is a system (Sys), over a field (Fld) where it says so. -/
set_option linter.unusedVariables false
set_option linter.unusedSimpArgs false
set_option linter.unusedSectionVars false
namespace Go.Proofs.Ytiobhhcbdcbajaa.Nine
def ad (a b : Fin 9) : Fin 9 := ⟨(a.1 % 3 + b.1 % 3) % 3 + 3 * ((a.1 / 3 + b.1 / 3) % 3), by omega⟩
def ng (a : Fin 9) : Fin 9 := ⟨(3 - a.1 % 3) % 3 + 3 * ((3 - a.1 / 3) % 3), by omega⟩
def sb (a b : Fin 9) : Fin 9 := ad a (ng b)
theorem ad_comm : ∀ a b, ad a b = ad b a := by decide +kernel
theorem ad_assoc : ∀ a b c, ad (ad a b) c = ad a (ad b c) := by decide +kernel
theorem ad_zero : ∀ a, ad a 0 = a := by decide +kernel
theorem zero_ad : ∀ a, ad 0 a = a := by decide +kernel
theorem ad_ng : ∀ a, ad a (ng a) = 0 := by decide +kernel
theorem ng_ad : ∀ a, ad (ng a) a = 0 := by decide +kernel
theorem ng_ng : ∀ a, ng (ng a) = a := by decide +kernel
theorem ng_zero : ng 0 = 0 := by decide +kernel
theorem ng_of_ad : ∀ a b, ng (ad a b) = ad (ng a) (ng b) := by decide +kernel
theorem ad_cancel : ∀ a b c, ad a b = ad a c → b = c := by decide +kernel
theorem ad_cancel_r : ∀ a b c, ad b a = ad c a → b = c := by decide +kernel
theorem sb_eq_zero : ∀ a b, sb a b = 0 → a = b := by decide +kernel
theorem sb_self : ∀ a, sb a a = 0 := by decide +kernel
theorem ad_sb : ∀ a b, ad a (sb b a) = b := by decide +kernel
theorem sb_swap : ∀ a b, sb a b = ng (sb b a) := by decide +kernel
theorem sb_eq_ng : ∀ a b, ad a b = 0 → a = ng b := by decide +kernel
theorem sb_zero : ∀ a, sb a 0 = a := by decide +kernel
theorem inj_surj (f : Fin 9 → Fin 9) (h : ∀ x y, f x = f y → x = y) (y : Fin 9) : ∃ x, f x = y := by
  refine Classical.byContradiction fun hn => ?_
  have hn' : ∀ x, f x ≠ y := fun x hx => hn ⟨x, hx⟩
  have key : ∀ (l m : List (Fin 9)), l.Nodup → (∀ x ∈ l, x ∈ m) → l.length ≤ m.length := by
    intro l
    induction l with
    | nil => intro m _ _; simp
    | cons a l ih =>
      intro m hl hs
      have h1 := ih (m.erase a) (List.nodup_cons.mp hl).2 (fun x hx => by
        have hne : x ≠ a := fun e => (List.nodup_cons.mp hl).1 (e ▸ hx)
        exact (List.mem_erase_of_ne hne).mpr (hs x (by simp [hx])))
      have h2 := List.length_erase_of_mem (hs a (by simp))
      have h3 : 0 < m.length := List.length_pos_of_mem (hs a (by simp))
      simp only [List.length_cons]
      omega
  have := key (y :: [f 0, f 1, f 2, f 3, f 4, f 5, f 6, f 7, f 8]) [0, 1, 2, 3, 4, 5, 6, 7, 8] (by
    have hi : ∀ a b : Fin 9, a ≠ b → f a ≠ f b := fun a b hab e => hab (h a b e)
    have hy : ∀ a, y ≠ f a := fun a e => hn' a e.symm
    have h01 : ∀ a b : Fin 9, f a = f b ↔ a = b := fun a b => ⟨h a b, fun e => e ▸ rfl⟩
    simp [List.nodup_cons, hy, h01]) (by
    intro x _
    exact (by decide : ∀ x : Fin 9, x ∈ [(0 : Fin 9), 1, 2, 3, 4, 5, 6, 7, 8]) x)
  simp at this

structure Sys (m : Fin 9 → Fin 9 → Fin 9) : Prop where
  zl : ∀ a, m 0 a = 0
  zr : ∀ a, m a 0 = 0
  ol : ∀ a, m 1 a = a
  or : ∀ a, m a 1 = a
  di : ∀ a b c, m (ad a b) c = ad (m a c) (m b c)
  so : ∀ c d, d < c → ∀ x y, sb (m x c) (m x d) = sb (m y c) (m y d) → x = y

namespace Sys
variable {m : Fin 9 → Fin 9 → Fin 9} (S : Sys m)
include S
theorem ngl (a c : Fin 9) : m (ng a) c = ng (m a c) := by
  have h := S.di a (ng a) c
  rw [ad_ng, S.zl] at h
  exact ad_cancel (m a c) _ _ (by rw [← h, ad_ng])
theorem sbl (a b c : Fin 9) : m (sb a b) c = sb (m a c) (m b c) := by
  unfold sb
  rw [S.di, S.ngl]
theorem so' (c d : Fin 9) (hne : c ≠ d) (x y : Fin 9) (h : sb (m x c) (m x d) = sb (m y c) (m y d)) : x = y := by
  by_cases hlt : d < c
  · exact S.so c d hlt x y h
  · have hlt' : c < d := by
      rcases Nat.lt_trichotomy c.1 d.1 with h1 | h1 | h1
      · exact h1
      · exact absurd (Fin.ext h1) hne
      · exact absurd h1 hlt
    refine S.so d c hlt' x y ?_
    rw [sb_swap (m x d), sb_swap (m y d), h]
theorem col {c : Fin 9} (hc : c ≠ 0) {x y : Fin 9} (h : m x c = m y c) : x = y := by
  refine S.so' c 0 hc x y ?_
  rw [S.zr, S.zr, h]
theorem row {x : Fin 9} (hx : x ≠ 0) {a b : Fin 9} (h : m x a = m x b) : a = b := by
  refine Classical.byContradiction fun hne => hx (S.so' a b hne x 0 ?_)
  rw [S.zl, S.zl, h, sb_self, sb_self]
theorem col_ex {c : Fin 9} (hc : c ≠ 0) (y : Fin 9) : ∃ x, m x c = y := inj_surj (fun x => m x c) (fun _ _ h => S.col hc h) y
theorem row_ex {x : Fin 9} (hx : x ≠ 0) (y : Fin 9) : ∃ a, m x a = y := inj_surj (fun a => m x a) (fun _ _ h => S.row hx h) y
theorem so_ex {c d : Fin 9} (hne : c ≠ d) (y : Fin 9) : ∃ x, sb (m x c) (m x d) = y := inj_surj (fun x => sb (m x c) (m x d)) (fun x y h => S.so' c d hne x y h) y
end Sys

inductive Pt | aff (x y : Fin 9) | inf (a : Fin 9) | top
  deriving DecidableEq
inductive Ln | aff (a b : Fin 9) | ver (x : Fin 9) | far
  deriving DecidableEq
def On (m : Fin 9 → Fin 9 → Fin 9) : Pt → Ln → Prop
  | .aff x y, .aff a b => y = ad (m x a) b
  | .inf a', .aff a _ => a' = a
  | .top, .aff _ _ => False
  | .aff x _, .ver x' => x = x'
  | .inf _, .ver _ => False
  | .top, .ver _ => True
  | .aff _ _, .far => False
  | .inf _, .far => True
  | .top, .far => True
instance (m : Fin 9 → Fin 9 → Fin 9) (p : Pt) (l : Ln) : Decidable (On m p l) := by
  cases p <;> cases l <;> unfold On <;> infer_instance

namespace Sys
variable {m : Fin 9 → Fin 9 → Fin 9} (S : Sys m)
include S
theorem join_ex (P Q : Pt) (h : P ≠ Q) : ∃ L, On m P L ∧ On m Q L := by
  cases P with
  | aff x y =>
    cases Q with
    | aff x' y' =>
      by_cases hx : x = x'
      · exact ⟨.ver x, rfl, hx.symm⟩
      · obtain ⟨a, ha⟩ := S.row_ex (x := sb x x') (fun e => hx (sb_eq_zero _ _ e)) (sb y y')
        rw [S.sbl] at ha
        refine ⟨.aff a (sb y (m x a)), (ad_sb _ _).symm, ?_⟩
        show y' = ad (m x' a) (sb y (m x a))
        revert ha
        exact (by decide +kernel : ∀ u v y y' : Fin 9, sb u v = sb y y' → y' = ad v (sb y u)) _ _ _ _
    | inf a => exact ⟨.aff a (sb y (m x a)), (ad_sb _ _).symm, rfl⟩
    | top => exact ⟨.ver x, rfl, trivial⟩
  | inf a =>
    cases Q with
    | aff x' y' => exact ⟨.aff a (sb y' (m x' a)), rfl, (ad_sb _ _).symm⟩
    | inf a' => exact ⟨.far, trivial, trivial⟩
    | top => exact ⟨.far, trivial, trivial⟩
  | top =>
    cases Q with
    | aff x' y' => exact ⟨.ver x', trivial, rfl⟩
    | inf a' => exact ⟨.far, trivial, trivial⟩
    | top => exact absurd rfl h
theorem uniq {P Q : Pt} (h : P ≠ Q) {L M : Ln} (h1 : On m P L) (h2 : On m Q L) (h3 : On m P M) (h4 : On m Q M) : L = M := by
  have key : ∀ u v b : Fin 9, sb (ad u b) (ad v b) = sb u v := by decide +kernel
  cases P <;> cases Q <;> cases L <;> cases M <;> simp only [On] at h1 h2 h3 h4 <;> (try contradiction) <;> (try (subst_vars; first | rfl | contradiction))
  · rename_i x y x' y' a b c d
    have hx : x ≠ x' := by
      rintro rfl
      exact h (by rw [h1, h2])
    have e1 := key (m x a) (m x' a) b
    have e2 := key (m x c) (m x' c) d
    rw [← h1, ← h2, ← S.sbl] at e1
    rw [← h3, ← h4, ← S.sbl] at e2
    have hac : a = c := S.row (x := sb x x') (fun e => hx (sb_eq_zero _ _ e)) (by rw [← e1, ← e2])
    subst hac
    rw [ad_cancel (m x a) b d (by rw [← h1, ← h3])]
  · rename_i x y a' a b c d
    obtain rfl : a' = a := h2
    obtain rfl : a' = c := h4
    rw [ad_cancel (m x a') b d (by rw [← h1, ← h3])]
  · rename_i a' x y a b c d
    obtain rfl : a' = a := h1
    obtain rfl : a' = c := h3
    rw [ad_cancel (m x a') b d (by rw [← h2, ← h4])]
theorem meet_ex (L M : Ln) (h : L ≠ M) : ∃ P, On m P L ∧ On m P M := by
  cases L with
  | aff a b =>
    cases M with
    | aff a' b' =>
      by_cases ha : a = a'
      · exact ⟨.inf a, rfl, ha⟩
      · obtain ⟨x, hx⟩ := S.so_ex ha (sb b' b)
        refine ⟨.aff x (ad (m x a) b), rfl, ?_⟩
        show ad (m x a) b = ad (m x a') b'
        revert hx
        exact (by decide +kernel : ∀ u v b b' : Fin 9, sb u v = sb b' b → ad u b = ad v b') _ _ _ _
    | ver x => exact ⟨.aff x (ad (m x a) b), rfl, rfl⟩
    | far => exact ⟨.inf a, rfl, trivial⟩
  | ver x =>
    cases M with
    | aff a b => exact ⟨.aff x (ad (m x a) b), rfl, rfl⟩
    | ver x' => exact ⟨.top, trivial, trivial⟩
    | far => exact ⟨.top, trivial, trivial⟩
  | far =>
    cases M with
    | aff a b => exact ⟨.inf a, trivial, rfl⟩
    | ver x => exact ⟨.top, trivial, trivial⟩
    | far => exact absurd rfl h
end Sys
def Both (m : Fin 9 → Fin 9 → Fin 9) : Prop := ∀ a b c, m a (ad b c) = ad (m a b) (m a c)
def Brk (m : Fin 9 → Fin 9 → Fin 9) : Prop := ∀ a b c, m (m a b) c = m a (m b c)
def Swp (m : Fin 9 → Fin 9 → Fin 9) : Prop := ∀ a b, m a b = m b a
def InKer (m : Fin 9 → Fin 9 → Fin 9) (k : Fin 9) : Prop := ∀ a b, m k (m a b) = m (m k a) b ∧ m k (ad a b) = ad (m k a) (m k b)
def InCen (m : Fin 9 → Fin 9 → Fin 9) (k : Fin 9) : Prop := ∀ a, m k a = m a k
theorem gen9 : ∀ x : Fin 9, x ≠ 0 → x ≠ 1 → x ≠ 2 → ∀ a : Fin 9, a = 0 ∨ a = 1 ∨ a = 2 ∨ a = x ∨ a = ad x 1 ∨ a = ad x 2 ∨ a = ad x x ∨ a = ad (ad x x) 1 ∨ a = ad (ad x x) 2 := by decide +kernel
namespace Sys
variable {m : Fin 9 → Fin 9 → Fin 9} (S : Sys m)
include S
theorem two (a : Fin 9) : m 2 a = ad a a := by
  have h := S.di 1 1 a
  rw [S.ol] at h
  exact h
theorem both_two (hb : Both m) (a : Fin 9) : m a 2 = ad a a := by
  have h := hb a 1 1
  rw [S.or] at h
  exact h
theorem cen_two (hb : Both m) : InCen m 2 := fun a => by rw [S.two, S.both_two hb]
theorem ker_two : InKer m 2 := fun a b => by
  refine ⟨by rw [S.two, S.two, S.di], ?_⟩
  rw [S.two, S.two, S.two]
  exact (by decide +kernel : ∀ a b : Fin 9, ad (ad a b) (ad a b) = ad (ad a a) (ad b b)) a b
theorem ker_zero : InKer m 0 := fun a b => by simp only [S.zl]; exact ⟨trivial, (ad_zero 0).symm⟩
theorem ker_one : InKer m 1 := fun a b => by simp only [S.ol]; exact ⟨trivial, trivial⟩
theorem ker_ad {k l : Fin 9} (hk : InKer m k) (hl : InKer m l) : InKer m (ad k l) := fun a b => by
  refine ⟨by rw [S.di, S.di, S.di, (hk a b).1, (hl a b).1], ?_⟩
  rw [S.di, S.di, S.di, (hk a b).2, (hl a b).2]
  exact (by decide +kernel : ∀ a b c d : Fin 9, ad (ad a b) (ad c d) = ad (ad a c) (ad b d)) _ _ _ _
omit S in
theorem ker_m {k l : Fin 9} (hk : InKer m k) (hl : InKer m l) : InKer m (m k l) := fun a b => by
  have e : ∀ x, m (m k l) x = m k (m l x) := fun x => (hk l x).1.symm
  refine ⟨by rw [e, e, (hl a b).1, (hk _ b).1], ?_⟩
  rw [e, e, e, (hl a b).2, (hk _ _).2]
theorem ker_big {x : Fin 9} (h : InKer m x) (h0 : x ≠ 0) (h1 : x ≠ 1) (h2 : x ≠ 2) (a : Fin 9) : InKer m a := by
  rcases gen9 x h0 h1 h2 a with rfl | rfl | rfl | rfl | rfl | rfl | rfl | rfl | rfl
  · exact S.ker_zero
  · exact S.ker_one
  · exact S.ker_two
  · exact h
  · exact S.ker_ad h S.ker_one
  · exact S.ker_ad h S.ker_two
  · exact S.ker_ad h h
  · exact S.ker_ad (S.ker_ad h h) S.ker_one
  · exact S.ker_ad (S.ker_ad h h) S.ker_two
omit S in
theorem ker_all : (∀ k, InKer m k) ↔ Both m ∧ Brk m :=
  ⟨fun h => ⟨fun a b c => (h a b c).2, fun a b c => (h a b c).1.symm⟩, fun h k a b => ⟨(h.2 k a b).symm, h.1 k a b⟩⟩
theorem cen_zero : InCen m 0 := fun a => by rw [S.zl, S.zr]
theorem cen_one : InCen m 1 := fun a => by rw [S.ol, S.or]
theorem swp_both (h : Swp m) : Both m := fun a b c => by rw [h a (ad b c), S.di, h b a, h c a]
theorem inv (h : Brk m) {a : Fin 9} (ha : a ≠ 0) : ∃ b, m a b = 1 ∧ m b a = 1 ∧ ∀ c, m a c = 1 → c = b := by
  obtain ⟨b, hb⟩ := S.row_ex ha 1
  obtain ⟨c, hc⟩ := S.col_ex ha 1
  have e := h c a b
  rw [hc, hb, S.ol, S.or] at e
  subst e
  exact ⟨b, hb, hc, fun c h' => S.row ha (by rw [h', hb])⟩
end Sys
end Go.Proofs.Ytiobhhcbdcbajaa.Nine

namespace Go.Proofs.Ytiobhhcbdcbajaa.Nine

/-! numbers and points -/
def f9 (n : Nat) : Fin 9 := ⟨n % 9, Nat.mod_lt _ (by decide)⟩
def pt (p : Int) : Pt := if p < 81 then .aff (f9 (p.toNat / 9)) (f9 p.toNat) else if p < 90 then .inf (f9 p.toNat) else .top
def ln (l : Int) : Ln := if l < 81 then .aff (f9 (l.toNat / 9)) (f9 l.toNat) else if l < 90 then .ver (f9 l.toNat) else .far
def cp : Pt → Int
  | .aff x y => (9 * x.1 + y.1 : Nat)
  | .inf a => (81 + a.1 : Nat)
  | .top => 90
def cl : Ln → Int
  | .aff x y => (9 * x.1 + y.1 : Nat)
  | .ver a => (81 + a.1 : Nat)
  | .far => 90
def r91 : List Int := (List.range 91).map Int.ofNat
theorem mem_r91 {p : Int} : p ∈ r91 ↔ 0 ≤ p ∧ p ≤ 90 := by
  unfold r91
  rw [List.mem_map]
  constructor
  · rintro ⟨n, hn, rfl⟩
    have := List.mem_range.mp hn
    constructor
    · exact Int.natCast_nonneg n
    · show (n : Int) ≤ 90
      omega
  · rintro ⟨h0, h1⟩
    exact ⟨p.toNat, List.mem_range.mpr (by omega), Int.toNat_of_nonneg h0⟩
theorem pt_cp (P : Pt) : pt (cp P) = P := by
  cases P with
  | aff x y => exact (by decide +kernel : ∀ x y, pt (cp (.aff x y)) = .aff x y) x y
  | inf a => exact (by decide +kernel : ∀ a, pt (cp (.inf a)) = .inf a) a
  | top => decide
theorem ln_cl (L : Ln) : ln (cl L) = L := by
  cases L with
  | aff x y => exact (by decide +kernel : ∀ x y, ln (cl (.aff x y)) = .aff x y) x y
  | ver a => exact (by decide +kernel : ∀ a, ln (cl (.ver a)) = .ver a) a
  | far => decide
theorem cp_mem (P : Pt) : 0 ≤ cp P ∧ cp P ≤ 90 := by
  cases P with
  | aff x y => have := x.2; have := y.2; show 0 ≤ ((_ : Nat) : Int) ∧ ((_ : Nat) : Int) ≤ 90; omega
  | inf a => have := a.2; show 0 ≤ ((_ : Nat) : Int) ∧ ((_ : Nat) : Int) ≤ 90; omega
  | top => decide
theorem cl_mem (L : Ln) : 0 ≤ cl L ∧ cl L ≤ 90 := by
  cases L with
  | aff x y => have := x.2; have := y.2; show 0 ≤ ((_ : Nat) : Int) ∧ ((_ : Nat) : Int) ≤ 90; omega
  | ver a => have := a.2; show 0 ≤ ((_ : Nat) : Int) ∧ ((_ : Nat) : Int) ≤ 90; omega
  | far => decide
theorem cp_pt_all : ∀ n, n < 91 → cp (pt (Int.ofNat n)) = Int.ofNat n := by decide +kernel
theorem cl_ln_all : ∀ n, n < 91 → cl (ln (Int.ofNat n)) = Int.ofNat n := by decide +kernel
theorem cp_pt {p : Int} (h : 0 ≤ p ∧ p ≤ 90) : cp (pt p) = p := by
  obtain ⟨n, rfl⟩ := Int.eq_ofNat_of_zero_le h.1
  exact cp_pt_all n (by omega)
theorem cl_ln {l : Int} (h : 0 ≤ l ∧ l ≤ 90) : cl (ln l) = l := by
  obtain ⟨n, rfl⟩ := Int.eq_ofNat_of_zero_le h.1
  exact cl_ln_all n (by omega)
theorem pt_inj {p q : Int} (hp : 0 ≤ p ∧ p ≤ 90) (hq : 0 ≤ q ∧ q ≤ 90) (h : pt p = pt q) : p = q := by rw [← cp_pt hp, ← cp_pt hq, h]
theorem ln_inj {p q : Int} (hp : 0 ≤ p ∧ p ≤ 90) (hq : 0 ≤ q ∧ q ≤ 90) (h : ln p = ln q) : p = q := by rw [← cl_ln hp, ← cl_ln hq, h]

def onI (m : Fin 9 → Fin 9 → Fin 9) (p l : Int) : Bool := decide (On m (pt p) (ln l))
def find91 (f : Int → Bool) (d : Int) : Int := (r91.find? f).getD d
theorem find91_some {f : Int → Bool} (d : Int) {p : Int} (hp : 0 ≤ p ∧ p ≤ 90) (h : f p = true) : f (find91 f d) = true ∧ 0 ≤ find91 f d ∧ find91 f d ≤ 90 := by
  unfold find91
  cases e : r91.find? f with
  | none => exact absurd h (by simpa using List.find?_eq_none.mp e p (mem_r91.mpr hp))
  | some x => exact ⟨List.find?_some e, mem_r91.mp (List.mem_of_find?_eq_some e)⟩
theorem find91_comm {f g : Int → Bool} (h : ∀ p, 0 ≤ p ∧ p ≤ 90 → f p = g p) (d : Int) : find91 f d = find91 g d := by
  unfold find91
  congr 1
  have : ∀ l : List Int, (∀ p ∈ l, f p = g p) → l.find? f = l.find? g := by
    intro l
    induction l with
    | nil => intro _; rfl
    | cons a l ih =>
      intro h
      rw [List.find?_cons, List.find?_cons, h a (by simp), ih (fun p hp => h p (by simp [hp]))]
  exact this _ fun p hp => h p (mem_r91.mp hp)

def Rg (p : Int) : Prop := 0 ≤ p ∧ p ≤ 90
instance (p : Int) : Decidable (Rg p) := by unfold Rg; infer_instance
def joinI (m : Fin 9 → Fin 9 → Fin 9) (p q : Int) : Int := find91 (fun l => onI m p l && onI m q l) (-1)
def meetI (m : Fin 9 → Fin 9 → Fin 9) (l k : Int) : Int := find91 (fun p => onI m p l && onI m p k) (-1)
def threeI (m : Fin 9 → Fin 9 → Fin 9) (p q r : Int) : Bool := onI m r (joinI m p q)
theorem joinI_comm (m : Fin 9 → Fin 9 → Fin 9) (p q : Int) : joinI m p q = joinI m q p := find91_comm (fun _ _ => Bool.and_comm _ _) _
theorem meetI_comm (m : Fin 9 → Fin 9 → Fin 9) (p q : Int) : meetI m p q = meetI m q p := find91_comm (fun _ _ => Bool.and_comm _ _) _

theorem len_le_of_sub {α : Type} [DecidableEq α] : ∀ (l m : List α), l.Nodup → (∀ x ∈ l, x ∈ m) → l.length ≤ m.length := by
  intro l
  induction l with
  | nil => intro m _ _; simp
  | cons a l ih =>
    intro m hl hs
    have h1 := ih (m.erase a) (List.nodup_cons.mp hl).2 (fun x hx => by
      have hne : x ≠ a := fun e => (List.nodup_cons.mp hl).1 (e ▸ hx)
      exact (List.mem_erase_of_ne hne).mpr (hs x (by simp [hx])))
    have h2 := List.length_erase_of_mem (hs a (by simp))
    have h3 : 0 < m.length := List.length_pos_of_mem (hs a (by simp))
    simp only [List.length_cons]
    omega
theorem len_eq_of_same {α : Type} [DecidableEq α] {l m : List α} (hl : l.Nodup) (hm : m.Nodup) (h : ∀ x, x ∈ l ↔ x ∈ m) : l.length = m.length :=
  Nat.le_antisymm (len_le_of_sub l m hl fun x hx => (h x).mp hx) (len_le_of_sub m l hm fun x hx => (h x).mpr hx)
theorem r91_asc : r91.Pairwise (· < ·) := by decide +kernel
theorem r91_nodup : r91.Nodup := by decide +kernel
def all9 : List (Fin 9) := [0, 1, 2, 3, 4, 5, 6, 7, 8]
theorem mem_all9 : ∀ a : Fin 9, a ∈ all9 := by decide
theorem all9_nodup : all9.Nodup := by decide

namespace Sys
variable {m : Fin 9 → Fin 9 → Fin 9} (S : Sys m)
def ptsOf (m : Fin 9 → Fin 9 → Fin 9) : Ln → List Pt
  | .aff a b => .inf a :: all9.map fun x => .aff x (ad (m x a) b)
  | .ver x => .top :: all9.map fun y => .aff x y
  | .far => .top :: all9.map fun a => .inf a
def lnsOf (m : Fin 9 → Fin 9 → Fin 9) : Pt → List Ln
  | .aff x y => .ver x :: all9.map fun a => .aff a (sb y (m x a))
  | .inf a => .far :: all9.map fun b => .aff a b
  | .top => .far :: all9.map fun x => .ver x
theorem mem_ptsOf (m : Fin 9 → Fin 9 → Fin 9) (P : Pt) (L : Ln) : P ∈ ptsOf m L ↔ On m P L := by
  cases P <;> cases L <;> simp only [ptsOf, On, List.mem_cons, List.mem_map, reduceCtorEq, false_or, and_false, exists_false, Pt.aff.injEq, Pt.inf.injEq, or_false, true_or, mem_all9, true_and, exists_eq_right, iff_true, true_iff]
  all_goals first | done | exact ⟨fun ⟨x, h, e⟩ => by subst h; exact e.symm, fun h => ⟨_, rfl, h.symm⟩⟩ | exact ⟨fun ⟨_, h, _⟩ => h.symm, fun h => ⟨_, h.symm, rfl⟩⟩ | exact ⟨fun h => h.symm, fun h => h.symm⟩ | exact ⟨_, rfl⟩
theorem mem_lnsOf (m : Fin 9 → Fin 9 → Fin 9) (P : Pt) (L : Ln) : L ∈ lnsOf m P ↔ On m P L := by
  have key : ∀ y u b : Fin 9, sb y u = b ↔ y = ad u b := by decide +kernel
  cases P <;> cases L <;> simp only [lnsOf, On, List.mem_cons, List.mem_map, reduceCtorEq, false_or, and_false, exists_false, Ln.aff.injEq, Ln.ver.injEq, or_false, true_or, mem_all9, true_and, exists_eq_right, iff_true, true_iff]
  all_goals first | done | exact ⟨fun ⟨x, h, e⟩ => by subst h; exact (key _ _ _).mp e, fun h => ⟨_, rfl, (key _ _ _).mpr h⟩⟩ | exact ⟨fun ⟨_, h, _⟩ => h, fun h => ⟨_, h, rfl⟩⟩ | exact ⟨fun h => h.symm, fun h => h.symm⟩ | exact ⟨_, rfl⟩
end Sys

/-! points and lines by number -/
def pointsI (m : Fin 9 → Fin 9 → Fin 9) (l : Int) : List Int := r91.filter fun p => onI m p l
def linesI (m : Fin 9 → Fin 9 → Fin 9) (p : Int) : List Int := r91.filter fun l => onI m p l
theorem onI_iff {m : Fin 9 → Fin 9 → Fin 9} {p l : Int} : onI m p l = true ↔ On m (pt p) (ln l) := by simp [onI]
theorem mem_pointsI {m : Fin 9 → Fin 9 → Fin 9} {p l : Int} : p ∈ pointsI m l ↔ Rg p ∧ onI m p l = true := by
  unfold pointsI
  rw [List.mem_filter, mem_r91]
  rfl
theorem mem_linesI {m : Fin 9 → Fin 9 → Fin 9} {p l : Int} : l ∈ linesI m p ↔ Rg l ∧ onI m p l = true := by
  unfold linesI
  rw [List.mem_filter, mem_r91]
  rfl
theorem map_nodup {α β : Type} {f : α → β} : ∀ {l : List α}, (∀ a b, f a = f b → a = b) → l.Nodup → (l.map f).Nodup := by
  intro l h
  induction l with
  | nil => intro _; simp
  | cons a l ih =>
    intro hl
    rw [List.map_cons, List.nodup_cons]
    refine ⟨fun hm => ?_, ih (List.nodup_cons.mp hl).2⟩
    obtain ⟨b, hb, e⟩ := List.mem_map.mp hm
    exact (List.nodup_cons.mp hl).1 (h _ _ e ▸ hb)
theorem ptsOf_nodup (m : Fin 9 → Fin 9 → Fin 9) (L : Ln) : (Sys.ptsOf m L).Nodup ∧ (Sys.ptsOf m L).length = 10 := by
  cases L with
  | aff a b =>
    refine ⟨List.nodup_cons.mpr ⟨fun h => ?_, map_nodup (fun x y e => (Pt.aff.inj e).1) all9_nodup⟩, rfl⟩
    obtain ⟨_, _, e⟩ := List.mem_map.mp h
    cases e
  | ver x =>
    refine ⟨List.nodup_cons.mpr ⟨fun h => ?_, map_nodup (fun x y e => (Pt.aff.inj e).2) all9_nodup⟩, rfl⟩
    obtain ⟨_, _, e⟩ := List.mem_map.mp h
    cases e
  | far =>
    refine ⟨List.nodup_cons.mpr ⟨fun h => ?_, map_nodup (fun x y e => Pt.inf.inj e) all9_nodup⟩, rfl⟩
    obtain ⟨_, _, e⟩ := List.mem_map.mp h
    cases e
theorem lnsOf_nodup (m : Fin 9 → Fin 9 → Fin 9) (P : Pt) : (Sys.lnsOf m P).Nodup ∧ (Sys.lnsOf m P).length = 10 := by
  cases P with
  | aff a b =>
    refine ⟨List.nodup_cons.mpr ⟨fun h => ?_, map_nodup (fun x y e => (Ln.aff.inj e).1) all9_nodup⟩, rfl⟩
    obtain ⟨_, _, e⟩ := List.mem_map.mp h
    cases e
  | inf x =>
    refine ⟨List.nodup_cons.mpr ⟨fun h => ?_, map_nodup (fun x y e => (Ln.aff.inj e).2) all9_nodup⟩, rfl⟩
    obtain ⟨_, _, e⟩ := List.mem_map.mp h
    cases e
  | top =>
    refine ⟨List.nodup_cons.mpr ⟨fun h => ?_, map_nodup (fun x y e => Ln.ver.inj e) all9_nodup⟩, rfl⟩
    obtain ⟨_, _, e⟩ := List.mem_map.mp h
    cases e
theorem pointsI_len (m : Fin 9 → Fin 9 → Fin 9) {l : Int} (hl : Rg l) : (pointsI m l).length = 10 := by
  rw [← (ptsOf_nodup m (ln l)).2, ← List.length_map (f := cp)]
  refine len_eq_of_same (r91_nodup.filter _) (map_nodup (fun P Q e => by rw [← pt_cp P, ← pt_cp Q, e]) (ptsOf_nodup m (ln l)).1) fun p => ?_
  rw [mem_pointsI, List.mem_map]
  constructor
  · rintro ⟨hp, ho⟩
    exact ⟨pt p, (Sys.mem_ptsOf m _ _).mpr (onI_iff.mp ho), cp_pt hp⟩
  · rintro ⟨P, hP, rfl⟩
    exact ⟨cp_mem P, onI_iff.mpr (by rw [pt_cp]; exact (Sys.mem_ptsOf m _ _).mp hP)⟩
theorem linesI_len (m : Fin 9 → Fin 9 → Fin 9) {p : Int} (hp : Rg p) : (linesI m p).length = 10 := by
  rw [← (lnsOf_nodup m (pt p)).2, ← List.length_map (f := cl)]
  refine len_eq_of_same (r91_nodup.filter _) (map_nodup (fun P Q e => by rw [← ln_cl P, ← ln_cl Q, e]) (lnsOf_nodup m (pt p)).1) fun l => ?_
  rw [mem_linesI, List.mem_map]
  constructor
  · rintro ⟨hl, ho⟩
    exact ⟨ln l, (Sys.mem_lnsOf m _ _).mpr (onI_iff.mp ho), cl_ln hl⟩
  · rintro ⟨L, hL, rfl⟩
    exact ⟨cl_mem L, onI_iff.mpr (by rw [ln_cl]; exact (Sys.mem_lnsOf m _ _).mp hL)⟩
theorem pointsI_asc (m : Fin 9 → Fin 9 → Fin 9) (l : Int) : (pointsI m l).Pairwise (· < ·) := r91_asc.filter _
theorem linesI_asc (m : Fin 9 → Fin 9 → Fin 9) (p : Int) : (linesI m p).Pairwise (· < ·) := r91_asc.filter _

namespace Sys
variable {m : Fin 9 → Fin 9 → Fin 9} (S : Sys m)
include S
theorem join_spec {p q : Int} (hp : Rg p) (hq : Rg q) (h : p ≠ q) : Rg (joinI m p q) ∧ onI m p (joinI m p q) = true ∧ onI m q (joinI m p q) = true := by
  obtain ⟨L, h1, h2⟩ := S.join_ex (pt p) (pt q) (fun e => h (pt_inj hp hq e))
  have := find91_some (f := fun l => onI m p l && onI m q l) (-1) (cl_mem L) (by rw [Bool.and_eq_true, onI_iff, onI_iff, ln_cl]; exact ⟨h1, h2⟩)
  exact ⟨this.2, Bool.and_eq_true_iff.mp this.1⟩
theorem meet_spec {l k : Int} (hl : Rg l) (hk : Rg k) : Rg (meetI m l k) ∧ onI m (meetI m l k) l = true ∧ onI m (meetI m l k) k = true := by
  by_cases h : l = k
  · subst h
    obtain ⟨p, hp⟩ : ∃ p, p ∈ pointsI m l := by
      cases e : pointsI m l with
      | nil => have := pointsI_len m hl; rw [e] at this; cases this
      | cons a _ => exact ⟨a, by simp⟩
    rw [mem_pointsI] at hp
    have := find91_some (f := fun p => onI m p l && onI m p l) (-1) hp.1 (by rw [Bool.and_self]; exact hp.2)
    exact ⟨this.2, Bool.and_eq_true_iff.mp this.1⟩
  · obtain ⟨P, h1, h2⟩ := S.meet_ex (ln l) (ln k) (fun e => h (ln_inj hl hk e))
    have := find91_some (f := fun p => onI m p l && onI m p k) (-1) (cp_mem P) (by rw [Bool.and_eq_true, onI_iff, onI_iff, pt_cp]; exact ⟨h1, h2⟩)
    exact ⟨this.2, Bool.and_eq_true_iff.mp this.1⟩
theorem one_line {p q l k : Int} (hp : Rg p) (hq : Rg q) (h : p ≠ q) (hl : Rg l) (hk : Rg k) (h1 : onI m p l = true) (h2 : onI m q l = true) (h3 : onI m p k = true) (h4 : onI m q k = true) : l = k :=
  ln_inj hl hk (S.uniq (fun e => h (pt_inj hp hq e)) (onI_iff.mp h1) (onI_iff.mp h2) (onI_iff.mp h3) (onI_iff.mp h4))
theorem one_point {p q l k : Int} (hp : Rg p) (hq : Rg q) (hl : Rg l) (hk : Rg k) (h : l ≠ k) (h1 : onI m p l = true) (h2 : onI m q l = true) (h3 : onI m p k = true) (h4 : onI m q k = true) : p = q :=
  Classical.byContradiction fun hne => h (S.one_line hp hq hne hl hk h1 h2 h3 h4)
theorem join_eq {p q l : Int} (hp : Rg p) (hq : Rg q) (h : p ≠ q) (hl : Rg l) (h1 : onI m p l = true) (h2 : onI m q l = true) : joinI m p q = l :=
  have j := S.join_spec hp hq h
  S.one_line hp hq h j.1 hl j.2.1 j.2.2 h1 h2
theorem meet_eq {l k p : Int} (hl : Rg l) (hk : Rg k) (h : l ≠ k) (hp : Rg p) (h1 : onI m p l = true) (h2 : onI m p k = true) : meetI m l k = p :=
  have j := S.meet_spec hl hk
  S.one_point j.1 hp hl hk h j.2.1 h1 j.2.2 h2
theorem three_join {p q r : Int} (hp : Rg p) (hq : Rg q) (hr : Rg r) (h1 : p ≠ q) (h2 : p ≠ r) (h3 : q ≠ r) (h : threeI m p q r = true) : joinI m q r = joinI m p q ∧ threeI m r q p = true ∧ threeI m q r p = true := by
  have j := S.join_spec hp hq h1
  have e := S.join_eq hq hr h3 j.1 j.2.2 h
  have e2 : joinI m r q = joinI m p q := by rw [joinI_comm, e]
  exact ⟨e, by unfold threeI; rw [e2]; exact j.2.1, by unfold threeI; rw [e]; exact j.2.1⟩
/-- Three points are on one line in any order. -/
theorem three_iff {p q r : Int} (hp : Rg p) (hq : Rg q) (hr : Rg r) (h1 : p ≠ q) (h2 : p ≠ r) (h3 : q ≠ r) : threeI m p q r = true ↔ ∃ l, Rg l ∧ onI m p l = true ∧ onI m q l = true ∧ onI m r l = true := by
  constructor
  · intro h
    have j := S.join_spec hp hq h1
    exact ⟨_, j.1, j.2.1, j.2.2, h⟩
  · rintro ⟨l, hl, a, b, c⟩
    unfold threeI
    rw [S.join_eq hp hq h1 hl a b]
    exact c
/-- Just one line through two points, counted. -/
theorem join_count {p q : Int} (hp : Rg p) (hq : Rg q) (h : p ≠ q) : ((linesI m p).filter fun l => onI m q l).length = 1 := by
  have j := S.join_spec hp hq h
  refine (len_eq_of_same (m := [joinI m p q]) ((r91_nodup.filter _).filter _) (by simp) fun l => ?_)
  rw [List.mem_filter, mem_linesI, List.mem_singleton]
  constructor
  · rintro ⟨⟨hl, h1⟩, h2⟩
    exact (S.join_eq hp hq h hl h1 h2).symm
  · rintro rfl
    exact ⟨⟨j.1, j.2.1⟩, j.2.2⟩
theorem meet_count {l k : Int} (hl : Rg l) (hk : Rg k) (h : l ≠ k) : ((pointsI m l).filter fun p => onI m p k).length = 1 := by
  have j := S.meet_spec hl hk
  refine (len_eq_of_same (m := [meetI m l k]) ((r91_nodup.filter _).filter _) (by simp) fun p => ?_)
  rw [List.mem_filter, mem_pointsI, List.mem_singleton]
  constructor
  · rintro ⟨⟨hp, h1⟩, h2⟩
    exact (S.meet_eq hl hk h hp h1 h2).symm
  · rintro rfl
    exact ⟨⟨j.1, j.2.1⟩, j.2.2⟩
end Sys
end Go.Proofs.Ytiobhhcbdcbajaa.Nine

namespace Go.Proofs.Ytiobhhcbdcbajaa.Nine

/-! quadrangles and hexagons -/
def crossI (m : Fin 9 → Fin 9 → Fin 9) (p q r s : Int) : Int := meetI m (joinI m p q) (joinI m r s)
theorem crossI_swap (m : Fin 9 → Fin 9 → Fin 9) (p q r s : Int) : crossI m r s p q = crossI m p q r s := meetI_comm _ _ _
theorem crossI_left (m : Fin 9 → Fin 9 → Fin 9) (p q r s : Int) : crossI m q p r s = crossI m p q r s := by unfold crossI; rw [joinI_comm]
theorem crossI_right (m : Fin 9 → Fin 9 → Fin 9) (p q r s : Int) : crossI m p q s r = crossI m p q r s := by unfold crossI; rw [joinI_comm m s r]
/-- No line has all three. -/
def Tri (m : Fin 9 → Fin 9 → Fin 9) (p q r : Int) : Prop := ∀ l, Rg l → ¬ (onI m p l = true ∧ onI m q l = true ∧ onI m r l = true)
theorem Tri.rot {m : Fin 9 → Fin 9 → Fin 9} {p q r : Int} (h : Tri m p q r) : Tri m q r p := fun l hl ⟨a, b, c⟩ => h l hl ⟨c, a, b⟩
theorem Tri.swap {m : Fin 9 → Fin 9 → Fin 9} {p q r : Int} (h : Tri m p q r) : Tri m q p r := fun l hl ⟨a, b, c⟩ => h l hl ⟨b, a, c⟩
structure Quad (m : Fin 9 → Fin 9 → Fin 9) (p q r s : Int) : Prop where
  hp : Rg p
  hq : Rg q
  hr : Rg r
  hs : Rg s
  pq : p ≠ q
  pr : p ≠ r
  ps : p ≠ s
  qr : q ≠ r
  qs : q ≠ s
  rs : r ≠ s
  pqr : Tri m p q r
  pqs : Tri m p q s
  prs : Tri m p r s
  qrs : Tri m q r s
theorem Quad.swap23 {m : Fin 9 → Fin 9 → Fin 9} {p q r s : Int} (h : Quad m p q r s) : Quad m p r q s :=
  ⟨h.hp, h.hr, h.hq, h.hs, h.pr, h.pq, h.ps, h.qr.symm, h.rs, h.qs, h.pqr.swap.rot, h.prs, h.pqs, h.qrs.swap⟩
/-- p, s, q, r -/
theorem Quad.rot234 {m : Fin 9 → Fin 9 → Fin 9} {p q r s : Int} (h : Quad m p q r s) : Quad m p s q r :=
  ⟨h.hp, h.hs, h.hq, h.hr, h.ps, h.pq, h.pr, h.qs.symm, h.rs.symm, h.qr, h.pqs.swap.rot, h.prs.swap.rot, h.pqr, h.qrs.rot.rot⟩
namespace Sys
variable {m : Fin 9 → Fin 9 → Fin 9} (S : Sys m)
include S
theorem cross_on {p q r s : Int} (hp : Rg p) (hq : Rg q) (hr : Rg r) (hs : Rg s) (pq : p ≠ q) (rs : r ≠ s) : Rg (crossI m p q r s) ∧ onI m (crossI m p q r s) (joinI m p q) = true ∧ onI m (crossI m p q r s) (joinI m r s) = true :=
  S.meet_spec (S.join_spec hp hq pq).1 (S.join_spec hr hs rs).1
theorem quad_ne {p q r s : Int} (h : Quad m p q r s) : crossI m p q r s ≠ p ∧ crossI m p q r s ≠ q ∧ crossI m p q r s ≠ r ∧ crossI m p q r s ≠ s := by
  have c := S.cross_on h.hp h.hq h.hr h.hs h.pq h.rs
  have j1 := S.join_spec h.hp h.hq h.pq
  have j2 := S.join_spec h.hr h.hs h.rs
  refine ⟨fun e => ?_, fun e => ?_, fun e => ?_, fun e => ?_⟩
  · rw [e] at c
    exact h.prs _ j2.1 ⟨c.2.2, j2.2.1, j2.2.2⟩
  · rw [e] at c
    exact h.qrs _ j2.1 ⟨c.2.2, j2.2.1, j2.2.2⟩
  · rw [e] at c
    exact h.pqr _ j1.1 ⟨j1.2.1, j1.2.2, c.2.1⟩
  · rw [e] at c
    exact h.pqs _ j1.1 ⟨j1.2.1, j1.2.2, c.2.1⟩
theorem quad_ne2 {p q r s : Int} (h : Quad m p q r s) : crossI m p q r s ≠ crossI m p r q s := by
  intro e
  have c := S.cross_on h.hp h.hq h.hr h.hs h.pq h.rs
  have d := S.cross_on h.hp h.hr h.hq h.hs h.pr h.qs
  have j1 := S.join_spec h.hp h.hq h.pq
  have j2 := S.join_spec h.hp h.hr h.pr
  rw [← e] at d
  have hne : joinI m p q ≠ joinI m p r := by
    intro e'
    exact h.pqr _ j1.1 ⟨j1.2.1, j1.2.2, by rw [e']; exact j2.2.2⟩
  exact (S.quad_ne h).1 (S.one_point c.1 h.hp j1.1 j2.1 hne c.2.1 j1.2.1 d.2.1 j2.2.1)
/-- The three diagonal points: not those of the quadrangle, and all different. -/
theorem quad_diag {p q r s : Int} (h : Quad m p q r s) :
    (∀ x ∈ [crossI m p q r s, crossI m p r q s, crossI m p s q r], ∀ y ∈ [p, q, r, s], x ≠ y) ∧ crossI m p q r s ≠ crossI m p r q s ∧ crossI m p q r s ≠ crossI m p s q r ∧ crossI m p r q s ≠ crossI m p s q r := by
  have h1 := S.quad_ne h
  have h2 := S.quad_ne h.swap23
  have h3 := S.quad_ne h.rot234
  refine ⟨?_, S.quad_ne2 h, ?_, ?_⟩
  · intro x hx y hy
    simp only [List.mem_cons, List.not_mem_nil, or_false] at hx hy
    rcases hx with rfl | rfl | rfl <;> rcases hy with rfl | rfl | rfl | rfl
    · exact h1.1
    · exact h1.2.1
    · exact h1.2.2.1
    · exact h1.2.2.2
    · exact h2.1
    · exact h2.2.2.1
    · exact h2.2.1
    · exact h2.2.2.2
    · exact h3.1
    · exact h3.2.2.1
    · exact h3.2.2.2
    · exact h3.2.1
  · have := S.quad_ne2 h.rot234
    intro e
    refine this ?_
    rw [← e, crossI_right m p q s r]
  · have := S.quad_ne2 h.rot234.rot234
    rw [crossI_right m p r q s, crossI_right m p s q r] at this
    exact this
end Sys

/-! fields: what shares sums from both sides and has brackets -/
structure Fld (m : Fin 9 → Fin 9 → Fin 9) : Prop where
  sys : Sys m
  both : Both m
  brk : Brk m
theorem closed_all (p : Fin 9 → Prop) (h0 : p 0) (h1 : p 1) (h2 : p 2) (h3 : p 3) (h : ∀ a b, p a → p b → p (ad a b)) (a : Fin 9) : p a := by
  rcases gen9 3 (by decide) (by decide) (by decide) a with rfl | rfl | rfl | rfl | rfl | rfl | rfl | rfl | rfl
  · exact h0
  · exact h1
  · exact h2
  · exact h3
  · exact h _ _ h3 h1
  · exact h _ _ h3 h2
  · exact h _ _ h3 h3
  · exact h _ _ (h _ _ h3 h3) h1
  · exact h _ _ (h _ _ h3 h3) h2
namespace Fld
variable {m : Fin 9 → Fin 9 → Fin 9} (F : Fld m)
include F
theorem bo (a b c : Fin 9) : m a (ad b c) = ad (m a b) (m a c) := F.both a b c
theorem br (a b c : Fin 9) : m (m a b) c = m a (m b c) := F.brk a b c
theorem comm3 (a : Fin 9) : m a 3 = m 3 a := by
  have S := F.sys
  refine closed_all (fun a => m a 3 = m 3 a) ?_ ?_ ?_ rfl ?_ a
  · rw [S.zl, S.zr]
  · rw [S.ol, S.or]
  · rw [S.two, S.both_two F.both]
  · intro a b ha hb
    rw [S.di, F.both, ha, hb]
theorem comm (a b : Fin 9) : m a b = m b a := by
  have S := F.sys
  refine closed_all (fun a => m a b = m b a) ?_ ?_ ?_ ?_ ?_ a
  · rw [S.zl, S.zr]
  · rw [S.ol, S.or]
  · rw [S.two, S.both_two F.both]
  · exact (F.comm3 b).symm
  · intro a c ha hc
    rw [S.di, F.both, ha, hc]
theorem ngr (a c : Fin 9) : m a (ng c) = ng (m a c) := by rw [F.comm, F.sys.ngl, F.comm]
theorem sbr (a b c : Fin 9) : m a (sb b c) = sb (m a b) (m a c) := by unfold sb; rw [F.both, F.ngr]
theorem no_zero {a b : Fin 9} (h : m a b = 0) : a = 0 ∨ b = 0 := by
  by_cases hb : b = 0
  · exact .inr hb
  · exact .inl (F.sys.col hb (by rw [h, F.sys.zl]))
theorem m_ne {a b : Fin 9} (ha : a ≠ 0) (hb : b ≠ 0) : m a b ≠ 0 := fun h => (F.no_zero h).elim ha hb
end Fld

/-- A linear function of lines: what a vector does. -/
def dot (m : Fin 9 → Fin 9 → Fin 9) (v : Fin 9 × Fin 9 × Fin 9) : Ln → Fin 9
  | .aff a b => ad (ad (m a v.1) (ng v.2.1)) (m b v.2.2)
  | .ver x => sb v.1 (m x v.2.2)
  | .far => v.2.2
def vec : Pt → Fin 9 × Fin 9 × Fin 9
  | .aff x y => (x, y, 1)
  | .inf a => (1, a, 0)
  | .top => (0, 1, 0)
def Rep (m : Fin 9 → Fin 9 → Fin 9) (f : Ln → Fin 9) (P : Pt) : Prop := ∀ L, On m P L ↔ f L = 0
def IsV (m : Fin 9 → Fin 9 → Fin 9) (f : Ln → Fin 9) : Prop := ∃ v, ∀ L, f L = dot m v L
instance ad_isAssoc : Std.Associative ad := ⟨ad_assoc⟩
instance ad_isComm : Std.Commutative ad := ⟨ad_comm⟩
namespace Fld
variable {m : Fin 9 → Fin 9 → Fin 9} (F : Fld m)
include F
theorem isV_ad {f g : Ln → Fin 9} (hf : IsV m f) (hg : IsV m g) : IsV m fun L => ad (f L) (g L) := by
  obtain ⟨u, hu⟩ := hf
  obtain ⟨v, hv⟩ := hg
  refine ⟨(ad u.1 v.1, ad u.2.1 v.2.1, ad u.2.2 v.2.2), fun L => ?_⟩
  show ad (f L) (g L) = _
  rw [hu, hv]
  cases L with
  | aff a b =>
    simp only [dot, F.bo, ng_of_ad]
    ac_rfl
  | ver x =>
    simp only [dot, sb, F.bo, ng_of_ad]
    ac_rfl
  | far => rfl
theorem isV_mul {f : Ln → Fin 9} (k : Fin 9) (hf : IsV m f) : IsV m fun L => m k (f L) := by
  obtain ⟨u, hu⟩ := hf
  have e : ∀ a b : Fin 9, m a (m k b) = m k (m a b) := fun a b => by rw [← F.brk, F.comm a k, F.brk]
  refine ⟨(m k u.1, m k u.2.1, m k u.2.2), fun L => ?_⟩
  show m k (f L) = _
  rw [hu]
  cases L with
  | aff a b => simp only [dot, F.bo, F.ngr, e]
  | ver x => simp only [dot, sb, F.bo, F.ngr, e]
  | far => rfl
theorem rep_vec (P : Pt) : Rep m (dot m (vec P)) P := by
  have S := F.sys
  intro L
  cases P <;> cases L <;> simp only [dot, vec, On, S.or, S.zr, ad_zero, sb_zero, true_iff, false_iff]
  · rename_i x y a b
    rw [F.comm a x]
    exact (by decide +kernel : ∀ u y b : Fin 9, y = ad u b ↔ ad (ad u (ng y)) b = 0) _ _ _
  · exact (by decide +kernel : ∀ x y : Fin 9, x = y ↔ sb x y = 0) _ _
  · decide
  · exact (by decide +kernel : ∀ x y : Fin 9, x = y ↔ ad y (ng x) = 0) _ _
  · decide
  · decide
theorem rep_of {f : Ln → Fin 9} {g : Ln → Fin 9} {P : Pt} {k : Fin 9} (hk : k ≠ 0) (h : ∀ L, g L = m (f L) k) (hf : Rep m f P) : Rep m g P := fun L => by
  rw [hf L, h L]
  exact ⟨fun e => by rw [e, F.sys.zl], fun e => (F.no_zero e).elim id fun e' => absurd e' hk⟩
theorem rep_ex {f : Ln → Fin 9} (hf : IsV m f) {L0 : Ln} (h0 : f L0 ≠ 0) : ∃ P, Rep m f P := by
  have S := F.sys
  obtain ⟨⟨X, Y, Z⟩, hv⟩ := hf
  by_cases hZ : Z = 0
  · subst hZ
    by_cases hX : X = 0
    · subst hX
      by_cases hY : Y = 0
      · subst hY
        exfalso
        apply h0
        rw [hv]
        cases L0 <;> simp only [dot, S.zr, ad_zero, ng_zero, sb_zero]
      · refine ⟨.top, F.rep_of hY (fun L => ?_) (F.rep_vec .top)⟩
        rw [hv]
        cases L <;> simp only [dot, vec, S.zr, S.zl, ad_zero, zero_ad, sb_zero, S.ngl, S.ol]
    · obtain ⟨a', rfl⟩ := S.col_ex hX Y
      refine ⟨.inf a', F.rep_of hX (fun L => ?_) (F.rep_vec (.inf a'))⟩
      rw [hv]
      cases L <;> simp only [dot, vec, S.zr, S.zl, ad_zero, zero_ad, sb_zero, S.ngl, S.ol, S.or, S.di]
  · obtain ⟨x, rfl⟩ := S.col_ex hZ X
    obtain ⟨y, rfl⟩ := S.col_ex hZ Y
    refine ⟨.aff x y, F.rep_of hZ (fun L => ?_) (F.rep_vec (.aff x y))⟩
    rw [hv]
    cases L <;> simp only [dot, vec, sb, S.ngl, S.ol, S.or, S.di, F.br]
/-- A point of two lines is what a vector does that both kill and something does not. -/
theorem rep_at {f : Ln → Fin 9} (hf : IsV m f) {P : Pt} {K L : Ln} (hKL : K ≠ L) (h1 : On m P K) (h2 : On m P L) (e1 : f K = 0) (e2 : f L = 0) {N : Ln} (hN : f N ≠ 0) : Rep m f P := by
  obtain ⟨Q, hQ⟩ := F.rep_ex hf hN
  have : Q = P := Classical.byContradiction fun hne => hKL (F.sys.uniq hne ((hQ K).mpr e1) h1 ((hQ L).mpr e2) h2)
  exact this ▸ hQ
theorem line_off {B : Pt} (K : Ln) : ∃ L, On m B L ∧ L ≠ K := by
  have h := lnsOf_nodup m B
  refine Classical.byContradiction fun hn => ?_
  have : ∀ L ∈ Sys.lnsOf m B, L ∈ [K] := fun L hL => by
    rw [List.mem_singleton]
    exact Classical.byContradiction fun hne => hn ⟨L, (Sys.mem_lnsOf m B L).mp hL, hne⟩
  have := len_le_of_sub _ _ h.1 this
  rw [h.2] at this
  simp at this
/-- A third point of a line. -/
theorem span {O A B : Pt} {K : Ln} (hOA : O ≠ A) (hOB : O ≠ B) (hO : On m O K) (hA : On m A K) (hB : On m B K) {o a : Ln → Fin 9} (vo : IsV m o) (va : IsV m a) (ro : Rep m o O) (ra : Rep m a A) :
    ∃ k, Rep m (fun L => ad (a L) (m k (o L))) B ∧ (A ≠ B → k ≠ 0) := by
  have S := F.sys
  obtain ⟨L, hL, hLK⟩ := F.line_off (B := B) K
  have hoL : o L ≠ 0 := fun e => hLK (S.uniq hOB ((ro L).mpr e) hL hO hB)
  obtain ⟨k, hk⟩ := S.col_ex hoL (ng (a L))
  have eo : o K = 0 := (ro K).mp hO
  have ea : a K = 0 := (ra K).mp hA
  obtain ⟨M, hM, hMK⟩ := F.line_off (B := O) K
  have haM : a M ≠ 0 := fun e => hMK (S.uniq hOA hM ((ra M).mpr e) hO hA)
  have hr : Rep m (fun L => ad (a L) (m k (o L))) B := by
    refine F.rep_at (F.isV_ad va (F.isV_mul k vo)) hLK hL hB ?_ ?_ (N := M) ?_
    · show ad (a L) (m k (o L)) = 0
      rw [hk, ad_ng]
    · show ad (a K) (m k (o K)) = 0
      rw [eo, ea, S.zr, ad_zero]
    · show ad (a M) (m k (o M)) ≠ 0
      rw [(ro M).mp hM, S.zr, ad_zero]
      exact haM
  refine ⟨k, hr, ?_⟩
  rintro hAB rfl
  obtain ⟨N, hN, hNK⟩ := F.line_off (B := A) K
  have e := (hr N).mpr (by show ad (a N) (m 0 (o N)) = 0; rw [S.zl, ad_zero]; exact (ra N).mp hN)
  exact hNK (S.uniq hAB hN e hA hB)
end Fld

namespace Fld
variable {m : Fin 9 → Fin 9 → Fin 9} (F : Fld m)
include F
theorem sw (a b c : Fin 9) : m a (m b c) = m b (m a c) := by rw [← F.br, F.comm a b, F.br]
theorem rep_inj {f : Ln → Fin 9} {P Q : Pt} (hP : Rep m f P) (hQ : Rep m f Q) : P = Q := by
  obtain ⟨K, hK, _⟩ := F.line_off (B := P) .far
  obtain ⟨L, hL, hLK⟩ := F.line_off (B := P) K
  exact Classical.byContradiction fun hne => hLK (F.sys.uniq hne hL ((hQ L).mpr ((hP L).mp hL)) hK ((hQ K).mpr ((hP K).mp hK)))
/-- Over a field all hexagons close. -/
theorem pappus {O A B C D E G : Pt} {K M : Ln} (hKM : K ≠ M) (hOK : On m O K) (hOM : On m O M) (hA : On m A K) (hB : On m B K) (hC : On m C K) (hD : On m D M) (hE : On m E M) (hG : On m G M)
    (oA : O ≠ A) (oB : O ≠ B) (oC : O ≠ C) (oD : O ≠ D) (oE : O ≠ E) (oG : O ≠ G) (ab : A ≠ B) (ac : A ≠ C) (bc : B ≠ C)
    {LAE LBD LAG LCD LBG LCE N : Ln} {P Q R : Pt} (a1 : On m A LAE) (a2 : On m E LAE) (a3 : On m B LBD) (a4 : On m D LBD) (b1 : On m A LAG) (b2 : On m G LAG) (b3 : On m C LCD) (b4 : On m D LCD)
    (c1 : On m B LBG) (c2 : On m G LBG) (c3 : On m C LCE) (c4 : On m E LCE) (p1 : On m P LAE) (p2 : On m P LBD) (q1 : On m Q LAG) (q2 : On m Q LCD) (r1 : On m R LBG) (r2 : On m R LCE) (n1 : On m P N) (n2 : On m Q N) : On m R N := by
  have S := F.sys
  have off : ∀ X, On m X M → O ≠ X → ¬ On m X K := fun X h1 h2 h3 => hKM (S.uniq h2 hOK h3 hOM h1)
  obtain ⟨o, vo, ro⟩ : ∃ f, IsV m f ∧ Rep m f O := ⟨_, ⟨_, fun _ => rfl⟩, F.rep_vec O⟩
  obtain ⟨a, va, ra⟩ : ∃ f, IsV m f ∧ Rep m f A := ⟨_, ⟨_, fun _ => rfl⟩, F.rep_vec A⟩
  obtain ⟨d, vd, rd⟩ : ∃ f, IsV m f ∧ Rep m f D := ⟨_, ⟨_, fun _ => rfl⟩, F.rep_vec D⟩
  obtain ⟨be, rb, hbe⟩ := F.span oA oB hOK hA hB vo va ro ra
  obtain ⟨ga, rc, hga⟩ := F.span oA oC hOK hA hC vo va ro ra
  obtain ⟨ep, re, _⟩ := F.span oD oE hOM hD hE vo vd ro rd
  obtain ⟨ph, rg, _⟩ := F.span oD oG hOM hD hG vo vd ro rd
  have hbe := hbe ab
  have hga := hga ac
  have hbg : sb be ga ≠ 0 := fun e => bc (by
    have := sb_eq_zero _ _ e
    subst this
    exact F.rep_inj rb rc)
  have vb := F.isV_ad va (F.isV_mul be vo)
  have vc := F.isV_ad va (F.isV_mul ga vo)
  have ve := F.isV_ad vd (F.isV_mul ep vo)
  have vg := F.isV_ad vd (F.isV_mul ph vo)
  generalize hb : (fun L => ad (a L) (m be (o L))) = b at *
  generalize hc : (fun L => ad (a L) (m ga (o L))) = c at *
  generalize he : (fun L => ad (d L) (m ep (o L))) = e at *
  generalize hg : (fun L => ad (d L) (m ph (o L))) = g at *
  have eb : ∀ L, b L = ad (a L) (m be (o L)) := fun L => by rw [← hb]
  have ec : ∀ L, c L = ad (a L) (m ga (o L)) := fun L => by rw [← hc]
  have ee : ∀ L, e L = ad (d L) (m ep (o L)) := fun L => by rw [← he]
  have eg : ∀ L, g L = ad (d L) (m ph (o L)) := fun L => by rw [← hg]
  clear hb hc he hg
  have kP : ∀ L, ad (m ep (a L)) (m be (e L)) = ad (m ep (b L)) (m be (d L)) := fun L => by
    rw [ee, eb, F.bo, F.bo, F.sw be ep]
    ac_rfl
  have kQ : ∀ L, ad (m ph (a L)) (m ga (g L)) = ad (m ph (c L)) (m ga (d L)) := fun L => by
    rw [eg, ec, F.bo, F.bo, F.sw ga ph]
    ac_rfl
  have kR1 : ∀ L, ad (m (sb ep ph) (b L)) (m (sb be ga) (g L)) = sb (ad (m ep (a L)) (m be (e L))) (ad (m ph (a L)) (m ga (g L))) := fun L => by
    have hz := ad_ng (m be (m ph (o L)))
    simp only [ee, eb, eg, sb, F.bo, S.di, S.ngl, ng_of_ad, F.sw ph be, F.sw ep be]
    refine Eq.trans ?_ (ad_zero _)
    rw [← hz]
    ac_rfl
  have kR2 : ∀ L, ad (m (sb ep ph) (c L)) (m (sb be ga) (e L)) = sb (ad (m ep (a L)) (m be (e L))) (ad (m ph (a L)) (m ga (g L))) := fun L => by
    have hz := ad_ng (m ga (m ep (o L)))
    simp only [ee, ec, eg, sb, F.bo, S.di, S.ngl, ng_of_ad, F.sw ph ga, F.sw ep ga]
    refine Eq.trans ?_ (ad_zero _)
    rw [← hz]
    ac_rfl
  have bK : b K = 0 := (rb K).mp hB
  have cK : c K = 0 := (rc K).mp hC
  have dK : d K ≠ 0 := fun h => off D hD oD ((rd K).mpr h)
  have gK : g K ≠ 0 := fun h => off G hG oG ((rg K).mpr h)
  have rP : Rep m (fun L => ad (m ep (a L)) (m be (e L))) P := by
    refine F.rep_at (F.isV_ad (F.isV_mul ep va) (F.isV_mul be ve)) (K := LAE) (L := LBD) ?_ p1 p2 ?_ ?_ (N := K) ?_
    · rintro rfl
      exact off D hD oD (S.uniq ab a1 a3 hA hB ▸ a4)
    · show ad _ _ = 0
      rw [(ra _).mp a1, (re _).mp a2, S.zr, S.zr, ad_zero]
    · show ad _ _ = 0
      rw [kP, (rb _).mp a3, (rd _).mp a4, S.zr, S.zr, ad_zero]
    · show ad _ _ ≠ 0
      rw [kP, bK, S.zr, zero_ad]
      exact F.m_ne hbe dK
  have rQ : Rep m (fun L => ad (m ph (a L)) (m ga (g L))) Q := by
    refine F.rep_at (F.isV_ad (F.isV_mul ph va) (F.isV_mul ga vg)) (K := LAG) (L := LCD) ?_ q1 q2 ?_ ?_ (N := K) ?_
    · rintro rfl
      exact off D hD oD (S.uniq ac b1 b3 hA hC ▸ b4)
    · show ad _ _ = 0
      rw [(ra _).mp b1, (rg _).mp b2, S.zr, S.zr, ad_zero]
    · show ad _ _ = 0
      rw [kQ, (rc _).mp b3, (rd _).mp b4, S.zr, S.zr, ad_zero]
    · show ad _ _ ≠ 0
      rw [kQ, cK, S.zr, zero_ad]
      exact F.m_ne hga dK
  have rR : Rep m (fun L => ad (m (sb ep ph) (b L)) (m (sb be ga) (g L))) R := by
    refine F.rep_at (F.isV_ad (F.isV_mul _ vb) (F.isV_mul _ vg)) (K := LBG) (L := LCE) ?_ r1 r2 ?_ ?_ (N := K) ?_
    · rintro rfl
      exact off G hG oG (S.uniq bc c1 c3 hB hC ▸ c2)
    · show ad _ _ = 0
      rw [(rb _).mp c1, (rg _).mp c2, S.zr, S.zr, ad_zero]
    · show ad _ _ = 0
      rw [kR1, ← kR2, (rc _).mp c3, (re _).mp c4, S.zr, S.zr, ad_zero]
    · show ad _ _ ≠ 0
      rw [bK, S.zr, zero_ad]
      exact F.m_ne hbg gK
  refine (rR N).mpr ?_
  have h1 : ad (m ep (a N)) (m be (e N)) = 0 := (rP N).mp n1
  have h2 : ad (m ph (a N)) (m ga (g N)) = 0 := (rQ N).mp n2
  show ad _ _ = 0
  rw [kR1, h1, h2, sb_self]
/-- Over a field the diagonal points of a quadrangle are on no line. -/
theorem fano {X0 X1 X2 X3 D0 D1 D2 : Pt} {L01 L23 L02 L13 L03 L12 N : Ln} (t012 : ∀ L, ¬ (On m X0 L ∧ On m X1 L ∧ On m X2 L)) (t123 : ∀ L, ¬ (On m X1 L ∧ On m X2 L ∧ On m X3 L)) (t013 : ∀ L, ¬ (On m X0 L ∧ On m X1 L ∧ On m X3 L))
    (h01 : X1 ≠ X0) (h02 : X2 ≠ X0) (e10 : X1 ≠ D0) (e00 : X0 ≠ D0) (e21 : X2 ≠ D1) (e01 : X0 ≠ D1) (a1 : On m X0 L01) (a2 : On m X1 L01) (a3 : On m X2 L23) (a4 : On m X3 L23) (b1 : On m X0 L02) (b2 : On m X2 L02) (b3 : On m X1 L13) (b4 : On m X3 L13)
    (c1 : On m X0 L03) (c2 : On m X3 L03) (c3 : On m X1 L12) (c4 : On m X2 L12) (d1 : On m D0 L01) (d2 : On m D0 L23) (d3 : On m D1 L02) (d4 : On m D1 L13) (d5 : On m D2 L03) (d6 : On m D2 L12) (n0 : On m D0 N) (n1 : On m D1 N) (n2 : On m D2 N) : False := by
  have S := F.sys
  obtain ⟨a, va, ra⟩ : ∃ f, IsV m f ∧ Rep m f X0 := ⟨_, ⟨_, fun _ => rfl⟩, F.rep_vec X0⟩
  obtain ⟨b0, vb0, rb0⟩ : ∃ f, IsV m f ∧ Rep m f X1 := ⟨_, ⟨_, fun _ => rfl⟩, F.rep_vec X1⟩
  obtain ⟨c0, vc0, rc0⟩ : ∃ f, IsV m f ∧ Rep m f X2 := ⟨_, ⟨_, fun _ => rfl⟩, F.rep_vec X2⟩
  obtain ⟨k, r0, hk⟩ := F.span h01 e10 a2 a1 d1 vb0 va rb0 ra
  obtain ⟨l, r1, hl⟩ := F.span h02 e21 b2 b1 d3 vc0 va rc0 ra
  have rb : Rep m (fun L => m k (b0 L)) X1 := F.rep_of (hk e00) (fun L => F.comm _ _) rb0
  have rc : Rep m (fun L => m l (c0 L)) X2 := F.rep_of (hl e01) (fun L => F.comm _ _) rc0
  have vb := F.isV_mul k vb0
  have vc := F.isV_mul l vc0
  generalize hb : (fun L => m k (b0 L)) = b at *
  generalize hc : (fun L => m l (c0 L)) = c at *
  have r0 : Rep m (fun L => ad (a L) (b L)) D0 := by rw [← hb]; exact r0
  have r1 : Rep m (fun L => ad (a L) (c L)) D1 := by rw [← hc]; exact r1
  have c01 : c L01 ≠ 0 := fun h => t012 L01 ⟨a1, a2, (rc _).mpr h⟩
  have r3 : Rep m (fun L => ad (ad (a L) (b L)) (c L)) X3 := by
    refine F.rep_at (F.isV_ad (F.isV_ad va vb) vc) (K := L23) (L := L13) ?_ a4 b4 ?_ ?_ (N := L01) ?_
    · rintro rfl
      exact t123 _ ⟨b3, a3, a4⟩
    · show ad (ad _ _) _ = 0
      have h1 : ad (a L23) (b L23) = 0 := (r0 L23).mp d2
      rw [h1, (rc _).mp a3, ad_zero]
    · show ad (ad _ _) _ = 0
      have h1 : ad (a L13) (c L13) = 0 := (r1 L13).mp d4
      rw [(rb _).mp b3, ad_zero, h1]
    · show ad (ad _ _) _ ≠ 0
      have h1 : ad (a L01) (b L01) = 0 := (r0 L01).mp d1
      rw [h1, zero_ad]
      exact c01
  have r2 : Rep m (fun L => ad (b L) (c L)) D2 := by
    refine F.rep_at (F.isV_ad vb vc) (K := L03) (L := L12) ?_ d5 d6 ?_ ?_ (N := L01) ?_
    · rintro rfl
      exact t012 _ ⟨c1, c3, c4⟩
    · show ad _ _ = 0
      have h1 : ad (ad (a L03) (b L03)) (c L03) = 0 := (r3 L03).mp c2
      rw [(ra _).mp c1, zero_ad] at h1
      exact h1
    · show ad _ _ = 0
      rw [(rb _).mp c3, (rc _).mp c4, ad_zero]
    · show ad _ _ ≠ 0
      rw [(rb _).mp a2, zero_ad]
      exact c01
  have z : a N = 0 ∧ b N = 0 ∧ c N = 0 := (by decide +kernel : ∀ a b c : Fin 9, ad a b = 0 → ad a c = 0 → ad b c = 0 → a = 0 ∧ b = 0 ∧ c = 0) _ _ _ ((r0 N).mp n0) ((r1 N).mp n1) ((r2 N).mp n2)
  exact t012 N ⟨(ra _).mpr z.1, (rb _).mpr z.2.1, (rc _).mpr z.2.2⟩
end Fld

/-! hexagons and quadrangles by number, over a field -/
def closesI (m : Fin 9 → Fin 9 → Fin 9) (p q r : Int) : Bool := decide (p = q) || decide (p = r) || decide (q = r) || threeI m p q r
structure Hex (m : Fin 9 → Fin 9 → Fin 9) (a b c d e g : Int) : Prop where
  ha : Rg a
  hb : Rg b
  hc : Rg c
  hd : Rg d
  he : Rg e
  hg : Rg g
  nd : [a, b, c, d, e, g].Nodup
  abc : threeI m a b c = true
  deg : threeI m d e g = true
  ne : joinI m a b ≠ joinI m d e
  out : meetI m (joinI m a b) (joinI m d e) ∉ [a, b, c, d, e, g]
theorem ptne {p q : Int} (hp : Rg p) (hq : Rg q) (h : p ≠ q) : pt p ≠ pt q := fun e => h (pt_inj hp hq e)
namespace Fld
variable {m : Fin 9 → Fin 9 → Fin 9} (F : Fld m)
include F
theorem hex {a b c d e g : Int} (h : Hex m a b c d e g) : closesI m (crossI m a e b d) (crossI m a g c d) (crossI m b g c e) = true := by
  have S := F.sys
  obtain ⟨ha, hb, hc, hd, he, hg, nd, abc, deg, ne, out⟩ := h
  simp only [List.nodup_cons, List.mem_cons, List.not_mem_nil, or_false, not_or, not_false_eq_true, List.nodup_nil, and_true] at nd out
  obtain ⟨⟨ab, ac, ad', ae, ag⟩, ⟨bc, bd, be, bg⟩, ⟨cd, ce, cg⟩, ⟨de, dg⟩, eg⟩ := nd
  have j1 := S.join_spec ha hb ab
  have j2 := S.join_spec hd he de
  have o := S.meet_spec j1.1 j2.1
  have J : ∀ {x y : Int}, Rg x → Rg y → x ≠ y → On m (pt x) (ln (joinI m x y)) ∧ On m (pt y) (ln (joinI m x y)) := fun hx hy hxy => ⟨onI_iff.mp (S.join_spec hx hy hxy).2.1, onI_iff.mp (S.join_spec hx hy hxy).2.2⟩
  have C : ∀ {x y z w : Int}, Rg x → Rg y → Rg z → Rg w → x ≠ y → z ≠ w → Rg (crossI m x y z w) ∧ On m (pt (crossI m x y z w)) (ln (joinI m x y)) ∧ On m (pt (crossI m x y z w)) (ln (joinI m z w)) := fun hx hy hz hw hxy hzw =>
    have c := S.cross_on hx hy hz hw hxy hzw
    ⟨c.1, onI_iff.mp c.2.1, onI_iff.mp c.2.2⟩
  have P := C ha he hb hd ae bd
  have Q := C ha hg hc hd ag cd
  have R := C hb hg hc he bg ce
  unfold closesI
  by_cases hPQ : crossI m a e b d = crossI m a g c d
  · rw [decide_eq_true hPQ]
    rfl
  · have n := J P.1 Q.1 hPQ
    rw [show threeI m (crossI m a e b d) (crossI m a g c d) (crossI m b g c e) = true from ?_]
    · simp
    · unfold threeI
      rw [onI_iff]
      exact F.pappus (fun e' => ne (ln_inj j1.1 j2.1 e')) (onI_iff.mp o.2.1) (onI_iff.mp o.2.2) (onI_iff.mp j1.2.1) (onI_iff.mp j1.2.2) (onI_iff.mp abc) (onI_iff.mp j2.2.1) (onI_iff.mp j2.2.2) (onI_iff.mp deg)
        (ptne o.1 ha out.1) (ptne o.1 hb out.2.1) (ptne o.1 hc out.2.2.1) (ptne o.1 hd out.2.2.2.1) (ptne o.1 he out.2.2.2.2.1) (ptne o.1 hg out.2.2.2.2.2) (ptne ha hb ab) (ptne ha hc ac) (ptne hb hc bc)
        (J ha he ae).1 (J ha he ae).2 (J hb hd bd).1 (J hb hd bd).2 (J ha hg ag).1 (J ha hg ag).2 (J hc hd cd).1 (J hc hd cd).2 (J hb hg bg).1 (J hb hg bg).2 (J hc he ce).1 (J hc he ce).2
        P.2.1 P.2.2 Q.2.1 Q.2.2 R.2.1 R.2.2 n.1 n.2
theorem quad {p q r s : Int} (h : Quad m p q r s) : threeI m (crossI m p q r s) (crossI m p r q s) (crossI m p s q r) = false := by
  have S := F.sys
  have dg := S.quad_diag h
  have J : ∀ {x y : Int}, Rg x → Rg y → x ≠ y → On m (pt x) (ln (joinI m x y)) ∧ On m (pt y) (ln (joinI m x y)) := fun hx hy hxy => ⟨onI_iff.mp (S.join_spec hx hy hxy).2.1, onI_iff.mp (S.join_spec hx hy hxy).2.2⟩
  have C : ∀ {x y z w : Int}, Rg x → Rg y → Rg z → Rg w → x ≠ y → z ≠ w → Rg (crossI m x y z w) ∧ On m (pt (crossI m x y z w)) (ln (joinI m x y)) ∧ On m (pt (crossI m x y z w)) (ln (joinI m z w)) := fun hx hy hz hw hxy hzw =>
    have c := S.cross_on hx hy hz hw hxy hzw
    ⟨c.1, onI_iff.mp c.2.1, onI_iff.mp c.2.2⟩
  have T : ∀ {x y z : Int}, Tri m x y z → ∀ L, ¬ (On m (pt x) L ∧ On m (pt y) L ∧ On m (pt z) L) := fun t L h' => t (cl L) (cl_mem L) ⟨onI_iff.mpr (by rw [ln_cl]; exact h'.1), onI_iff.mpr (by rw [ln_cl]; exact h'.2.1), onI_iff.mpr (by rw [ln_cl]; exact h'.2.2)⟩
  have D0 := C h.hp h.hq h.hr h.hs h.pq h.rs
  have D1 := C h.hp h.hr h.hq h.hs h.pr h.qs
  have D2 := C h.hp h.hs h.hq h.hr h.ps h.qr
  have N := J D0.1 D1.1 dg.2.1
  refine Bool.eq_false_iff.mpr fun ht => ?_
  unfold threeI at ht
  have e0 := dg.1 (crossI m p q r s) (by simp)
  have e1 := dg.1 (crossI m p r q s) (by simp)
  exact F.fano (T h.pqr) (T h.qrs) (T h.pqs) (ptne h.hq h.hp h.pq.symm) (ptne h.hr h.hp h.pr.symm) (ptne h.hq D0.1 (e0 q (by simp)).symm) (ptne h.hp D0.1 (e0 p (by simp)).symm) (ptne h.hr D1.1 (e1 r (by simp)).symm) (ptne h.hp D1.1 (e1 p (by simp)).symm)
    (J h.hp h.hq h.pq).1 (J h.hp h.hq h.pq).2 (J h.hr h.hs h.rs).1 (J h.hr h.hs h.rs).2 (J h.hp h.hr h.pr).1 (J h.hp h.hr h.pr).2 (J h.hq h.hs h.qs).1 (J h.hq h.hs h.qs).2 (J h.hp h.hs h.ps).1 (J h.hp h.hs h.ps).2 (J h.hq h.hr h.qr).1 (J h.hq h.hr h.qr).2
    D0.2.1 D0.2.2 D1.2.1 D1.2.2 D2.2.1 D2.2.2 N.1 N.2 (onI_iff.mp ht)
end Fld
end Go.Proofs.Ytiobhhcbdcbajaa.Nine
