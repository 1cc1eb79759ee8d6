/- Plain laws of systems of nine elements: products with an element are all different, kernels and centres are closed, two points have just one line. Conditions: the table is a system (Sys). -/
set_option linter.unusedVariables false
set_option linter.unusedSimpArgs false
set_option linter.unusedSectionVars false
namespace Go.Proofs.Ytiobhhcbdcbajaa.Nine
def ad (a b : Fin 9) : Fin 9 := ⟨(a.1 % 3 + b.1 % 3) % 3 + 3 * ((a.1 / 3 + b.1 / 3) % 3), by omega⟩
def ng (a : Fin 9) : Fin 9 := ⟨(3 - a.1 % 3) % 3 + 3 * ((3 - a.1 / 3) % 3), by omega⟩
def sb (a b : Fin 9) : Fin 9 := ad a (ng b)
theorem ad_comm : ∀ a b, ad a b = ad b a := by decide +kernel
theorem ad_assoc : ∀ a b c, ad (ad a b) c = ad a (ad b c) := by decide +kernel
theorem ad_zero : ∀ a, ad a 0 = a := by decide +kernel
theorem zero_ad : ∀ a, ad 0 a = a := by decide +kernel
theorem ad_ng : ∀ a, ad a (ng a) = 0 := by decide +kernel
theorem ng_ad : ∀ a, ad (ng a) a = 0 := by decide +kernel
theorem ng_ng : ∀ a, ng (ng a) = a := by decide +kernel
theorem ng_zero : ng 0 = 0 := by decide +kernel
theorem ng_of_ad : ∀ a b, ng (ad a b) = ad (ng a) (ng b) := by decide +kernel
theorem ad_cancel : ∀ a b c, ad a b = ad a c → b = c := by decide +kernel
theorem ad_cancel_r : ∀ a b c, ad b a = ad c a → b = c := by decide +kernel
theorem sb_eq_zero : ∀ a b, sb a b = 0 → a = b := by decide +kernel
theorem sb_self : ∀ a, sb a a = 0 := by decide +kernel
theorem ad_sb : ∀ a b, ad a (sb b a) = b := by decide +kernel
theorem sb_swap : ∀ a b, sb a b = ng (sb b a) := by decide +kernel
theorem sb_eq_ng : ∀ a b, ad a b = 0 → a = ng b := by decide +kernel
theorem sb_zero : ∀ a, sb a 0 = a := by decide +kernel
theorem inj_surj (f : Fin 9 → Fin 9) (h : ∀ x y, f x = f y → x = y) (y : Fin 9) : ∃ x, f x = y := by
  refine Classical.byContradiction fun hn => ?_
  have hn' : ∀ x, f x ≠ y := fun x hx => hn ⟨x, hx⟩
  have key : ∀ (l m : List (Fin 9)), l.Nodup → (∀ x ∈ l, x ∈ m) → l.length ≤ m.length := by
    intro l
    induction l with
    | nil => intro m _ _; simp
    | cons a l ih =>
      intro m hl hs
      have h1 := ih (m.erase a) (List.nodup_cons.mp hl).2 (fun x hx => by
        have hne : x ≠ a := fun e => (List.nodup_cons.mp hl).1 (e ▸ hx)
        exact (List.mem_erase_of_ne hne).mpr (hs x (by simp [hx])))
      have h2 := List.length_erase_of_mem (hs a (by simp))
      have h3 : 0 < m.length := List.length_pos_of_mem (hs a (by simp))
      simp only [List.length_cons]
      omega
  have := key (y :: [f 0, f 1, f 2, f 3, f 4, f 5, f 6, f 7, f 8]) [0, 1, 2, 3, 4, 5, 6, 7, 8] (by
    have hi : ∀ a b : Fin 9, a ≠ b → f a ≠ f b := fun a b hab e => hab (h a b e)
    have hy : ∀ a, y ≠ f a := fun a e => hn' a e.symm
    have h01 : ∀ a b : Fin 9, f a = f b ↔ a = b := fun a b => ⟨h a b, fun e => e ▸ rfl⟩
    simp [List.nodup_cons, hy, h01]) (by
    intro x _
    exact (by decide : ∀ x : Fin 9, x ∈ [(0 : Fin 9), 1, 2, 3, 4, 5, 6, 7, 8]) x)
  simp at this

structure Sys (m : Fin 9 → Fin 9 → Fin 9) : Prop where
  zl : ∀ a, m 0 a = 0
  zr : ∀ a, m a 0 = 0
  ol : ∀ a, m 1 a = a
  or : ∀ a, m a 1 = a
  di : ∀ a b c, m (ad a b) c = ad (m a c) (m b c)
  so : ∀ c d, d < c → ∀ x y, sb (m x c) (m x d) = sb (m y c) (m y d) → x = y

namespace Sys
variable {m : Fin 9 → Fin 9 → Fin 9} (S : Sys m)
include S
theorem ngl (a c : Fin 9) : m (ng a) c = ng (m a c) := by
  have h := S.di a (ng a) c
  rw [ad_ng, S.zl] at h
  exact ad_cancel (m a c) _ _ (by rw [← h, ad_ng])
theorem sbl (a b c : Fin 9) : m (sb a b) c = sb (m a c) (m b c) := by
  unfold sb
  rw [S.di, S.ngl]
theorem so' (c d : Fin 9) (hne : c ≠ d) (x y : Fin 9) (h : sb (m x c) (m x d) = sb (m y c) (m y d)) : x = y := by
  by_cases hlt : d < c
  · exact S.so c d hlt x y h
  · have hlt' : c < d := by
      rcases Nat.lt_trichotomy c.1 d.1 with h1 | h1 | h1
      · exact h1
      · exact absurd (Fin.ext h1) hne
      · exact absurd h1 hlt
    refine S.so d c hlt' x y ?_
    rw [sb_swap (m x d), sb_swap (m y d), h]
theorem col {c : Fin 9} (hc : c ≠ 0) {x y : Fin 9} (h : m x c = m y c) : x = y := by
  refine S.so' c 0 hc x y ?_
  rw [S.zr, S.zr, h]
theorem row {x : Fin 9} (hx : x ≠ 0) {a b : Fin 9} (h : m x a = m x b) : a = b := by
  refine Classical.byContradiction fun hne => hx (S.so' a b hne x 0 ?_)
  rw [S.zl, S.zl, h, sb_self, sb_self]
theorem col_ex {c : Fin 9} (hc : c ≠ 0) (y : Fin 9) : ∃ x, m x c = y := inj_surj (fun x => m x c) (fun _ _ h => S.col hc h) y
theorem row_ex {x : Fin 9} (hx : x ≠ 0) (y : Fin 9) : ∃ a, m x a = y := inj_surj (fun a => m x a) (fun _ _ h => S.row hx h) y
theorem so_ex {c d : Fin 9} (hne : c ≠ d) (y : Fin 9) : ∃ x, sb (m x c) (m x d) = y := inj_surj (fun x => sb (m x c) (m x d)) (fun x y h => S.so' c d hne x y h) y
end Sys

inductive Pt | aff (x y : Fin 9) | inf (a : Fin 9) | top
  deriving DecidableEq
inductive Ln | aff (a b : Fin 9) | ver (x : Fin 9) | far
  deriving DecidableEq
def On (m : Fin 9 → Fin 9 → Fin 9) : Pt → Ln → Prop
  | .aff x y, .aff a b => y = ad (m x a) b
  | .inf a', .aff a _ => a' = a
  | .top, .aff _ _ => False
  | .aff x _, .ver x' => x = x'
  | .inf _, .ver _ => False
  | .top, .ver _ => True
  | .aff _ _, .far => False
  | .inf _, .far => True
  | .top, .far => True
instance (m : Fin 9 → Fin 9 → Fin 9) (p : Pt) (l : Ln) : Decidable (On m p l) := by
  cases p <;> cases l <;> unfold On <;> infer_instance

namespace Sys
variable {m : Fin 9 → Fin 9 → Fin 9} (S : Sys m)
include S
theorem join_ex (P Q : Pt) (h : P ≠ Q) : ∃ L, On m P L ∧ On m Q L := by
  cases P with
  | aff x y =>
    cases Q with
    | aff x' y' =>
      by_cases hx : x = x'
      · exact ⟨.ver x, rfl, hx.symm⟩
      · obtain ⟨a, ha⟩ := S.row_ex (x := sb x x') (fun e => hx (sb_eq_zero _ _ e)) (sb y y')
        rw [S.sbl] at ha
        refine ⟨.aff a (sb y (m x a)), (ad_sb _ _).symm, ?_⟩
        show y' = ad (m x' a) (sb y (m x a))
        revert ha
        exact (by decide +kernel : ∀ u v y y' : Fin 9, sb u v = sb y y' → y' = ad v (sb y u)) _ _ _ _
    | inf a => exact ⟨.aff a (sb y (m x a)), (ad_sb _ _).symm, rfl⟩
    | top => exact ⟨.ver x, rfl, trivial⟩
  | inf a =>
    cases Q with
    | aff x' y' => exact ⟨.aff a (sb y' (m x' a)), rfl, (ad_sb _ _).symm⟩
    | inf a' => exact ⟨.far, trivial, trivial⟩
    | top => exact ⟨.far, trivial, trivial⟩
  | top =>
    cases Q with
    | aff x' y' => exact ⟨.ver x', trivial, rfl⟩
    | inf a' => exact ⟨.far, trivial, trivial⟩
    | top => exact absurd rfl h
theorem uniq {P Q : Pt} (h : P ≠ Q) {L M : Ln} (h1 : On m P L) (h2 : On m Q L) (h3 : On m P M) (h4 : On m Q M) : L = M := by
  have key : ∀ u v b : Fin 9, sb (ad u b) (ad v b) = sb u v := by decide +kernel
  cases P <;> cases Q <;> cases L <;> cases M <;> simp only [On] at h1 h2 h3 h4 <;> (try contradiction) <;> (try (subst_vars; first | rfl | contradiction))
  · rename_i x y x' y' a b c d
    have hx : x ≠ x' := by
      rintro rfl
      exact h (by rw [h1, h2])
    have e1 := key (m x a) (m x' a) b
    have e2 := key (m x c) (m x' c) d
    rw [← h1, ← h2, ← S.sbl] at e1
    rw [← h3, ← h4, ← S.sbl] at e2
    have hac : a = c := S.row (x := sb x x') (fun e => hx (sb_eq_zero _ _ e)) (by rw [← e1, ← e2])
    subst hac
    rw [ad_cancel (m x a) b d (by rw [← h1, ← h3])]
  · rename_i x y a' a b c d
    obtain rfl : a' = a := h2
    obtain rfl : a' = c := h4
    rw [ad_cancel (m x a') b d (by rw [← h1, ← h3])]
  · rename_i a' x y a b c d
    obtain rfl : a' = a := h1
    obtain rfl : a' = c := h3
    rw [ad_cancel (m x a') b d (by rw [← h2, ← h4])]
theorem meet_ex (L M : Ln) (h : L ≠ M) : ∃ P, On m P L ∧ On m P M := by
  cases L with
  | aff a b =>
    cases M with
    | aff a' b' =>
      by_cases ha : a = a'
      · exact ⟨.inf a, rfl, ha⟩
      · obtain ⟨x, hx⟩ := S.so_ex ha (sb b' b)
        refine ⟨.aff x (ad (m x a) b), rfl, ?_⟩
        show ad (m x a) b = ad (m x a') b'
        revert hx
        exact (by decide +kernel : ∀ u v b b' : Fin 9, sb u v = sb b' b → ad u b = ad v b') _ _ _ _
    | ver x => exact ⟨.aff x (ad (m x a) b), rfl, rfl⟩
    | far => exact ⟨.inf a, rfl, trivial⟩
  | ver x =>
    cases M with
    | aff a b => exact ⟨.aff x (ad (m x a) b), rfl, rfl⟩
    | ver x' => exact ⟨.top, trivial, trivial⟩
    | far => exact ⟨.top, trivial, trivial⟩
  | far =>
    cases M with
    | aff a b => exact ⟨.inf a, trivial, rfl⟩
    | ver x => exact ⟨.top, trivial, trivial⟩
    | far => exact absurd rfl h
end Sys
def Both (m : Fin 9 → Fin 9 → Fin 9) : Prop := ∀ a b c, m a (ad b c) = ad (m a b) (m a c)
def Brk (m : Fin 9 → Fin 9 → Fin 9) : Prop := ∀ a b c, m (m a b) c = m a (m b c)
def Swp (m : Fin 9 → Fin 9 → Fin 9) : Prop := ∀ a b, m a b = m b a
def InKer (m : Fin 9 → Fin 9 → Fin 9) (k : Fin 9) : Prop := ∀ a b, m k (m a b) = m (m k a) b ∧ m k (ad a b) = ad (m k a) (m k b)
def InCen (m : Fin 9 → Fin 9 → Fin 9) (k : Fin 9) : Prop := ∀ a, m k a = m a k
theorem gen9 : ∀ x : Fin 9, x ≠ 0 → x ≠ 1 → x ≠ 2 → ∀ a : Fin 9, a = 0 ∨ a = 1 ∨ a = 2 ∨ a = x ∨ a = ad x 1 ∨ a = ad x 2 ∨ a = ad x x ∨ a = ad (ad x x) 1 ∨ a = ad (ad x x) 2 := by decide +kernel
namespace Sys
variable {m : Fin 9 → Fin 9 → Fin 9} (S : Sys m)
include S
theorem two (a : Fin 9) : m 2 a = ad a a := by
  have h := S.di 1 1 a
  rw [S.ol] at h
  exact h
theorem both_two (hb : Both m) (a : Fin 9) : m a 2 = ad a a := by
  have h := hb a 1 1
  rw [S.or] at h
  exact h
theorem cen_two (hb : Both m) : InCen m 2 := fun a => by rw [S.two, S.both_two hb]
theorem ker_two : InKer m 2 := fun a b => by
  refine ⟨by rw [S.two, S.two, S.di], ?_⟩
  rw [S.two, S.two, S.two]
  exact (by decide +kernel : ∀ a b : Fin 9, ad (ad a b) (ad a b) = ad (ad a a) (ad b b)) a b
theorem ker_zero : InKer m 0 := fun a b => by simp only [S.zl]; exact ⟨trivial, (ad_zero 0).symm⟩
theorem ker_one : InKer m 1 := fun a b => by simp only [S.ol]; exact ⟨trivial, trivial⟩
theorem ker_ad {k l : Fin 9} (hk : InKer m k) (hl : InKer m l) : InKer m (ad k l) := fun a b => by
  refine ⟨by rw [S.di, S.di, S.di, (hk a b).1, (hl a b).1], ?_⟩
  rw [S.di, S.di, S.di, (hk a b).2, (hl a b).2]
  exact (by decide +kernel : ∀ a b c d : Fin 9, ad (ad a b) (ad c d) = ad (ad a c) (ad b d)) _ _ _ _
omit S in
theorem ker_m {k l : Fin 9} (hk : InKer m k) (hl : InKer m l) : InKer m (m k l) := fun a b => by
  have e : ∀ x, m (m k l) x = m k (m l x) := fun x => (hk l x).1.symm
  refine ⟨by rw [e, e, (hl a b).1, (hk _ b).1], ?_⟩
  rw [e, e, e, (hl a b).2, (hk _ _).2]
theorem ker_big {x : Fin 9} (h : InKer m x) (h0 : x ≠ 0) (h1 : x ≠ 1) (h2 : x ≠ 2) (a : Fin 9) : InKer m a := by
  rcases gen9 x h0 h1 h2 a with rfl | rfl | rfl | rfl | rfl | rfl | rfl | rfl | rfl
  · exact S.ker_zero
  · exact S.ker_one
  · exact S.ker_two
  · exact h
  · exact S.ker_ad h S.ker_one
  · exact S.ker_ad h S.ker_two
  · exact S.ker_ad h h
  · exact S.ker_ad (S.ker_ad h h) S.ker_one
  · exact S.ker_ad (S.ker_ad h h) S.ker_two
omit S in
theorem ker_all : (∀ k, InKer m k) ↔ Both m ∧ Brk m :=
  ⟨fun h => ⟨fun a b c => (h a b c).2, fun a b c => (h a b c).1.symm⟩, fun h k a b => ⟨(h.2 k a b).symm, h.1 k a b⟩⟩
theorem cen_zero : InCen m 0 := fun a => by rw [S.zl, S.zr]
theorem cen_one : InCen m 1 := fun a => by rw [S.ol, S.or]
theorem swp_both (h : Swp m) : Both m := fun a b c => by rw [h a (ad b c), S.di, h b a, h c a]
theorem inv (h : Brk m) {a : Fin 9} (ha : a ≠ 0) : ∃ b, m a b = 1 ∧ m b a = 1 ∧ ∀ c, m a c = 1 → c = b := by
  obtain ⟨b, hb⟩ := S.row_ex ha 1
  obtain ⟨c, hc⟩ := S.col_ex ha 1
  have e := h c a b
  rw [hc, hb, S.ol, S.or] at e
  subst e
  exact ⟨b, hb, hc, fun c h' => S.row ha (by rw [h', hb])⟩
end Sys
end Go.Proofs.Ytiobhhcbdcbajaa.Nine
