/- The program's SystemKernel and the reference's are equal at all lists, a new list each time, and the list stays as it was. No conditions. -/
import Derived.Test.YteioeojpomahgaaPx23
import Derived.Test.YteioeojpomahgaaSpecSys2
import Derived.Test.YteioeojpomahgaaEvMore
import Derived.Test.YteioeojpomahgaaSliceTo
import Derived.Test.YteioeojpomahgaaSliceEq
set_option linter.unusedVariables false
set_option linter.unusedSimpArgs false
namespace Go.Proofs.Yteioeojpomahgaa.Pure
open Go.RowKit Go.Proofs.Yteioeojpomahgaa.P Go.Proofs.Yteioeojpomahgaa.Nine Go.Proofs.YteioeojpomahgaaW.PrintWords Go.Proofs.YteioeojpomahgaaW.PrintLast

theorem FnExactSystemKernel : laws_FnExactSystemKernel.Pure := by
  intro l _ _ _
  apply Ev.rounds
  unfold laws_FnExactSystemKernel.f
  by_cases hz : (l.length : Int) > 1048576
  · exact Ev.pos hz (Ev.now _)
  · have hT := to_ev (l := l) (by omega)
    obtain ⟨r, hr⟩ : ∃ r : List Int × Bool, r = if sysI l = true then (e9.filter (kerI l), true) else ([], false) := ⟨_, rfl⟩
    have hs := kernel_ev (l := l) (by omega)
    rw [← hr] at hs
    have hi : impl_SystemKernel.f l = some r := by
      rw [hr]
      unfold impl_SystemKernel.f impl_isSystem.f impl_kernel.f
      cases h : sysI l with
      | true => simp [sysI_nines h]
      | false => rfl
    have hn : (r.1.length : Int) ≤ 9 := by
      rw [hr]
      split
      · have := filter_len (kerI l) 9
        rw [show (9 : Int).toNat = 9 from rfl, e9_all] at this
        show (((e9.filter (kerI l)).length : Nat) : Int) ≤ 9
        omega
      · show (([] : List Int).length : Int) ≤ 9
        decide
    clear hr
    obtain ⟨x, b⟩ := r
    have hb : ¬ (b != b) = true := by cases b <;> decide
    have hbf : (b != b) = false := by cases b <;> rfl
    simp only at hn
    have hx : (x.length : Int) ≤ 9223372036854775806 := by omega
    have hx2 : ((x.length : Nat) : Int) ≤ 9223372036854775806 := hx
    refine Ev.neg hz (Ev.bind hT (Ev.bind hs (Ev.bind hT ?_)))
    rw [hi]
    refine Ev.some' (Ev.bind (eq_ev hx) (Ev.pos rfl ?_))
    refine Ev.step (fun k => laws_FnExactSystemKernel.j0.eq_2 ..) (Ev.neg hb (Ev.bind hT (Ev.bind (eq_ev (by omega)) (Ev.pos rfl (Ev.bind (mark_ev (by omega)) (Ev.neg (by show ¬ ((l.length : Int) + 1 < 0); omega) (Ev.bind (eq_ev hx) (Ev.pos rfl ?_))))))))
    refine Ev.step (fun k => laws_FnExactSystemKernel.j1.eq_2 ..) (Ev.neg hb (Ev.bind (mark_ev hx) (Ev.bind (held_ev hx) (Ev.neg (by show ¬ ((x.length : Int) + 1 < 0); omega) (Ev.pos rfl (Ev.bind hT ?_))))))
    rw [hi]
    refine Ev.some' (Ev.bind (eq_ev hx) (Ev.pos rfl ?_))
    exact Ev.step (fun k => laws_FnExactSystemKernel.j2.eq_2 ..) (Ev.neg hb (Ev.bind (held_ev hx) (Ev.neg (by show ¬ ((x.length : Int) + 1 < 0); omega) (Ev.pos rfl (Ev.now _)))))

end Go.Proofs.Yteioeojpomahgaa.Pure
