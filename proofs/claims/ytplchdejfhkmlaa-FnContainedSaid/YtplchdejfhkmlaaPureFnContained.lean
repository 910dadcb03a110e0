/- A cell contains another one exactly if its interval does, for every draw (one of more than 1048576 bytes is passed over by the statement itself); no condition. -/
import Derived.Test.YtplchdejfhkmlaaCFnContained
set_option linter.unusedSimpArgs false
set_option linter.unusedVariables false
namespace Go.Proofs.Ytplchdejfhkmlaa.Pure
open Go.RowKit Go.Proofs.Ytplchdejfhkmlaa.PFnContained Go.Proofs.YtplchdejfhkmlaaW.PrintWords Go.Proofs.YtplchdejfhkmlaaW.PrintLast Go.Proofs.YtplchdejfhkmlaaW.PrintMore Go.Proofs.Ytplchdejfhkmlaa.CoreFnContained

theorem FnContained : laws_FnContained.Pure := by
  intro l _ _ _
  refine Ev.rounds ?_
  unfold laws_FnContained.f
  simp only [big_eq, Option.bind_some, decide_eq_true_eq]
  by_cases h : (l.length : Int) > 1048576
  · simp only [h, if_true]; exact Ev.now _
  · simp only [h, if_false]
    obtain ⟨a, b, c, a', b', c', e⟩ := s_drawContains l (by omega)
    refine Ev.bind e ?_
    have hw : widthP 0 = 16 := by decide
    have hno : ¬ (idokB a b c = true ∧ idokB a' b' c' = true) → containsB a b c a' b' c' = false := fun hn => decide_eq_false fun p => hn ⟨p.1, p.2.1⟩
    by_cases h1 : idokB a b c = true
    · by_cases h2 : idokB a' b' c' = true
      · simp only [s_idok, h1, h2, Option.bind_some, if_true, Bool.not_true]
        refine Ev.step (fun k => rfl) ?_
        have e1 := end_wrap a b c
        have e2 := end_wrap a' b' c'
        have hself : containsB a b c a b c = true := by
          rw [contains_iff h1 h1]; simp
        simp only [laws_FnContained.j0, Bool.false_eq_true, if_false, i_start, i_width, i_contains, Option.bind_some, e1, e2, hself]
        rw [contains_iff h1 h2]
        unfold endP
        by_cases h3 : startP a b c ≤ startP a' b' c'
        · simp only [h3, true_and, if_true, beq_self_eq_true]
          exact Ev.now _
        · simp only [h3, false_and, decide_false, if_false, if_true, beq_self_eq_true]
          exact Ev.now _
      · simp only [s_idok, h1, h2, Option.bind_some, if_true, Bool.not_false]
        refine Ev.step (fun k => rfl) ?_
        have := hno (fun p => h2 p.2)
        simp only [laws_FnContained.j0, if_true, i_contains, this, Bool.false_eq_true, if_false, i_idok, s_idok, Option.bind_some, beq_self_eq_true, i_width, hw]
        exact Ev.now _
    · simp only [s_idok, h1, Option.bind_some, if_false]
      refine Ev.step (fun k => rfl) ?_
      have := hno (fun p => h1 p.1)
      simp only [laws_FnContained.j0, if_true, i_contains, this, Bool.false_eq_true, if_false, i_idok, s_idok, Option.bind_some, beq_self_eq_true, i_width, hw]
      exact Ev.now _

end Go.Proofs.Ytplchdejfhkmlaa.Pure
