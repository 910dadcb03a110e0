/- A clamped number lies in the range, is not changed again, and is the number if this lies in the range: for every draw (one of more than 1048576 bytes is passed over by the statement itself); no condition. -/
import Derived.Test.YtlkdekllphgikaaCFnClamped
set_option linter.unusedSimpArgs false
set_option linter.unusedVariables false
namespace Go.Proofs.Ytlkdekllphgikaa.Pure
open Go.RowKit Go.Proofs.Ytlkdekllphgikaa.PFnClamped Go.Proofs.YtlkdekllphgikaaW.PrintWords Go.Proofs.YtlkdekllphgikaaW.PrintLast Go.Proofs.YtlkdekllphgikaaW.PrintMore Go.Proofs.Ytlkdekllphgikaa.CoreFnClamped

theorem FnClamped : laws_FnClamped.Pure := by
  intro l _ _ _
  refine Ev.rounds ?_
  unfold laws_FnClamped.f
  simp only [big_eq, Option.bind_some, decide_eq_true_eq]
  by_cases h : (l.length : Int) > 1048576
  · simp only [h, if_true]; exact Ev.now _
  · simp only [h, if_false]
    obtain ⟨n, a, b, e⟩ := s_drawClamp l (by omega)
    refine Ev.bind e ?_
    have h5 : clampP 7 3 5 = 5 := by decide
    simp only [i_clamp, Option.bind_some, h5]
    by_cases h1 : b < a
    · have : clampP n a b = a := by unfold clampP; rw [if_pos h1]
      simp only [h1, this, if_true]
      exact Ev.now _
    · have c1 : a ≤ clampP n a b ∧ clampP n a b ≤ b := by unfold clampP; rw [if_neg h1]; split <;> (try split) <;> omega
      have c2 : clampP (clampP n a b) a b = clampP n a b := by
        have : ∀ x, a ≤ x → x ≤ b → clampP x a b = x := by
          intro x h2 h3; unfold clampP; rw [if_neg h1, if_neg (by omega), if_neg (by omega)]
        exact this _ c1.1 c1.2
      simp only [h1, if_false, c1.1, c1.2, ge_iff_le, if_true, c2]
      by_cases h2 : n < a
      · simp only [h2, if_true]; exact Ev.now _
      · by_cases h3 : n > b
        · simp only [h2, h3, if_true, if_false]; exact Ev.now _
        · have : clampP n a b = n := by unfold clampP; rw [if_neg h1, if_neg h2, if_neg (by omega)]
          simp only [h2, h3, this, if_true, if_false]; exact Ev.now _

end Go.Proofs.Ytlkdekllphgikaa.Pure
