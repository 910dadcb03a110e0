/- DivNear of the program and of the reference answer alike, for all ints; no condition. -/
import Derived.Test.YtlkdekllphgikaaCFnExactDivNear
set_option linter.unusedSimpArgs false
set_option linter.unusedVariables false
namespace Go.Proofs.Ytlkdekllphgikaa.Pure
open Go.RowKit Go.Proofs.Ytlkdekllphgikaa.PFnExactDivNear Go.Proofs.YtlkdekllphgikaaW.PrintWords Go.Proofs.YtlkdekllphgikaaW.PrintLast Go.Proofs.YtlkdekllphgikaaW.PrintMore Go.Proofs.Ytlkdekllphgikaa.CoreFnExactDivNear

theorem FnExactDivNear : laws_FnExactDivNear.Pure := by
  intro a b _ _
  unfold laws_FnExactDivNear.f spec_DivNear.f impl_DivNear.f
  simp only [s_in, i_in, s_divFloor, i_divFloor, Option.bind_some, decide_eq_true_eq]
  by_cases h1 : 1 ≤ b ∧ b ≤ 2147483647
  · by_cases h2 : -1000000000000000 ≤ a ∧ a ≤ 1000000000000000
    · simp [h1, h2]
    · simp [h1, h2]
  · simp [h1]

end Go.Proofs.Ytlkdekllphgikaa.Pure
