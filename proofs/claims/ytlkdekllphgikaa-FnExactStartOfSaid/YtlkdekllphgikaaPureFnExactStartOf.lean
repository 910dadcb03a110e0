/- StartOf of the program and of the reference answer alike, for every cell address; no condition. -/
import Derived.Test.YtlkdekllphgikaaCFnExactStartOf
set_option linter.unusedSimpArgs false
set_option linter.unusedVariables false
namespace Go.Proofs.Ytlkdekllphgikaa.Pure
open Go.RowKit Go.Proofs.Ytlkdekllphgikaa.PFnExactStartOf Go.Proofs.YtlkdekllphgikaaW.PrintWords Go.Proofs.YtlkdekllphgikaaW.PrintLast Go.Proofs.YtlkdekllphgikaaW.PrintMore Go.Proofs.Ytlkdekllphgikaa.CoreFnExactStartOf

theorem FnExactStartOf : ∀ (a0_0 : Int) (a0_1 : Int) (a0_2 : Int), laws_FnExactStartOf.f a0_0 a0_1 a0_2 = some true := by
  intro a b c
  unfold laws_FnExactStartOf.f laws_toId.f
  simp [s_start, i_start]

end Go.Proofs.Ytlkdekllphgikaa.Pure
