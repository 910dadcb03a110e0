/- ChildOf of the program and of the reference answer alike, for every cell address and every int; no condition. -/
import Derived.Test.YtlkdekllphgikaaCFnExactChildOf
set_option linter.unusedSimpArgs false
set_option linter.unusedVariables false
namespace Go.Proofs.Ytlkdekllphgikaa.Pure
open Go.RowKit Go.Proofs.Ytlkdekllphgikaa.PFnExactChildOf Go.Proofs.YtlkdekllphgikaaW.PrintWords Go.Proofs.YtlkdekllphgikaaW.PrintLast Go.Proofs.YtlkdekllphgikaaW.PrintMore Go.Proofs.Ytlkdekllphgikaa.CoreFnExactChildOf

theorem FnExactChildOf : ∀ (a0_0 : Int) (a0_1 : Int) (a0_2 : Int) (a1 : Int), (Lit.int .i64 a1).wf = true → laws_FnExactChildOf.f a0_0 a0_1 a0_2 a1 = some true := by
  intro a b c s _
  unfold laws_FnExactChildOf.f laws_toId.f laws_eqId.f
  simp [s_child, i_child]

end Go.Proofs.Ytlkdekllphgikaa.Pure
