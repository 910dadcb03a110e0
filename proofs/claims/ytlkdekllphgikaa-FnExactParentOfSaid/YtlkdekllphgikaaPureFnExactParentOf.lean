/- ParentOf of the program and of the reference answer alike, for every cell address; no condition. -/
import Derived.Test.YtlkdekllphgikaaCFnExactParentOf
set_option linter.unusedSimpArgs false
set_option linter.unusedVariables false
namespace Go.Proofs.Ytlkdekllphgikaa.Pure
open Go.RowKit Go.Proofs.Ytlkdekllphgikaa.PFnExactParentOf Go.Proofs.YtlkdekllphgikaaW.PrintWords Go.Proofs.YtlkdekllphgikaaW.PrintLast Go.Proofs.YtlkdekllphgikaaW.PrintMore Go.Proofs.Ytlkdekllphgikaa.CoreFnExactParentOf

theorem FnExactParentOf : ∀ (a0_0 : Int) (a0_1 : Int) (a0_2 : Int), laws_FnExactParentOf.f a0_0 a0_1 a0_2 = some true := by
  intro a b c
  unfold laws_FnExactParentOf.f laws_toId.f laws_eqId.f
  simp [s_parent, i_parent]

end Go.Proofs.Ytlkdekllphgikaa.Pure
