/- IsSibling of the program and of the reference answer alike, for every two cell addresses; no condition. -/
import Derived.Test.YtlkdekllphgikaaCFnExactIsSibling
set_option linter.unusedSimpArgs false
set_option linter.unusedVariables false
namespace Go.Proofs.Ytlkdekllphgikaa.Pure
open Go.RowKit Go.Proofs.Ytlkdekllphgikaa.PFnExactIsSibling Go.Proofs.YtlkdekllphgikaaW.PrintWords Go.Proofs.YtlkdekllphgikaaW.PrintLast Go.Proofs.YtlkdekllphgikaaW.PrintMore Go.Proofs.Ytlkdekllphgikaa.CoreFnExactIsSibling

theorem FnExactIsSibling : ∀ (a0_0 : Int) (a0_1 : Int) (a0_2 : Int) (a1_0 : Int) (a1_1 : Int) (a1_2 : Int), laws_FnExactIsSibling.f a0_0 a0_1 a0_2 a1_0 a1_1 a1_2 = some true := by
  intro a b c a' b' c'
  unfold laws_FnExactIsSibling.f laws_toId.f
  simp [s_sib, i_sib]

end Go.Proofs.Ytlkdekllphgikaa.Pure
