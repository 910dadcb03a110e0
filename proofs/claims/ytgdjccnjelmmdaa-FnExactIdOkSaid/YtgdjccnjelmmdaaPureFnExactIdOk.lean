/- IdOk of the program and of the reference answer alike, for every cell address; no condition. -/
import Derived.Test.YtgdjccnjelmmdaaCFnExactIdOk
set_option linter.unusedSimpArgs false
namespace Go.Proofs.Ytgdjccnjelmmdaa.Pure
open Go.RowKit Go.Proofs.Ytgdjccnjelmmdaa.PFnExactIdOk Go.Proofs.YtgdjccnjelmmdaaW.PrintWords Go.Proofs.YtgdjccnjelmmdaaW.PrintLast Go.Proofs.YtgdjccnjelmmdaaW.PrintMore Go.Proofs.Ytgdjccnjelmmdaa.CoreFnExactIdOk

theorem FnExactIdOk : ∀ (a0_0 : Int) (a0_1 : Int) (a0_2 : Int), laws_FnExactIdOk.f a0_0 a0_1 a0_2 = some true := by
  intro a b c
  unfold laws_FnExactIdOk.f laws_toId.f
  simp [s_idok, i_idok]

end Go.Proofs.Ytgdjccnjelmmdaa.Pure
