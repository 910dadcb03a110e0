/- Contains of the program and of the reference answer alike, for every two cell addresses; no condition. -/
import Derived.Test.YtgdjccnjelmmdaaCFnExactContains
set_option linter.unusedSimpArgs false
namespace Go.Proofs.Ytgdjccnjelmmdaa.Pure
open Go.RowKit Go.Proofs.Ytgdjccnjelmmdaa.PFnExactContains Go.Proofs.YtgdjccnjelmmdaaW.PrintWords Go.Proofs.YtgdjccnjelmmdaaW.PrintLast Go.Proofs.YtgdjccnjelmmdaaW.PrintMore Go.Proofs.Ytgdjccnjelmmdaa.CoreFnExactContains

theorem FnExactContains : ∀ (a0_0 : Int) (a0_1 : Int) (a0_2 : Int) (a1_0 : Int) (a1_1 : Int) (a1_2 : Int), laws_FnExactContains.f a0_0 a0_1 a0_2 a1_0 a1_1 a1_2 = some true := by
  intro a b c a' b' c'
  unfold laws_FnExactContains.f laws_toId.f
  simp [s_contains, i_contains]

end Go.Proofs.Ytgdjccnjelmmdaa.Pure
