/- LogTwo of the program and of the reference answer alike, for every int; no condition. -/
import Derived.Test.YtgdjccnjelmmdaaCFnExactLogTwo
set_option linter.unusedSimpArgs false
set_option linter.unusedVariables false
namespace Go.Proofs.Ytgdjccnjelmmdaa.Pure
open Go.RowKit Go.Proofs.Ytgdjccnjelmmdaa.PFnExactLogTwo Go.Proofs.YtgdjccnjelmmdaaW.PrintWords Go.Proofs.YtgdjccnjelmmdaaW.PrintLast Go.Proofs.YtgdjccnjelmmdaaW.PrintMore Go.Proofs.Ytgdjccnjelmmdaa.CoreFnExactLogTwo

theorem FnExactLogTwo : laws_FnExactLogTwo.Pure := by
  intro a ha
  refine Ev.rounds ?_
  have h : a ≤ 9223372036854775807 := by
    simp [Lit.wf, IntKind.min, IntKind.max, IntKind.signed, IntKind.bits] at ha
    omega
  unfold laws_FnExactLogTwo.f
  refine Ev.bind (s_log a h) ?_
  simp only [i_log a h, Option.bind_some, if_true]
  exact Ev.now _

end Go.Proofs.Ytgdjccnjelmmdaa.Pure
