/- EncodeHex of the program and of the reference answer alike, for every string (one of more than 1048576 bytes is passed over by the statement itself); no condition. -/
import Derived.Test.YtgdjccnjelmmdaaCFnExactEncodeHex
set_option linter.unusedSimpArgs false
set_option linter.unusedVariables false
namespace Go.Proofs.Ytgdjccnjelmmdaa.Pure
open Go.RowKit Go.Proofs.Ytgdjccnjelmmdaa.PFnExactEncodeHex Go.Proofs.YtgdjccnjelmmdaaW.PrintWords Go.Proofs.YtgdjccnjelmmdaaW.PrintLast Go.Proofs.YtgdjccnjelmmdaaW.PrintMore Go.Proofs.Ytgdjccnjelmmdaa.CoreFnExactEncodeHex

theorem FnExactEncodeHex : laws_FnExactEncodeHex.Pure := by
  intro s _
  refine Ev.rounds ?_
  unfold laws_FnExactEncodeHex.f
  by_cases h : (s.size : Int) > 1048576
  · simp only [h, if_true]; exact Ev.now _
  · simp only [h, if_false]
    refine Ev.bind (s_enc s) ?_
    refine Ev.bind (i_enc s) ?_
    simp only [bne_self_eq_false, Bool.false_eq_true, if_false, if_true]
    exact Ev.now _

end Go.Proofs.Ytgdjccnjelmmdaa.Pure
