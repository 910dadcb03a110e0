/- DecodeHex of the program and of the reference answer alike, for every string (one of more than 1048576 bytes is passed over by the statement itself); no condition. -/
import Derived.Test.YtlkdekllphgikaaCFnExactDecodeHex
set_option linter.unusedSimpArgs false
set_option linter.unusedVariables false
namespace Go.Proofs.Ytlkdekllphgikaa.Pure
open Go.RowKit Go.Proofs.Ytlkdekllphgikaa.PFnExactDecodeHex Go.Proofs.YtlkdekllphgikaaW.PrintWords Go.Proofs.YtlkdekllphgikaaW.PrintLast Go.Proofs.YtlkdekllphgikaaW.PrintMore Go.Proofs.Ytlkdekllphgikaa.CoreFnExactDecodeHex

theorem FnExactDecodeHex : laws_FnExactDecodeHex.Pure := by
  intro s _
  refine Ev.rounds ?_
  unfold laws_FnExactDecodeHex.f
  by_cases h : (s.size : Int) > 1048576
  · simp only [h, if_true]; exact Ev.now _
  · simp only [h, if_false]
    refine Ev.bind (s_dec s (by omega)) ?_
    refine Ev.bind (i_dec s (by omega)) ?_
    simp only [bne_self_eq_false, Bool.false_eq_true, if_false, if_true]
    exact Ev.now _

end Go.Proofs.Ytlkdekllphgikaa.Pure
