/- DivTrunc of the program and of the reference answer alike, for all ints; no condition. -/
import Derived.Test.YtgdjccnjelmmdaaPFnExactDivTruncx1
namespace Go.Proofs.Ytgdjccnjelmmdaa.Pure
open Go.RowKit Go.Proofs.Ytgdjccnjelmmdaa.PFnExactDivTrunc Go.Proofs.YtgdjccnjelmmdaaW.PrintWords Go.Proofs.YtgdjccnjelmmdaaW.PrintLast

theorem FnExactDivTrunc : laws_FnExactDivTrunc.Pure := by
  intro a b _ _
  unfold laws_FnExactDivTrunc.f spec_DivTrunc.f impl_DivTrunc.f
  by_cases h : b ≤ 0
  · simp [h]
  · have h' : ¬ b = 0 := by omega
    simp [h, h']

end Go.Proofs.Ytgdjccnjelmmdaa.Pure
