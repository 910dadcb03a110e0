/- SplitEven of the program and of the reference answer alike, for every int; no condition. -/
import Derived.Test.YtgdjccnjelmmdaaPFnExactSplitEvenx1
namespace Go.Proofs.Ytgdjccnjelmmdaa.Pure
open Go.RowKit Go.Proofs.Ytgdjccnjelmmdaa.PFnExactSplitEven Go.Proofs.YtgdjccnjelmmdaaW.PrintWords Go.Proofs.YtgdjccnjelmmdaaW.PrintLast

theorem FnExactSplitEven : laws_FnExactSplitEven.Pure := by
  intro a _
  unfold laws_FnExactSplitEven.f spec_SplitEven.f impl_SplitEven.f
  split <;> simp

end Go.Proofs.Ytgdjccnjelmmdaa.Pure
