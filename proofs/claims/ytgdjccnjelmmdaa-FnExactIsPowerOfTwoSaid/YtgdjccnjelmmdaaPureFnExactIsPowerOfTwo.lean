/- IsPowerOfTwo of the program and of the reference answer alike, for every int; no condition. -/
import Derived.Test.YtgdjccnjelmmdaaPFnExactIsPowerOfTwox1
namespace Go.Proofs.Ytgdjccnjelmmdaa.Pure
open Go.RowKit Go.Proofs.Ytgdjccnjelmmdaa.PFnExactIsPowerOfTwo Go.Proofs.YtgdjccnjelmmdaaW.PrintWords Go.Proofs.YtgdjccnjelmmdaaW.PrintLast

theorem FnExactIsPowerOfTwo : laws_FnExactIsPowerOfTwo.Pure := by
  intro a _
  unfold laws_FnExactIsPowerOfTwo.f spec_IsPowerOfTwo.f impl_IsPowerOfTwo.f
  split <;> simp

end Go.Proofs.Ytgdjccnjelmmdaa.Pure
