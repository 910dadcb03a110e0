/- WidthOf of the program and of the reference answer alike, for every int; no condition. -/
import Derived.Test.YtgdjccnjelmmdaaPFnExactWidthOfx1
namespace Go.Proofs.Ytgdjccnjelmmdaa.Pure
open Go.RowKit Go.Proofs.Ytgdjccnjelmmdaa.PFnExactWidthOf Go.Proofs.YtgdjccnjelmmdaaW.PrintWords Go.Proofs.YtgdjccnjelmmdaaW.PrintLast

theorem FnExactWidthOf : laws_FnExactWidthOf.Pure := by
  intro a _
  unfold laws_FnExactWidthOf.f spec_WidthOf.f impl_WidthOf.f impl_isLevel.f impl_within.f spec_l01In.f
  by_cases h1 : a ≥ 0
  · by_cases h2 : a ≤ 4
    · have hw : IntKind.u64.wrap a = a := by
        obtain rfl | rfl | rfl | rfl | rfl : a = 0 ∨ a = 1 ∨ a = 2 ∨ a = 3 ∨ a = 4 := by omega
        all_goals rfl
      simp [h1, h2, hw]
    · simp [h1, h2]
  · simp [h1]

end Go.Proofs.Ytgdjccnjelmmdaa.Pure
