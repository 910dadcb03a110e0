/- Clamp of the program and of the reference answer alike, for all ints; no condition. -/
import Derived.Test.YtgdjccnjelmmdaaPFnExactClampx1
namespace Go.Proofs.Ytgdjccnjelmmdaa.Pure
open Go.RowKit Go.Proofs.Ytgdjccnjelmmdaa.PFnExactClamp Go.Proofs.YtgdjccnjelmmdaaW.PrintWords Go.Proofs.YtgdjccnjelmmdaaW.PrintLast

theorem FnExactClamp : laws_FnExactClamp.Pure := by
  intro a b c _ _ _
  refine ⟨1, ?_⟩
  unfold laws_FnExactClamp.f spec_Clamp.f impl_Clamp.f
  simp only [spec_Clamp.j0]
  unfold mn mx
  by_cases h1 : c < b
  · simp [h1]
  · by_cases h2 : a < b
    · simp only [h1, h2]; simp; omega
    · by_cases h3 : a > c
      · simp only [h1, h2, h3]; simp; omega
      · simp only [h1, h2, h3]; simp; omega

end Go.Proofs.Ytgdjccnjelmmdaa.Pure
