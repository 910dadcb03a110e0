/- DivFloor of the program and of the reference answer alike, for all ints; no condition. -/
import Derived.Test.YtgdjccnjelmmdaaPFnExactDivFloorx1
namespace Go.Proofs.Ytgdjccnjelmmdaa.Pure
open Go.RowKit Go.Proofs.Ytgdjccnjelmmdaa.PFnExactDivFloor Go.Proofs.YtgdjccnjelmmdaaW.PrintWords Go.Proofs.YtgdjccnjelmmdaaW.PrintLast

theorem FnExactDivFloor : laws_FnExactDivFloor.Pure := by
  intro a b _ _
  unfold laws_FnExactDivFloor.f spec_DivFloor.f impl_DivFloor.f
  by_cases h : b ≤ 0
  · simp [h]
  · have h' : ¬ b = 0 := by omega
    by_cases ha : a < 0
    · have hm : Int.tmod a b ≤ 0 := by
        have h1 := Int.tmod_nonneg b (show 0 ≤ -a by omega)
        rw [Int.neg_tmod] at h1
        omega
      by_cases hz : Int.tmod a b = 0
      · simp [h, h', ha, hz]
      · have : Int.tmod a b < 0 := by omega
        simp [h, h', ha, hz, this]
    · have hm : ¬ Int.tmod a b < 0 := by have := Int.tmod_nonneg b (show 0 ≤ a by omega); omega
      simp [h, h', ha, hm]

end Go.Proofs.Ytgdjccnjelmmdaa.Pure
