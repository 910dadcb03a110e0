/- ShareOut of the program and of the reference answer alike, for all ints; no condition. -/
import Derived.Test.YtgdjccnjelmmdaaPFnExactShareOutx1
namespace Go.Proofs.Ytgdjccnjelmmdaa.Pure
open Go.RowKit Go.Proofs.Ytgdjccnjelmmdaa.PFnExactShareOut Go.Proofs.YtgdjccnjelmmdaaW.PrintWords Go.Proofs.YtgdjccnjelmmdaaW.PrintLast

theorem within_in (a b c : Int) : impl_within.f a b c = spec_l01In.f a b c := rfl
theorem in_some (a b c : Int) : ∃ r, spec_l01In.f a b c = some r := by unfold spec_l01In.f; split <;> exact ⟨_, rfl⟩
theorem share_some (a b c : Int) : ∃ r, spec_ShareOut.f a b c = some r := by
  unfold spec_ShareOut.f
  by_cases h : 1 ≤ c
  · have hc : ¬ c = 0 := by omega
    obtain ⟨r1, h1⟩ := in_some c 1 10000000
    obtain ⟨r2, h2⟩ := in_some b 0 c
    obtain ⟨r3, h3⟩ := in_some a 0 (wrap64 (1000 * c))
    rw [h1, h2, h3]
    cases r1 <;> cases r2 <;> cases r3 <;> simp [hc]
  · have h0 : spec_l01In.f c 1 10000000 = some false := by unfold spec_l01In.f; rw [if_neg (by omega)]
    rw [h0]; exact ⟨0, rfl⟩
theorem share_same (a b c : Int) : impl_ShareOut.f a b c = spec_ShareOut.f a b c := by
  unfold impl_ShareOut.f spec_ShareOut.f
  simp only [within_in]
theorem FnExactShareOut : laws_FnExactShareOut.Pure := by
  intro a b c _ _ _
  unfold laws_FnExactShareOut.f
  rw [share_same]
  obtain ⟨r, h⟩ := share_some a b c
  rw [h]; simp

end Go.Proofs.Ytgdjccnjelmmdaa.Pure
