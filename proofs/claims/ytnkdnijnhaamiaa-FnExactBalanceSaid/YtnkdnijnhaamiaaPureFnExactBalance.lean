/- Balance of the program and of the reference answer alike, for every mesh (a mesh of more than 1048576 leaves is passed over by the statement itself), and its result shares no memory; no condition. -/
import Derived.Test.YtnkdnijnhaamiaaCFnExactBalance
set_option linter.unusedSimpArgs false
set_option linter.unusedVariables false
namespace Go.Proofs.Ytnkdnijnhaamiaa.Pure
open Go.RowKit Go.Proofs.Ytnkdnijnhaamiaa.PFnExactBalance Go.Proofs.YtnkdnijnhaamiaaW.PrintWords Go.Proofs.YtnkdnijnhaamiaaW.PrintLast Go.Proofs.YtnkdnijnhaamiaaW.PrintMore Go.Proofs.Ytnkdnijnhaamiaa.CoreFnExactBalance

theorem FnExactBalance : ∀ (a0_0 : Int) (l0_1 : List S65), l0_1.length ≤ 9223372036854775807 → ∃ k, laws_FnExactBalance.f k a0_0 l0_1 = some true := by
  intro R l hl
  refine Ev.rounds ?_
  unfold laws_FnExactBalance.f
  simp only [sz_eq R l 1048576 hl (by omega) (by omega), Option.bind_some]
  by_cases h : (l.length : Int) ≤ 1048576
  · have h1 : ¬ ((1048576 : Int) - l.length < 0) := by omega
    have hm : (l.map conv).length ≤ 1048576 := by simp; omega
    simp only [h, if_true, h1, if_false]
    refine Ev.bind (toMesh_ev R l (by omega)) ?_
    refine Ev.bind (s_balance R (l.map conv) (by omega)) ?_
    refine Ev.bind (toMesh_ev R l (by omega)) ?_
    refine Ev.bind (i_balance R (l.map conv) (by omega)) ?_
    have hq := balP_length R (l.map conv)
    generalize hg : balP R (l.map conv) = l' at hq
    simp only
    refine Ev.bind (eqMesh_refl R l' (by omega)) ?_
    simp only [if_true]
    refine Ev.bind (toMesh_ev R l (by omega)) ?_
    refine Ev.bind (eqMesh_refl _ _ (by omega)) ?_
    simp only [if_true]
    refine Ev.bind (markMesh_ev R (l.map conv) 1 (by omega) (by omega) (by omega)) ?_
    have h2 : ¬ ((1 : Int) + 3 * ((l.map conv).length : Int) < 0) := by omega
    simp only [h2, if_false]
    refine Ev.bind (eqMesh_refl R l' (by omega)) ?_
    simp only [Bool.not_true]
    refine Ev.step (fun k => rfl) ?_
    simp only [laws_FnExactBalance.j0, Bool.false_eq_true, if_false]
    refine Ev.bind (markMesh_ev R l' 1 (by omega) (by omega) (by omega)) ?_
    refine Ev.bind (heldMesh_ev R l' 1 (by omega) (by omega) (by omega)) ?_
    have h3 : ¬ ((1 : Int) + 3 * (l'.length : Int) < 0) := by omega
    simp only [h3, if_true, if_false]
    refine Ev.bind (toMesh_ev R l (by omega)) ?_
    refine Ev.bind (i_balance R (l.map conv) (by omega)) ?_
    simp only [hg]
    refine Ev.bind (eqMesh_refl R l' (by omega)) ?_
    simp only [if_true]
    refine Ev.bind (heldMesh_ev R l' 1 (by omega) (by omega) (by omega)) ?_
    simp only [h3, if_true, if_false]
    exact Ev.now _
  · have h1 : (-1 : Int) < 0 := by omega
    simp only [h, if_false, h1, if_true]
    exact Ev.now true

end Go.Proofs.Ytnkdnijnhaamiaa.Pure
