/- LeafAt of the program and of the reference answer alike, for every mesh and every int (a mesh of more than 1048576 leaves is passed over by the statement itself); the mesh reads as before; no condition. -/
import Derived.Test.YtplchdejfhkmlaaCFnExactLeafAt
set_option linter.unusedSimpArgs false
namespace Go.Proofs.Ytplchdejfhkmlaa.Pure
open Go.RowKit Go.Proofs.Ytplchdejfhkmlaa.PFnExactLeafAt Go.Proofs.YtplchdejfhkmlaaW.PrintWords Go.Proofs.YtplchdejfhkmlaaW.PrintLast Go.Proofs.YtplchdejfhkmlaaW.PrintMore Go.Proofs.Ytplchdejfhkmlaa.CoreFnExactLeafAt

theorem FnExactLeafAt : ∀ (a0_0 : Int) (l0_1 : List S78) (a1 : Int), l0_1.length ≤ 9223372036854775807 → (Lit.int .i64 a1).wf = true → ∃ k, laws_FnExactLeafAt.f k a0_0 l0_1 a1 = some true := by
  intro R l a hl _
  refine Ev.rounds ?_
  unfold laws_FnExactLeafAt.f
  simp only [sz_eq R l 1048576 hl (by omega) (by omega), Option.bind_some]
  by_cases h : (l.length : Int) ≤ 1048576
  · have h1 : ¬ ((1048576 : Int) - l.length < 0) := by omega
    have hm : (l.map conv).length < 4611686018427387904 := by simp; omega
    simp only [h, if_true, h1, if_false]
    refine Ev.bind (toMesh_ev R l (by omega)) ?_
    refine Ev.bind (s_leafAt _ _ a hm) ?_
    refine Ev.bind (toMesh_ev R l (by omega)) ?_
    refine Ev.bind (i_leafAt _ _ a hm) ?_
    simp only [bne_self_eq_false, Bool.false_eq_true, if_false, if_true]
    refine Ev.bind (toMesh_ev R l (by omega)) ?_
    refine Ev.bind (eqMesh_refl _ _ hm) ?_
    exact Ev.now true
  · have h1 : (-1 : Int) < 0 := by omega
    simp only [h, if_false, h1, if_true]
    exact Ev.now true

end Go.Proofs.Ytplchdejfhkmlaa.Pure
