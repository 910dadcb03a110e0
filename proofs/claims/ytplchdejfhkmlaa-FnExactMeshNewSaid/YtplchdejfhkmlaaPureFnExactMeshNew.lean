/- MeshNew of the program and of the reference answer alike, for all ints, and its results share no memory with one another; no condition. -/
import Derived.Test.YtplchdejfhkmlaaCFnExactMeshNew
set_option linter.unusedSimpArgs false
set_option linter.unusedVariables false
namespace Go.Proofs.Ytplchdejfhkmlaa.Pure
open Go.RowKit Go.Proofs.Ytplchdejfhkmlaa.PFnExactMeshNew Go.Proofs.YtplchdejfhkmlaaW.PrintWords Go.Proofs.YtplchdejfhkmlaaW.PrintLast Go.Proofs.YtplchdejfhkmlaaW.PrintMore Go.Proofs.Ytplchdejfhkmlaa.CoreFnExactMeshNew

theorem FnExactMeshNew : laws_FnExactMeshNew.Pure := by
  intro R lv _ _
  refine Ev.rounds ?_
  unfold laws_FnExactMeshNew.f
  refine Ev.bind (s_meshNew R lv) ?_
  refine Ev.bind (i_meshNew R lv) ?_
  have hl := meshNewP_len R lv
  generalize hm : meshNewP R lv = m at hl
  obtain ⟨R', l, ok⟩ := m
  simp only at hl ⊢
  refine Ev.bind (eqMesh_refl R' l (by omega)) ?_
  simp only [if_true, bne_self_eq_false]
  refine Ev.step (fun k => rfl) ?_
  simp only [laws_FnExactMeshNew.j0, Bool.false_eq_true, if_false]
  refine Ev.bind (markMesh_ev R' l 1 (by omega) (by omega) (by omega)) ?_
  refine Ev.bind (heldMesh_ev R' l 1 (by omega) (by omega) (by omega)) ?_
  have h2 : ¬ ((1 : Int) + 3 * (l.length : Int) < 0) := by omega
  simp only [h2, if_true, if_false]
  refine Ev.bind (i_meshNew R lv) ?_
  simp only [hm]
  refine Ev.bind (eqMesh_refl R' l (by omega)) ?_
  simp only [if_true, bne_self_eq_false]
  refine Ev.step (fun k => rfl) ?_
  simp only [laws_FnExactMeshNew.j1, Bool.false_eq_true, if_false]
  refine Ev.bind (heldMesh_ev R' l 1 (by omega) (by omega) (by omega)) ?_
  simp only [h2, if_true, if_false]
  exact Ev.now _

end Go.Proofs.Ytplchdejfhkmlaa.Pure
