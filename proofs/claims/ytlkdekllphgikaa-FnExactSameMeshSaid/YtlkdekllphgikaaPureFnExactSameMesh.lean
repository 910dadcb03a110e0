/- SameMesh of the program and of the reference answer alike, for every two meshes (of together more than 1048576 leaves: passed over by the statement itself); the meshes read as before; no condition. -/
import Derived.Test.YtlkdekllphgikaaCFnExactSameMesh
set_option linter.unusedSimpArgs false
set_option linter.unusedVariables false
namespace Go.Proofs.Ytlkdekllphgikaa.Pure
open Go.RowKit Go.Proofs.Ytlkdekllphgikaa.PFnExactSameMesh Go.Proofs.YtlkdekllphgikaaW.PrintWords Go.Proofs.YtlkdekllphgikaaW.PrintLast Go.Proofs.YtlkdekllphgikaaW.PrintMore Go.Proofs.Ytlkdekllphgikaa.CoreFnExactSameMesh

theorem FnExactSameMesh : ∀ (a0_0 : Int) (l0_1 : List S23) (a1_0 : Int) (l1_1 : List S23), l0_1.length ≤ 9223372036854775807 → l1_1.length ≤ 9223372036854775807 → ∃ k, laws_FnExactSameMesh.f k a0_0 l0_1 a1_0 l1_1 = some true := by
  intro R l R' l' hl hl'
  refine Ev.rounds ?_
  unfold laws_FnExactSameMesh.f
  simp only [sz_eq R l 1048576 hl (by omega) (by omega), Option.bind_some]
  by_cases h : (l.length : Int) ≤ 1048576
  · have h1 : ¬ ((1048576 : Int) - l.length < 0) := by omega
    have hm : (l.map conv).length < 4611686018427387904 := by simp; omega
    simp only [h, if_true, h1, if_false]
    simp only [sz_eq R' l' (1048576 - (l.length : Int)) hl' (by omega) (by omega), Option.bind_some]
    by_cases h' : (l'.length : Int) ≤ 1048576 - l.length
    · have h1' : ¬ ((1048576 : Int) - l.length - l'.length < 0) := by omega
      have hm' : (l'.map conv).length < 4611686018427387904 := by simp; omega
      simp only [h', if_true, h1', if_false]
      refine Ev.bind (toMesh_ev R l (by omega)) ?_
      refine Ev.bind (toMesh_ev R' l' (by omega)) ?_
      refine Ev.bind (s_same _ _ _ _ hm) ?_
      refine Ev.bind (toMesh_ev R l (by omega)) ?_
      refine Ev.bind (toMesh_ev R' l' (by omega)) ?_
      refine Ev.bind (i_same _ _ _ _ hm) ?_
      simp only [bne_self_eq_false, Bool.false_eq_true, if_false]
      refine Ev.bind (toMesh_ev R l (by omega)) ?_
      refine Ev.bind (eqMesh_refl _ _ hm) ?_
      simp only [if_true]
      refine Ev.bind (toMesh_ev R' l' (by omega)) ?_
      refine Ev.bind (eqMesh_refl _ _ hm') ?_
      exact Ev.now true
    · have h1' : (-1 : Int) < 0 := by omega
      simp only [h', if_false, h1', if_true]
      exact Ev.now true
  · have h1 : (-1 : Int) < 0 := by omega
    simp only [h, if_false, h1, if_true]
    exact Ev.now true

end Go.Proofs.Ytlkdekllphgikaa.Pure
