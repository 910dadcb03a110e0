/- The children of a cell divide it and have it as their parent, for every draw (one of more than 1048576 bytes is passed over by the statement itself); no condition. -/
import Derived.Test.YtlkdekllphgikaaCFnTrees
set_option linter.unusedSimpArgs false
set_option linter.unusedVariables false
namespace Go.Proofs.Ytlkdekllphgikaa.Pure
open Go.RowKit Go.Proofs.Ytlkdekllphgikaa.PFnTrees Go.Proofs.YtlkdekllphgikaaW.PrintWords Go.Proofs.YtlkdekllphgikaaW.PrintLast Go.Proofs.YtlkdekllphgikaaW.PrintMore Go.Proofs.Ytlkdekllphgikaa.CoreFnTrees

theorem FnTrees : laws_FnTrees.Pure := by
  intro l _ _ _
  refine Ev.rounds ?_
  unfold laws_FnTrees.f
  simp only [big_eq, Option.bind_some, decide_eq_true_eq]
  by_cases h : (l.length : Int) > 1048576
  · simp only [h, if_true]; exact Ev.now _
  · simp only [h, if_false]
    obtain ⟨h0, e0⟩ := s_new l (by omega)
    obtain ⟨a, b, c, i1, h1, e1, _, hid, _⟩ := s_id l 0 h0 (by omega) (by omega)
    have ed : Ev (fun k => spec_DrawId.f k l) (a, b, c) := by
      unfold spec_DrawId.f
      refine Ev.bind e0 ?_
      simp only [e1, Option.bind_some]
      exact Ev.now _
    refine Ev.bind ed ?_
    simp only [i_child, Option.bind_some]
    by_cases h4 : b = 4
    · have c0 : childP a b c 0 = (0, 0, 0, false) := if_neg (fun p => p.2.1 h4)
      have c1 : childP a b c 1 = (0, 0, 0, false) := if_neg (fun p => p.2.1 h4)
      have hw : widthP b = 1 := by rw [h4]; decide
      simp only [c0, c1, i_idok, hid, i_width, hw, Option.bind_some, Bool.false_eq_true, if_false, if_true, beq_self_eq_true]
      simp only [h4, if_true]
      exact Ev.now _
    · obtain ⟨k1, k2, k3⟩ := child_key hid h4 0 (by omega) (by omega)
      obtain ⟨m1, m2, m3⟩ := child_key hid h4 1 (by omega) (by omega)
      have hb := (idok_iff.1 hid).2.2.1
      have c0 : childP a b c 0 = (a, b + 1, 2 * c + 0, true) := if_pos ⟨hid, h4, by omega, by omega⟩
      have c1 : childP a b c 1 = (a, b + 1, 2 * c + 1, true) := if_pos ⟨hid, h4, by omega, by omega⟩
      have p0 : parentP a (b + 1) (2 * c + 0) = (a, b, c, true) := by
        rw [parentP, if_pos ⟨k1, by omega⟩, show b + 1 - 1 = b by omega, show (2 * c + 0) / 2 = c by omega]
      have p1 : parentP a (b + 1) (2 * c + 1) = (a, b, c, true) := by
        rw [parentP, if_pos ⟨m1, by omega⟩, show b + 1 - 1 = b by omega, show (2 * c + 1) / 2 = c by omega]
      have s0 : siblingB a (b + 1) (2 * c + 0) a (b + 1) (2 * c + 1) = true := decide_eq_true ⟨k1, m1, rfl, rfl, by omega, by omega⟩
      have s1 : siblingB a (b + 1) (2 * c + 1) a (b + 1) (2 * c + 0) = false := decide_eq_false (fun p => by have := p.2.2.2.2.1; omega)
      have hw := width_bd (b + 1)
      have hs := start_bd a b c
      have w1 : wrap64 (startP a b c + widthP (b + 1)) = startP a b c + 1 * widthP (b + 1) := by rw [w64 (by omega) (by omega)]; omega
      have w2 : wrap64 (2 * widthP (b + 1)) = widthP b := by rw [w64 (by omega) (by omega)]; omega
      have k2' : startP a (b + 1) (2 * c + 0) = startP a b c := by rw [k2]; omega
      simp only [c0, c1, h4, if_false, i_parent, i_sib, p0, p1, s0, s1, i_width, i_start, k2', m2, w1, w2, Option.bind_some, if_true, beq_self_eq_true, Bool.and_self, Bool.and_true, Bool.false_eq_true]
      exact Ev.now _

end Go.Proofs.Ytlkdekllphgikaa.Pure
