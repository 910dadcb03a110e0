/- A balanced mesh stays balanced when two of its leaves are coarsened, for every draw (one of more than 1048576 bytes is passed over by the statement itself); no condition. -/
import Derived.Test.YtnkdnijnhaamiaaCFnCoarsened
set_option linter.unusedSimpArgs false
set_option linter.unusedVariables false
namespace Go.Proofs.Ytnkdnijnhaamiaa.Pure
open Go.RowKit Go.Proofs.Ytnkdnijnhaamiaa.PFnCoarsened Go.Proofs.YtnkdnijnhaamiaaW.PrintWords Go.Proofs.YtnkdnijnhaamiaaW.PrintLast Go.Proofs.YtnkdnijnhaamiaaW.PrintMore Go.Proofs.Ytnkdnijnhaamiaa.CoreFnCoarsened

theorem loop (R : Int) (m : Mid) (hok : meshOkB R m = true) (hbal : firstUn m = -1) : ∀ (d i : Nat), i + d = m.length → Ev (fun k => laws_FnCoarsened.l0 k (i : Int) R m) true := by
  have hlen := meshOk_len hok
  intro d
  induction d with
  | zero =>
    intro i hi
    refine Ev.step (fun k => rfl) ?_
    simp only [laws_FnCoarsened.l0, show ¬ ((i : Int) < (m.length : Int)) by omega, if_false]
    exact Ev.now _
  | succ d ih =>
    intro i hi
    refine Ev.step (fun k => rfl) ?_
    simp only [laws_FnCoarsened.l0, show ((i : Int) < (m.length : Int)) by omega, if_true]
    refine Ev.bind (i_coarsenPair R m (i : Int) (by omega)) ?_
    refine Ev.bind (i_mayCo R m (i : Int) (by omega)) ?_
    unfold coP
    have hB : balB R m = true := by unfold balB; rw [if_pos hok, hbal]; decide
    by_cases hc : mayCoB R m (i : Int) = true
    · obtain ⟨n, hn, h2, _, hco⟩ := mayCo_at hc
      obtain rfl : i = n := by omega
      have hp := co_parts h2 hco
      have hok2 := merge_ok hok h2 hp.1
      have hbal2 := un_bal.2 (merge_bal (un_bal.1 hbal) h2 hco)
      have hl2 := mergeP_length m i h2
      have hB2 : balB R (mergeP m i) = true := by unfold balB; rw [if_pos hok2, hbal2]; decide
      simp only [hc, if_true, Int.toNat_natCast, bne_self_eq_false, Bool.false_eq_true, if_false]
      refine Ev.bind (s_bal R (mergeP m i) (by omega)) ?_
      simp only [hB2, if_true, wlen1 (show m.length < 4611686018427387904 by omega), show ((mergeP m i).length : Int) = (m.length : Int) - 1 by omega, wsucc (show i < 4611686018427387904 by omega)]
      exact ih (i + 1) (by omega)
    · have hc' := Bool.eq_false_iff.mpr hc
      simp only [hc', Bool.false_eq_true, if_false, bne_self_eq_false]
      refine Ev.bind (s_bal R m (by omega)) ?_
      simp only [hB, if_true]
      refine Ev.bind (s_same R R m m (by omega)) ?_
      simp only [and_self, decide_true, if_true, wsucc (show i < 4611686018427387904 by omega)]
      exact ih (i + 1) (by omega)

theorem FnCoarsened : laws_FnCoarsened.Pure := by
  intro l _ _ _
  refine Ev.rounds ?_
  unfold laws_FnCoarsened.f
  simp only [big_eq, Option.bind_some, decide_eq_true_eq]
  by_cases h : (l.length : Int) > 1048576
  · simp only [h, if_true]; exact Ev.now _
  · simp only [h, if_false]
    obtain ⟨R, m, ed, hok, hbal, hml, hR⟩ := s_drawBalanced l (by omega)
    refine Ev.bind ed ?_
    exact loop R m hok hbal m.length 0 (by omega)

end Go.Proofs.Ytnkdnijnhaamiaa.Pure
