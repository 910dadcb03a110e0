/- TotalTracer of the program and of the reference answer alike, for every state (a state of bulk above 1048576 is passed over by the statement itself); the state reads as before; no condition. -/
import Derived.Test.YtbkkehjhfgocfaaCFnExactTotalTracer
set_option linter.unusedSimpArgs false
set_option linter.unusedVariables false
namespace Go.Proofs.Ytbkkehjhfgocfaa.Pure
open Go.RowKit Go.Proofs.Ytbkkehjhfgocfaa.PFnExactTotalTracer Go.Proofs.YtbkkehjhfgocfaaW.PrintWords Go.Proofs.YtbkkehjhfgocfaaW.PrintLast Go.Proofs.YtbkkehjhfgocfaaW.PrintMore Go.Proofs.Ytbkkehjhfgocfaa.CoreFnExactTotalTracer

theorem s_tot (R : Int) (l : Mid) (m t b : List Int) (hl : l.length ≤ 1048576) (hm : m.length ≤ 1048576) (ht : t.length ≤ 1048576) (hb : b.length ≤ 1048576) : Ev (fun k => spec_TotalTracer.f k R l m t b) (if stOkB R l m t b = true then sumW 0 t else 0) := by
  unfold spec_TotalTracer.f
  refine Ev.bind (s_st R l m t b hl hm hb) ?_
  by_cases h : stOkB R l m t b = true
  · simp only [h, if_true]
    refine Ev.bind (s_sum t ht) ?_
    exact Ev.now _
  · simp only [h, if_false, Bool.false_eq_true]; exact Ev.now _
theorem i_tot (R : Int) (l : Mid) (m t b : List Int) (hl : l.length ≤ 1048576) (hm : m.length ≤ 1048576) (ht : t.length ≤ 1048576) (hb : b.length ≤ 1048576) : Ev (fun k => impl_TotalTracer.f k R l m t b) (if stOkB R l m t b = true then sumW 0 t else 0) := by
  unfold impl_TotalTracer.f
  refine Ev.bind (i_st R l m t b hl hm hb) ?_
  by_cases h : stOkB R l m t b = true
  · simp only [h, if_true]
    refine Ev.bind (i_sum t ht) ?_
    exact Ev.now _
  · simp only [h, if_false, Bool.false_eq_true]; exact Ev.now _
theorem FnExactTotalTracer : ∀ (a0_0 : Int) (l0_1 : List S101) (l0_2 l0_3 l0_4 : List Int), l0_1.length ≤ 9223372036854775807 → l0_2.length ≤ 9223372036854775807 → l0_3.length ≤ 9223372036854775807 → l0_4.length ≤ 9223372036854775807 → ∃ k, laws_FnExactTotalTracer.f k a0_0 l0_1 l0_2 l0_3 l0_4 = some true := by
  intro R l m t b hl hm ht hb
  refine Ev.rounds ?_
  unfold laws_FnExactTotalTracer.f
  obtain ⟨r, e, hr⟩ := szState_ex R l m t b hl hm ht hb
  rw [e]
  simp only [Option.bind_some]
  by_cases h : r < 0
  · simp only [h, if_true]; exact Ev.now _
  · simp only [h, if_false]
    have hs := hr (by omega)
    have hc : (l.map conv).length ≤ 1048576 := by simp; omega
    refine Ev.bind (toState_ev R l m t b (by omega) (by omega) (by omega) (by omega)) ?_
    refine Ev.bind (s_tot _ (l.map conv) m t b hc (by omega) (by omega) (by omega)) ?_
    refine Ev.bind (toState_ev R l m t b (by omega) (by omega) (by omega) (by omega)) ?_
    refine Ev.bind (i_tot _ (l.map conv) m t b hc (by omega) (by omega) (by omega)) ?_
    simp only [bne_self_eq_false, Bool.false_eq_true, if_false, if_true]
    refine Ev.bind (toState_ev R l m t b (by omega) (by omega) (by omega) (by omega)) ?_
    refine Ev.bind (eqState_refl _ _ _ _ _ (by omega) (by omega) (by omega) (by omega)) ?_
    exact Ev.now _

end Go.Proofs.Ytbkkehjhfgocfaa.Pure
