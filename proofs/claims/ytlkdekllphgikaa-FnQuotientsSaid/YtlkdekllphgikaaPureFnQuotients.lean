/- The rounded quotients lie where they should, for every draw (one of more than 1048576 bytes is passed over by the statement itself); no condition. -/
import Derived.Test.YtlkdekllphgikaaCFnQuotients
set_option linter.unusedSimpArgs false
set_option linter.unusedVariables false
namespace Go.Proofs.Ytlkdekllphgikaa.Pure
open Go.RowKit Go.Proofs.Ytlkdekllphgikaa.PFnQuotients Go.Proofs.YtlkdekllphgikaaW.PrintWords Go.Proofs.YtlkdekllphgikaaW.PrintLast Go.Proofs.YtlkdekllphgikaaW.PrintMore Go.Proofs.Ytlkdekllphgikaa.CoreFnQuotients

theorem FnQuotients : laws_FnQuotients.Pure := by
  intro l _ _ _
  refine Ev.rounds ?_
  unfold laws_FnQuotients.f
  simp only [big_eq, Option.bind_some, decide_eq_true_eq]
  by_cases h : (l.length : Int) > 1048576
  · simp only [h, if_true]; exact Ev.now _
  · simp only [h, if_false]
    obtain ⟨ps, e, hl, hx⟩ := s_places l (by omega)
    refine Ev.bind e ?_
    have hr : ∀ i : Nat, i < 12 → 0 ≤ rd ps (i : Int) ∧ rd ps (i : Int) < 10000 := by
      intro i hi
      have h2 : i < ps.length := by omega
      have : rd ps (i : Int) = ps[i] := by unfold rd; simp [h2]
      rw [this]
      exact hx _ (List.getElem_mem h2)
    have h0 := hr 0 (by omega)
    have h1 := hr 1 (by omega)
    simp only [Int.natCast_zero] at h0
    rw [show ((1 : Nat) : Int) = 1 from rfl] at h1
    have l0 : (0 : Int) < (ps.length : Int) := by omega
    have l1 : (1 : Int) < (ps.length : Int) := by omega
    simp only [l0, l1, if_true]
    have ea : wrap64 (rd ps 0 - 5000) = rd ps 0 - 5000 := w64 (by omega) (by omega)
    have eb : wrap64 (1 + Int.tmod (rd ps 1) 500) = 1 + rd ps 1 % 500 := by
      rw [Int.tmod_eq_emod_of_nonneg h1.1, w64 (by omega) (by omega)]
    rw [ea, eb]
    generalize hA : rd ps 0 - 5000 = a
    generalize hB : 1 + rd ps 1 % 500 = b
    have ha : -5000 ≤ a ∧ a < 5000 := by omega
    have hb : 1 ≤ b ∧ b ≤ 500 := by omega
    clear hA hB ea eb e hr h0 h1
    have ht : wrap64 (Int.tdiv a b) = Int.tdiv a b ∧ wrap64 (-wrap64 (Int.tdiv (-a) b)) = Int.tdiv a b := by
      have hq : -5000 ≤ Int.tdiv a b ∧ Int.tdiv a b ≤ 5000 := by
        rcases Int.le_total 0 a with h | h
        · rw [Int.tdiv_eq_ediv_of_nonneg h]
          have h2 := Int.ediv_nonneg h (show 0 ≤ b by omega)
          have h3 := Int.ediv_le_self b h
          omega
        · have h2 : Int.tdiv a b = -(Int.tdiv (-a) b) := by rw [Int.neg_tdiv]; omega
          rw [Int.tdiv_eq_ediv_of_nonneg (show 0 ≤ -a by omega)] at h2
          have h3 := Int.ediv_nonneg (show 0 ≤ -a by omega) (show 0 ≤ b by omega)
          have h4 := Int.ediv_le_self b (show 0 ≤ -a by omega)
          omega
      rw [Int.neg_tdiv, w64 (n := Int.tdiv a b) (by omega) (by omega), w64 (n := -Int.tdiv a b) (by omega) (by omega), w64 (by omega) (by omega)]
      exact ⟨rfl, by omega⟩
    obtain ⟨r, f1, f2, f3, f4⟩ := floor_spec (a := a) (b := b) (by omega) (by omega) (by omega)
    obtain ⟨r', g1, g2, g3, _⟩ := floor_spec (a := 2 * a + b) (b := 2 * b) (by omega) (by omega) (by omega)
    have hna : wrap64 (-a) = -a := w64 (by omega) (by omega)
    simp only [hna, i_divFloor, i_trunc (show 0 < b by omega), i_near hb.1 (show b ≤ 2147483647 by omega) (show -1000000000000000 ≤ a by omega) (show a ≤ 1000000000000000 by omega), Option.bind_some]
    have hfb : ∃ f, f = divFloorP a b ∧ -5001 ≤ f ∧ f ≤ 5000 := by
      refine ⟨_, rfl, ?_, ?_⟩
      · rcases Int.lt_or_le (divFloorP a b) (-5001) with h | h
        · have : divFloorP a b * b ≤ (-5002) * b := Int.mul_le_mul_of_nonneg_right (by omega) (by omega)
          omega
        · exact h
      · rcases Int.lt_or_le 5000 (divFloorP a b) with h | h
        · have : 5001 * b ≤ divFloorP a b * b := Int.mul_le_mul_of_nonneg_right (by omega) (by omega)
          omega
        · exact h
    obtain ⟨f, hf, hf1, hf2⟩ := hfb
    rw [← hf] at f1 f4 ⊢
    generalize hn : divFloorP (2 * a + b) (2 * b) = n at g1 ⊢
    have g1' : 2 * (n * b) = 2 * a + b - r' := by rw [← g1, ← Int.mul_assoc, Int.mul_comm 2 n, Int.mul_assoc]
    have e1 : (f + 1) * b = f * b + b := by rw [Int.add_mul, Int.one_mul]
    rw [w64 (n := f + 1) (by omega) (by omega), e1, f1]
    generalize n * b = nb at g1' ⊢
    rw [w64 (n := a - r) (by omega) (by omega), w64 (n := a - r + b) (by omega) (by omega), w64 (n := nb) (by omega) (by omega), w64 (n := nb - a) (by omega) (by omega), w64 (n := 2 * (nb - a)) (by omega) (by omega), w64 (n := a - nb) (by omega) (by omega), w64 (n := 2 * (a - nb)) (by omega) (by omega)]
    simp only [ht.1, ht.2, if_true]
    have c1 : a - r ≤ a := by omega
    have c2 : a - r + b > a := by omega
    have c3 : 2 * (nb - a) ≤ b := by omega
    have c4 : 2 * (a - nb) < b := by omega
    simp only [c1, c2, c3, c4, if_true, decide_true]
    by_cases hneg : a < 0
    · simp only [hneg, if_true]; exact Ev.now _
    · have := f4 (by omega)
      simp only [hneg, if_false, this, if_true]; exact Ev.now _

end Go.Proofs.Ytlkdekllphgikaa.Pure
