/- Coarsening undoes refining, for every draw (one of more than 1048576 bytes is passed over by the statement itself); no condition. -/
import Derived.Test.YtnkdnijnhaamiaaCFnRefined
set_option linter.unusedSimpArgs false
set_option linter.unusedVariables false
namespace Go.Proofs.Ytnkdnijnhaamiaa.Pure
open Go.RowKit Go.Proofs.Ytnkdnijnhaamiaa.PFnRefined Go.Proofs.YtnkdnijnhaamiaaW.PrintWords Go.Proofs.YtnkdnijnhaamiaaW.PrintLast Go.Proofs.YtnkdnijnhaamiaaW.PrintMore Go.Proofs.Ytnkdnijnhaamiaa.CoreFnRefined

theorem split_sib {x : Cell} (h : idokB x.f0 x.f1 x.f2 = true) (h4 : x.f1 ≠ 4) : siblingB x.f0 (x.f1 + 1) (2 * x.f2 + 0) x.f0 (x.f1 + 1) (2 * x.f2 + 1) = true := by
  obtain ⟨a1, _, _⟩ := child_key h h4 0 (by omega) (by omega)
  obtain ⟨b1, _, _⟩ := child_key h h4 1 (by omega) (by omega)
  exact decide_eq_true ⟨a1, b1, rfl, rfl, by omega, by omega⟩
theorem split_get (m : Mid) (n : Nat) (h : n < m.length) (j : Nat) (hj : j < (splitP m n).length) : (splitP m n)[j] = if j < n then m.getD j m[n] else if j = n then ⟨m[n].f0, m[n].f1 + 1, 2 * m[n].f2 + 0⟩ else if j = n + 1 then ⟨m[n].f0, m[n].f1 + 1, 2 * m[n].f2 + 1⟩ else m.getD (j - 1) m[n] := by
  have hl := splitP_length m n h
  have e : (splitP m n)[j]? = some (if j < n then m.getD j m[n] else if j = n then ⟨m[n].f0, m[n].f1 + 1, 2 * m[n].f2 + 0⟩ else if j = n + 1 then ⟨m[n].f0, m[n].f1 + 1, 2 * m[n].f2 + 1⟩ else m.getD (j - 1) m[n]) := by
    rw [splitP_at m n h, List.append_assoc]
    have ht : (m.take n).length = n := by rw [List.length_take]; omega
    by_cases h1 : j < n
    · rw [if_pos h1, List.getElem?_append_left (by omega), List.getElem?_take, if_pos h1, List.getElem?_eq_getElem (by omega), List.getD_eq_getElem?_getD, List.getElem?_eq_getElem (by omega)]
      rfl
    · rw [if_neg h1, List.getElem?_append_right (by omega), ht]
      by_cases h2 : j = n
      · rw [if_pos h2, h2, Nat.sub_self]; rfl
      · rw [if_neg h2]
        by_cases h3 : j = n + 1
        · rw [if_pos h3, h3, show n + 1 - n = 1 by omega]; rfl
        · rw [if_neg h3, show kids m[n] ++ m.drop (n + 1) = [⟨m[n].f0, m[n].f1 + 1, 2 * m[n].f2 + 0⟩, ⟨m[n].f0, m[n].f1 + 1, 2 * m[n].f2 + 1⟩] ++ m.drop (n + 1) from rfl, List.getElem?_append_right (by simp; omega)]
          rw [List.getElem?_drop, show n + 1 + (j - n - [(⟨m[n].f0, m[n].f1 + 1, 2 * m[n].f2 + 0⟩ : Cell), ⟨m[n].f0, m[n].f1 + 1, 2 * m[n].f2 + 1⟩].length) = j - 1 by simp; omega, List.getElem?_eq_getElem (by omega), List.getD_eq_getElem?_getD, List.getElem?_eq_getElem (by omega)]
          rfl
  rw [List.getElem?_eq_getElem hj] at e
  exact Option.some.inj e
theorem split_co {R : Int} {m : Mid} (hok : meshOkB R m = true) (hb : balL m) (n : Nat) (h : n < m.length) (h4 : m[n].f1 < 4) : mayCoB R (splitP m n) (n : Int) = true := by
  have hl := splitP_length m n h
  have hid := meshOk_all hok _ (List.getElem_mem h)
  have hok2 := split_ok hok n h (by omega)
  unfold mayCoB
  rw [if_pos hok2, if_pos ⟨by omega, by omega⟩]
  unfold coB
  have g0 := split_get m n h n (by omega)
  have g1 := split_get m n h (n + 1) (by omega)
  rw [if_neg (by omega), if_pos rfl] at g0
  rw [if_neg (by omega), if_neg (by omega), if_pos rfl] at g1
  rw [rdc _ n (by omega), show ((n : Int) + 1) = ((n + 1 : Nat) : Int) by omega, rdc _ (n + 1) (by omega), g0, g1, if_pos (split_sib hid (by omega))]
  rw [if_neg]
  · split
    · rename_i h5
      have h5' : n + 2 < (splitP m n).length := by omega
      have g2 := split_get m n h (n + 2) h5'
      rw [if_neg (by omega), if_neg (by omega), if_neg (by omega)] at g2
      rw [show ((n : Int) + 2) = ((n + 2 : Nat) : Int) by omega, rdc _ (n + 2) h5', g2, decide_eq_true_eq, show n + 2 - 1 = n + 1 by omega, List.getD_eq_getElem?_getD, List.getElem?_eq_getElem (show n + 1 < m.length by omega)]
      have := balL_at m n (by omega) hb
      show m[n + 1].f1 ≤ m[n].f1 + 1
      omega
    · rfl
  · rintro ⟨h5, h6⟩
    have hn : 0 < n := by omega
    have g2 := split_get m n h (n - 1) (by omega)
    rw [if_pos (by omega)] at g2
    rw [show ((n : Int) - 1) = ((n - 1 : Nat) : Int) by omega, rdc _ (n - 1) (by omega), g2, List.getD_eq_getElem?_getD, List.getElem?_eq_getElem (show n - 1 < m.length by omega)] at h6
    have := balL_at m (n - 1) (by omega) hb
    have h7 : m[n - 1].f1 > m[n].f1 + 1 := h6
    simp only [show n - 1 + 1 = n by omega] at this
    omega
theorem merge_split {m : Mid} (n : Nat) (h : n < m.length) (hid : idokB m[n].f0 m[n].f1 m[n].f2 = true) (h4 : m[n].f1 ≠ 4) : mergeP (splitP m n) n = m := by
  have hl := splitP_length m n h
  have hs := split_sib hid h4
  have hp := pcell_kids (x := ⟨m[n].f0, m[n].f1 + 1, 2 * m[n].f2 + 0⟩) (y := ⟨m[n].f0, m[n].f1 + 1, 2 * m[n].f2 + 1⟩) hs
  have g0 := split_get m n h n (by omega)
  rw [if_neg (by omega), if_pos rfl] at g0
  have hb := (idok_iff.1 hid).2.2.1
  have ep : pcell ⟨m[n].f0, m[n].f1 + 1, 2 * m[n].f2 + 0⟩ = m[n] := by
    have k1 := (child_key hid h4 0 (by omega) (by omega)).1
    have p0 : parentP m[n].f0 (m[n].f1 + 1) (2 * m[n].f2 + 0) = (m[n].f0, m[n].f1, m[n].f2, true) := by
      rw [parentP, if_pos ⟨k1, by omega⟩, show m[n].f1 + 1 - 1 = m[n].f1 by omega, show (2 * m[n].f2 + 0) / 2 = m[n].f2 by omega]
    unfold pcell
    rw [p0]
  rw [mergeP_at _ n (by omega), g0, ep, splitP_at m n h]
  have ht : (m.take n).length = n := by rw [List.length_take]; omega
  have e1 : (m.take n ++ kids m[n] ++ m.drop (n + 1)).take n = m.take n := by
    rw [List.append_assoc]
    have := List.take_left (l₁ := m.take n) (l₂ := kids m[n] ++ m.drop (n + 1))
    rwa [ht] at this
  have e2 : (m.take n ++ kids m[n] ++ m.drop (n + 1)).drop (n + 2) = m.drop (n + 1) := by
    have := List.drop_left (l₁ := m.take n ++ kids m[n]) (l₂ := m.drop (n + 1))
    rwa [show (m.take n ++ kids m[n]).length = n + 2 by rw [List.length_append, ht]; rfl] at this
  rw [e1, e2, List.append_assoc]
  show m.take n ++ (m[n] :: m.drop (n + 1)) = m
  rw [← List.drop_eq_getElem_cons h, List.take_append_drop]

theorem FnRefined : laws_FnRefined.Pure := by
  intro l _ _ _
  refine Ev.rounds ?_
  unfold laws_FnRefined.f
  simp only [big_eq, Option.bind_some, decide_eq_true_eq]
  by_cases h : (l.length : Int) > 1048576
  · simp only [h, if_true]; exact Ev.now _
  · simp only [h, if_false]
    obtain ⟨R, m, ed, hok, hbal, hml, hR⟩ := s_drawBalanced l (by omega)
    refine Ev.bind ed ?_
    obtain ⟨ps, ep, hpl, hps⟩ := s_places l (by omega)
    refine Ev.bind ep ?_
    have hne : m ≠ [] := meshOk_ne hok
    have hpos : 0 < m.length := List.length_pos_iff.2 hne
    have hp0 : 0 ≤ rd ps 0 := by
      have := hps (ps[0]'(by omega)) (List.getElem_mem _)
      rw [show rd ps 0 = ps[0]'(by omega) by unfold rd; simp [show 0 < ps.length by omega]]
      exact this.1
    obtain ⟨n, hn⟩ : ∃ n : Nat, Int.tmod (rd ps 0) (m.length : Int) = n := by
      refine Int.eq_ofNat_of_zero_le ?_
      rw [Int.tmod_eq_emod_of_nonneg hp0]
      exact Int.emod_nonneg _ (by omega)
    have hnl : n < m.length := by
      have := Int.emod_lt_of_pos (rd ps 0) (show (0 : Int) < m.length by omega)
      rw [← Int.tmod_eq_emod_of_nonneg hp0, hn] at this
      omega
    have hid := meshOk_all hok _ (List.getElem_mem hnl)
    have hlv := (idok_iff.1 hid).2.2.2.1
    simp only [hn, show (0 : Int) < (ps.length : Int) by omega, if_true, show ¬ ((m.length : Int) = 0) by omega, if_false]
    refine Ev.bind (i_refineLeaf R m (n : Int) (by omega)) ?_
    simp only [show (0 : Int) ≤ (n : Int) by omega, show (n : Int) < (m.length : Int) by omega, if_true, rdc m n hnl]
    by_cases h4 : m[n].f1 = 4
    · have hr : mayRefB R m (n : Int) = false := by
        unfold mayRefB
        rw [if_pos hok, if_pos ⟨by omega, by omega⟩, rdc m n hnl, h4]
        rfl
      have hrp : refP R m (n : Int) = (R, m, false) := by unfold refP; rw [hr]; rfl
      simp only [h4, hrp, if_true, Bool.false_eq_true, if_false]
      refine Ev.bind (i_same R R m m (by omega)) ?_
      simp only [and_self, decide_true, if_true]
      refine Ev.bind (i_mayRef R m (n : Int) (by omega)) ?_
      simp only [hr, Bool.not_false]
      exact Ev.now _
    · have hr : mayRefB R m (n : Int) = true := by
        unfold mayRefB
        rw [if_pos hok, if_pos ⟨by omega, by omega⟩, rdc m n hnl]
        exact decide_eq_true (by omega)
      have hrp : refP R m (n : Int) = (R, splitP m n, true) := by unfold refP; rw [hr]; rfl
      have hl2 := splitP_length m n hnl
      have hok2 := split_ok hok n hnl h4
      have hco := split_co hok (un_bal.1 hbal) n hnl (by omega)
      have hcp : coP R (splitP m n) (n : Int) = (R, m, true) := by
        unfold coP
        rw [hco, if_pos rfl, Int.toNat_natCast, merge_split n hnl hid h4]
      simp only [h4, hrp, if_false]
      refine Ev.bind (i_coarsenPair R (splitP m n) (n : Int) (by omega)) ?_
      simp only [hcp, if_true]
      refine Ev.bind (i_mayRef R m (n : Int) (by omega)) ?_
      simp only [hr, if_true]
      refine Ev.bind (i_mayCo R (splitP m n) (n : Int) (by omega)) ?_
      simp only [hco, if_true]
      refine Ev.bind (i_same R R m m (by omega)) ?_
      simp only [and_self, decide_true, if_true]
      refine Ev.bind (i_same R R (splitP m n) m (by omega)) ?_
      have hd : decide (splitP m n = m) = false := decide_eq_false (fun e => by have := congrArg List.length e; omega)
      simp only [true_and, hd, Bool.false_eq_true, if_false]
      refine Ev.bind (s_mesh R (splitP m n) (by omega)) ?_
      simp only [hok2]
      exact Ev.now _

end Go.Proofs.Ytnkdnijnhaamiaa.Pure
