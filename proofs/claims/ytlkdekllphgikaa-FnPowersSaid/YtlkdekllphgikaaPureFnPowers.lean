/- The logarithm of a power of two is exact, and halves add up, for every draw (one of more than 1048576 bytes is passed over by the statement itself); no condition. -/
import Derived.Test.YtlkdekllphgikaaCFnPowers
set_option linter.unusedSimpArgs false
set_option linter.unusedVariables false
namespace Go.Proofs.Ytlkdekllphgikaa.Pure
open Go.RowKit Go.Proofs.Ytlkdekllphgikaa.PFnPowers Go.Proofs.YtlkdekllphgikaaW.PrintWords Go.Proofs.YtlkdekllphgikaaW.PrintLast Go.Proofs.YtlkdekllphgikaaW.PrintMore Go.Proofs.Ytlkdekllphgikaa.CoreFnPowers

theorem FnPowers : laws_FnPowers.Pure := by
  intro l _ _ _
  refine Ev.rounds ?_
  unfold laws_FnPowers.f
  simp only [big_eq, Option.bind_some, decide_eq_true_eq]
  by_cases h : (l.length : Int) > 1048576
  · simp only [h, if_true]; exact Ev.now _
  · simp only [h, if_false]
    obtain ⟨ps, e, hl, hx⟩ := s_places l (by omega)
    refine Ev.bind e ?_
    have hr : ∀ i : Nat, i < 12 → 0 ≤ rd ps (i : Int) ∧ rd ps (i : Int) < 10000 := by
      intro i hi
      have h2 : i < ps.length := by omega
      have : rd ps (i : Int) = ps[i] := by unfold rd; simp [h2]
      rw [this]
      exact hx _ (List.getElem_mem h2)
    have h0 := hr 0 (by omega)
    have h1 := hr 1 (by omega)
    have h2 := hr 2 (by omega)
    simp only [Int.natCast_zero] at h0
    rw [show ((1 : Nat) : Int) = 1 from rfl] at h1
    rw [show ((2 : Nat) : Int) = 2 from rfl] at h2
    have l0 : (0 : Int) < (ps.length : Int) := by omega
    have l1 : (1 : Int) < (ps.length : Int) := by omega
    have l2 : (2 : Int) < (ps.length : Int) := by omega
    have ek : Int.tmod (rd ps 0) 60 = rd ps 0 % 60 := Int.tmod_eq_emod_of_nonneg h0.1
    have e2 : wrap64 (1 + rd ps 2) = 1 + rd ps 2 := w64 (by omega) (by omega)
    simp only [l0, l1, l2, if_true, ek, e2, i_split h1.1 (show rd ps 1 ≤ 9223372036854775807 by omega), Option.bind_some]
    generalize hK : rd ps 0 % 60 = kk
    have hk : 0 ≤ kk ∧ kk < 60 := by omega
    generalize rd ps 1 = n1 at h1 ⊢
    generalize rd ps 2 = n2 at h2 ⊢
    clear hK hr
    obtain ⟨m, rfl⟩ := Int.eq_ofNat_of_zero_le hk.1
    have hm : m < 60 := by omega
    have p1 := pow_big ⟨m, hm⟩
    have p2 := logP_pow ⟨m, hm⟩
    have p3 := pow_isPow ⟨m, hm⟩
    have p4 := pow_notPow ⟨m, hm⟩
    simp only at p1 p2 p3 p4
    have s1 : shl .i64 1 (m : Int) = ((2 ^ m : Nat) : Int) := by
      have := shl_one (y := (m : Int)) (by omega) (by omega)
      rwa [Int.toNat_natCast] at this
    have u1 : IntKind.u64.wrap (m : Int) = (m : Int) := u64_small (by omega) (by omega)
    obtain ⟨b1, b2, b3⟩ := bitLen_bounds 14 (1 + n2).toNat (by omega) (by omega) (by omega)
    have b4 := bitLen_le 14 (1 + n2).toNat (by omega) (by omega)
    have lg : logP (1 + n2) = ((Lib.bitLen (1 + n2).toNat : Nat) : Int) - 1 := by unfold logP; rw [if_neg (by omega)]
    have s2 : shl .i64 1 (((Lib.bitLen (1 + n2).toNat : Nat) : Int) - 1) ≤ 1 + n2 := by
      rw [shl_one (by omega) (by omega), show (((Lib.bitLen (1 + n2).toNat : Nat) : Int) - 1).toNat = Lib.bitLen (1 + n2).toNat - 1 by omega]
      omega
    have s3 : shl .i64 1 ((Lib.bitLen (1 + n2).toNat : Nat) : Int) > 1 + n2 := by
      rw [shl_one (by omega) (by omega), Int.toNat_natCast]
      omega
    simp only [u1, i_log (1 + n2) (by omega), lg, Option.bind_some, show (0 : Int) ≤ (m : Int) from by omega, if_true, s1, i_log ((2 ^ m : Nat) : Int) (by omega), p2, i_isPow]
    have q1 : isPowB ((2 ^ m : Nat) : Int) = true := by
      unfold isPowB; rw [if_pos (by omega), w64 (by omega) (by omega)]; exact p3
    have w1 : wrap64 (((Lib.bitLen (1 + n2).toNat : Nat) : Int) - 1 + 1) = ((Lib.bitLen (1 + n2).toNat : Nat) : Int) := by rw [w64 (by omega) (by omega)]; omega
    have u2 : IntKind.u64.wrap (((Lib.bitLen (1 + n2).toNat : Nat) : Int) - 1) = ((Lib.bitLen (1 + n2).toNat : Nat) : Int) - 1 := u64_small (by omega) (by omega)
    have u3 : IntKind.u64.wrap ((Lib.bitLen (1 + n2).toNat : Nat) : Int) = ((Lib.bitLen (1 + n2).toNat : Nat) : Int) := u64_small (by omega) (by omega)
    have z1 : wrap64 (n1 - n1 / 2 + n1 / 2) = n1 := by rw [w64 (by omega) (by omega)]; omega
    have z2 : wrap64 (n1 - n1 / 2 - n1 / 2) ≥ 0 ∧ wrap64 (n1 - n1 / 2 - n1 / 2) ≤ 1 := by rw [w64 (by omega) (by omega)]; omega
    have z3 : (0 : Int) ≤ ((Lib.bitLen (1 + n2).toNat : Nat) : Int) - 1 := by omega
    have z4 : (0 : Int) ≤ ((Lib.bitLen (1 + n2).toNat : Nat) : Int) := by omega
    simp only [q1, if_true, z1, z2.1, z2.2, u2, z3, s2, w1, u3, z4, s3, decide_true]
    by_cases hk2 : (m : Int) < 2
    · simp only [hk2, if_true]; exact Ev.now _
    · have hm2 : 2 ≤ m := by omega
      have p5 := p1.2.2 hm2
      have q2 : isPowB (wrap64 (((2 ^ m : Nat) : Int) - 1)) = false := by
        rw [w64 (by omega) (by omega)]
        unfold isPowB; rw [if_pos (by omega), w64 (by omega) (by omega)]; exact p4 hm2
      simp only [hk2, if_false, q2, Bool.false_eq_true]
      exact Ev.now _

end Go.Proofs.Ytlkdekllphgikaa.Pure
