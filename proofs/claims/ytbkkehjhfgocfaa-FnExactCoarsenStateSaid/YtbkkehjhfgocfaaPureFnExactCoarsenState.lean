/- CoarsenState of the program and of the reference answer alike, for every state and every index (a state of bulk above 1048576 is passed over by the statement itself), the state reads as before and the results share no memory with it nor with one another; no condition. -/
import Derived.Test.YtbkkehjhfgocfaaCFnExactCoarsenState
set_option linter.unusedSimpArgs false
set_option linter.unusedVariables false
namespace Go.Proofs.Ytbkkehjhfgocfaa.Pure
open Go.RowKit Go.Proofs.Ytbkkehjhfgocfaa.PFnExactCoarsenState Go.Proofs.YtbkkehjhfgocfaaW.PrintWords Go.Proofs.YtbkkehjhfgocfaaW.PrintLast Go.Proofs.YtbkkehjhfgocfaaW.PrintMore Go.Proofs.Ytbkkehjhfgocfaa.CoreFnExactCoarsenState

/-! marks of a state -/
def markI (kk : Int) : Nat → List Int
  | 0 => []
  | n + 1 => kk :: markI (kk + 1) n
theorem markI_len : ∀ (n : Nat) (kk : Int), (markI kk n).length = n
  | 0, _ => rfl
  | n + 1, kk => by simp [markI, markI_len n]
theorem set_atI (pre : List Int) (x y : Int) (r : List Int) : (pre ++ x :: r).set ((pre.length : Int)).toNat y = pre ++ y :: r := by
  rw [Int.toNat_natCast, List.set_append_right _ _ (Nat.le_refl _)]; simp
theorem rd_atI (pre : List Int) (x : Int) (r : List Int) : rd (pre ++ x :: r) (pre.length : Int) = x := by
  rw [rdi _ pre.length (by simp)]; simp
theorem markInt_l0 : ∀ (rest pre : List Int) (kk : Int), pre.length + rest.length ≤ 1000000000 → 0 ≤ kk → kk + rest.length ≤ 4611686018427387904 → Ev (fun k => laws_markIntS.l0 k (pre ++ rest) kk (pre.length : Int)) (kk + rest.length, pre ++ markI kk rest.length) := by
  intro rest
  induction rest with
  | nil =>
    intro pre kk h h0 h1
    refine Ev.step (fun k => rfl) ?_
    simp only [laws_markIntS.l0, show ¬ ((pre.length : Int) < ((pre ++ ([] : List Int)).length : Int)) by simp, if_false]
    simpa [markI] using Ev.now (kk, pre)
  | cons x r ih =>
    intro pre kk h h0 h1
    rw [List.length_cons] at h h1
    refine Ev.step (fun k => rfl) ?_
    simp only [laws_markIntS.l0, show (pre.length : Int) < ((pre ++ x :: r).length : Int) by simp; omega, show (0 : Int) ≤ (pre.length : Int) by omega, if_true, set_atI]
    rw [w64 (n := kk + 1) (by omega) (by omega), wsucc (show pre.length < 4611686018427387904 by omega)]
    have := ih (pre ++ [kk]) (kk + 1) (by simp; omega) (by omega) (by omega)
    rw [List.append_assoc, List.append_assoc] at this
    simp only [List.singleton_append, List.length_append, List.length_singleton] at this
    simp only [markI, List.length_cons]
    rw [show kk + ((r.length + 1 : Nat) : Int) = kk + 1 + (r.length : Int) by omega]
    exact this
theorem markInt_ev (l : List Int) (kk : Int) (h : l.length ≤ 1048576) (h0 : 0 ≤ kk) (h1 : kk ≤ 1000000000000) : Ev (fun k => laws_markIntS.f k l kk) (kk + l.length, markI kk l.length) := by
  have := markInt_l0 l [] kk (by simp; omega) h0 (by omega)
  simpa [laws_markIntS.f] using this
theorem heldInt_l0 : ∀ (n : Nat) (pre : List Int) (kk : Int), pre.length + n ≤ 1000000000 → 0 ≤ kk → kk + n ≤ 4611686018427387904 → Ev (fun k => laws_heldIntS.l0 k (pre ++ markI kk n) kk (pre.length : Int)) (kk + n) := by
  intro n
  induction n with
  | zero =>
    intro pre kk h h0 h1
    refine Ev.step (fun k => rfl) ?_
    simp only [markI, laws_heldIntS.l0, show ¬ ((pre.length : Int) < ((pre ++ ([] : List Int)).length : Int)) by simp, if_false]
    simpa using Ev.now kk
  | succ n ih =>
    intro pre kk h h0 h1
    refine Ev.step (fun k => rfl) ?_
    simp only [markI, laws_heldIntS.l0, show (pre.length : Int) < ((pre ++ kk :: markI (kk + 1) n).length : Int) by simp; omega, show (0 : Int) ≤ (pre.length : Int) by omega, if_true, rd_atI]
    rw [w64 (n := kk + 1) (by omega) (by omega), wsucc (show pre.length < 4611686018427387904 by omega)]
    have := ih (pre ++ [kk]) (kk + 1) (by simp; omega) (by omega) (by omega)
    rw [List.append_assoc] at this
    simp only [List.singleton_append, List.length_append, List.length_singleton] at this
    rw [show kk + ((n + 1 : Nat) : Int) = kk + 1 + (n : Int) by omega]
    exact this
theorem heldInt_ev (n : Nat) (kk : Int) (h : n ≤ 1048576) (h0 : 0 ≤ kk) (h1 : kk ≤ 1000000000000) : Ev (fun k => laws_heldIntS.f k (markI kk n) kk) (kk + n) := by
  have := heldInt_l0 n [] kk (by simp; omega) h0 (by omega)
  simpa [laws_heldIntS.f] using this
theorem markState_ev (R : Int) (l : Mid) (a b c : List Int) (hl : l.length ≤ 1048576) (ha : a.length ≤ 1048576) (hb : b.length ≤ 1048576) (hc : c.length ≤ 1048576) : Ev (fun k => laws_markState.f k R l a b c 1) (1 + 3 * (l.length : Int) + a.length + b.length + c.length, markL 1 l, markI (1 + 3 * (l.length : Int)) a.length, markI (1 + 3 * (l.length : Int) + a.length) b.length, markI (1 + 3 * (l.length : Int) + a.length + b.length) c.length) := by
  unfold laws_markState.f
  refine Ev.bind (markMesh_ev R l 1 (by omega) (by omega) (by omega)) ?_
  refine Ev.bind (markInt_ev a _ ha (by omega) (by omega)) ?_
  refine Ev.bind (markInt_ev b _ hb (by omega) (by omega)) ?_
  refine Ev.bind (markInt_ev c _ hc (by omega) (by omega)) ?_
  exact Ev.now _
theorem heldState_ev (R : Int) (l : Mid) (n1 n2 n3 : Nat) (hl : l.length ≤ 1048576) (ha : n1 ≤ 1048576) (hb : n2 ≤ 1048576) (hc : n3 ≤ 1048576) : Ev (fun k => laws_heldState.f k R (markL 1 l) (markI (1 + 3 * (l.length : Int)) n1) (markI (1 + 3 * (l.length : Int) + n1) n2) (markI (1 + 3 * (l.length : Int) + n1 + n2) n3) 1) (1 + 3 * (l.length : Int) + n1 + n2 + n3) := by
  unfold laws_heldState.f
  refine Ev.bind (heldMesh_ev R l 1 (by omega) (by omega) (by omega)) ?_
  simp only [show ¬ ((1 : Int) + 3 * (l.length : Int) < 0) by omega, if_false]
  refine Ev.bind (heldInt_ev n1 _ ha (by omega) (by omega)) ?_
  simp only [show ¬ ((1 : Int) + 3 * (l.length : Int) + n1 < 0) by omega, if_false]
  refine Ev.bind (heldInt_ev n2 _ hb (by omega) (by omega)) ?_
  simp only [show ¬ ((1 : Int) + 3 * (l.length : Int) + n1 + n2 < 0) by omega, if_false]
  refine Ev.bind (heldInt_ev n3 _ hc (by omega) (by omega)) ?_
  simp only [show ¬ ((1 : Int) + 3 * (l.length : Int) + n1 + n2 + n3 < 0) by omega, if_false]
  exact Ev.now _
theorem eqSt (R : Int) (l : Mid) (a b c : List Int) (hl : l.length ≤ 1048576) (ha : a.length ≤ 1048576) (hb : b.length ≤ 1048576) (hc : c.length ≤ 1048576) : Ev (fun k => laws_eqState.f k R l a b c R l a b c) true := by
  unfold laws_eqState.f
  refine Ev.bind (eqMesh_refl R l (by omega)) ?_
  simp only [if_true]
  refine Ev.bind (eqInt_refl a ha) ?_
  simp only [if_true]
  refine Ev.bind (eqInt_refl b hb) ?_
  simp only [if_true]
  refine Ev.bind (eqInt_refl c hc) ?_
  simp only [if_true]
  exact Ev.now _

theorem st_all (R : Int) (l : List S101) (m t b : List Int) (hs : l.length + m.length + t.length + b.length ≤ 1048576) {sp im : Nat → Option (Int × Mid × List Int × List Int × List Int × Bool)} {R2 : Int} {l2 : Mid} {m2 t2 b2 : List Int} {ok : Bool} (h1 : l2.length ≤ 1048576) (h2 : m2.length ≤ 1048576) (h3 : t2.length ≤ 1048576) (h4 : b2.length ≤ 1048576) (hsp : Ev sp (R2, l2, m2, t2, b2, ok)) (him : Ev im (R2, l2, m2, t2, b2, ok)) :
    ∃ k, laws_toState.f k R l m t b = some (R, l.map conv, m, t, b) ∧ sp k = some (R2, l2, m2, t2, b2, ok) ∧ im k = some (R2, l2, m2, t2, b2, ok) ∧ laws_eqState.f k R (l.map conv) m t b R (l.map conv) m t b = some true ∧ laws_eqState.f k R2 l2 m2 t2 b2 R2 l2 m2 t2 b2 = some true ∧
      (∃ n3 l3 m3 t3 b3, laws_markState.f k R (l.map conv) m t b 1 = some (n3, l3, m3, t3, b3) ∧ 0 ≤ n3) ∧ (∃ n4 l4 m4 t4 b4, laws_markState.f k R2 l2 m2 t2 b2 1 = some (n4, l4, m4, t4, b4) ∧ 0 ≤ n4 ∧ laws_heldState.f k R2 l4 m4 t4 b4 1 = some n4) := by
  have hc : (l.map conv).length ≤ 1048576 := by simp; omega
  obtain ⟨K1, e1⟩ := toState_ev R l m t b (by omega) (by omega) (by omega) (by omega)
  obtain ⟨K2, e2⟩ := hsp
  obtain ⟨K3, e3⟩ := him
  obtain ⟨K4, e4⟩ := eqSt R (l.map conv) m t b hc (by omega) (by omega) (by omega)
  obtain ⟨K5, e5⟩ := eqSt R2 l2 m2 t2 b2 h1 h2 h3 h4
  obtain ⟨K6, e6⟩ := markState_ev R (l.map conv) m t b hc (by omega) (by omega) (by omega)
  obtain ⟨K7, e7⟩ := markState_ev R2 l2 m2 t2 b2 h1 h2 h3 h4
  obtain ⟨K8, e8⟩ := heldState_ev R2 l2 m2.length t2.length b2.length h1 h2 h3 h4
  refine ⟨K1 + K2 + K3 + K4 + K5 + K6 + K7 + K8, e1 _ (by omega), e2 _ (by omega), e3 _ (by omega), e4 _ (by omega), e5 _ (by omega), ⟨_, _, _, _, _, e6 _ (by omega), by omega⟩, _, _, _, _, _, e7 _ (by omega), by omega, e8 _ (by omega)⟩

/-- The law over a state, out of what the reference and the program make of it. -/
theorem st_law (R : Int) (A1 A2 A3 A4 : Option Addr) (a1 a2 a3 a4 : Nat) (l : List S101) (m t b : List Int) (i : Int) (w : World) (ha : Rd k101 w A1 a1 l A2 a2 m A3 a3 t A4 a4 b)
    (hcon : l.length + m.length + t.length + b.length ≤ 1048576 → ∃ R2 l2 m2 t2 b2 ok, (l2.length ≤ 1048576 ∧ m2.length ≤ 1048576 ∧ t2.length ≤ 1048576 ∧ b2.length ≤ 1048576) ∧
      (∀ (w : World) (A1 A2 A3 A4 : Option Addr) (c1 c2 c3 c4 : Nat), Rd k36 w A1 c1 (l.map conv) A2 c2 m A3 c3 t A4 c4 b → Calls Try.prog 23 #[.agg #[.int .i64 R, .slice A1 (l.map conv).length c1, .slice A2 m.length c2, .slice A3 t.length c3, .slice A4 b.length c4], .int .i64 i] w (Made w R2 l2 m2 t2 b2 (fun v => .returned (.tuple #[v, .bool ok])))) ∧
      (∀ (w : World) (A1 A2 A3 A4 : Option Addr) (c1 c2 c3 c4 : Nat), Rd k36 w A1 c1 (l.map conv) A2 c2 m A3 c3 t A4 c4 b → Calls Try.prog 20 #[.agg #[.int .i64 R, .slice A1 (l.map conv).length c1, .slice A2 m.length c2, .slice A3 t.length c3, .slice A4 b.length c4], .int .i64 i] w (Made w R2 l2 m2 t2 b2 (fun v => .returned (.tuple #[v, .bool ok]))))) :
    Calls Try.prog 4 #[.agg #[.int .i64 R, .slice A1 l.length a1, .slice A2 m.length a2, .slice A3 t.length a3, .slice A4 b.length a4], .int .i64 i] w fun e w' => e = .returned (.bool true) ∧ Below w.heap.size w w' := by
  obtain ⟨r, e, hr⟩ := szState_ex R l m t b ha.r1.2.1 ha.r2.2.1 ha.r3.2.1 ha.r4.2.1
  by_cases h : r < 0
  · exact law_early R A1 A2 A3 A4 a1 a2 a3 a4 l m t b i w ha r e h
  · have hs := hr (by omega)
    obtain ⟨R2, l2, m2, t2, b2, ok, ⟨q1, q2, q3, q4⟩, hsp, him⟩ := hcon hs
    obtain ⟨k, k1, _, _, k4, k5, ⟨n3, l3, m3, t3, b3, k6, k7⟩, n4, l4, m4, t4, b4, k8, k9, k10⟩ := st_all R l m t b hs q1 q2 q3 q4 (Ev.now (R2, l2, m2, t2, b2, ok)) (Ev.now (R2, l2, m2, t2, b2, ok))
    exact law_walk k R A1 A2 A3 A4 a1 a2 a3 a4 l m t b i w ha r e (by omega) R (l.map conv) m t b k1 R2 l2 m2 t2 b2 ok hsp him k4 k5 n3 l3 m3 t3 b3 k6 k7 n4 l4 m4 t4 b4 k8 k9 k10
theorem st_len {R : Int} {l : Mid} {m t b : List Int} (h : stOkB R l m t b = true) : balB R l = true ∧ m.length = l.length ∧ t.length = l.length ∧ (b.length : Int) = R := by
  unfold stOkB at h
  by_cases h1 : balB R l = true
  · rw [if_pos h1] at h
    by_cases h2 : m.length = l.length ∧ t.length = l.length ∧ (b.length : Int) = R
    · exact ⟨h1, h2⟩
    · rw [if_neg h2] at h; cases h
  · rw [if_neg h1] at h; cases h
theorem bal_ok {R : Int} {l : Mid} (h : balB R l = true) : meshOkB R l = true ∧ firstUn l < 0 := by
  unfold balB at h
  by_cases h1 : meshOkB R l = true
  · rw [if_pos h1] at h; exact ⟨h1, of_decide_eq_true h⟩
  · rw [if_neg h1] at h; cases h
theorem sl_in (b : List Int) (hb : b.length ≤ 1048576) : slices_Clone_int_int.f b = some b := by unfold slices_Clone_int_int.f; rw [if_pos (by omega)]
theorem cp7 (R : Int) (l : Mid) (m t b : List Int) (hl : l.length ≤ 1048576) (hm : m.length ≤ 1048576) (ht : t.length ≤ 1048576) (hb : b.length ≤ 1048576) : spec_l07Copy.f R l m t b = some (R, l, m, t, b) := by
  unfold spec_l07Copy.f
  rw [if_pos (by omega), s_copy R l (by omega)]
  rfl
theorem icp (R : Int) (l : Mid) (m t b : List Int) (hl : l.length ≤ 1048576) (hm : m.length ≤ 1048576) (ht : t.length ≤ 1048576) (hb : b.length ≤ 1048576) : impl_copyState.f R l m t b = some (R, l, m, t, b) := by
  unfold impl_copyState.f
  simp only [i_copy R l (by omega), Option.bind_some, sl_in m hm, sl_in t ht, sl_in b hb]

theorem FnExactCoarsenState (R : Int) (A1 A2 A3 A4 : Option Addr) (a1 a2 a3 a4 : Nat) (l : List S101) (m t b : List Int) (i : Int) (w : World) (ha : Rd k101 w A1 a1 l A2 a2 m A3 a3 t A4 a4 b) :
    Calls Try.prog 4 #[.agg #[.int .i64 R, .slice A1 l.length a1, .slice A2 m.length a2, .slice A3 t.length a3, .slice A4 b.length a4], .int .i64 i] w fun e w' => e = .returned (.bool true) ∧ Below w.heap.size w w' := by
  refine st_law R A1 A2 A3 A4 a1 a2 a3 a4 l m t b i w ha (fun hs => ?_)
  have hl : (l.map conv).length ≤ 1048576 := by simp; omega
  have hm : m.length ≤ 1048576 := by omega
  have ht : t.length ≤ 1048576 := by omega
  have hb : b.length ≤ 1048576 := by omega
  clear ha hs
  generalize l.map conv = l at hl ⊢
  have c7 := cp7 R l m t b hl hm ht hb
  have c8 := icp R l m t b hl hm ht hb
  obtain ⟨K1, e1⟩ := s_st R l m t b hl hm hb
  obtain ⟨K2, e2⟩ := i_st R l m t b hl hm hb
  have e1 := e1 K1 (Nat.le_refl _)
  have e2 := e2 K2 (Nat.le_refl _)
  by_cases h : stOkB R l m t b = true
  · rw [h] at e1 e2
    obtain ⟨hbal, hml, htl, hbl⟩ := st_len h
    obtain ⟨hok, hun⟩ := bal_ok hbal
    have hlen := meshOk_len hok
    obtain ⟨K3, e3⟩ := s_mayCo R l i (by omega)
    obtain ⟨K4, e4⟩ := i_mayCo R l i (by omega)
    by_cases hr : mayCoB R l i = true
    · rw [hr] at e3 e4
      obtain ⟨n, rfl, hn, _, _⟩ := mayCo_at hr
      have hml2 := mergeP_length l n hn
      have hss := s_merge R l n hn (by omega)
      have hii := i_coarsen l n hn (by omega)
      have hz : (m.length + 2) * 8 ≤ 140737488355328 ∧ (t.length + 2) * 8 ≤ 140737488355328 ∧ b.length * 8 ≤ 140737488355328 := by omega
      obtain ⟨K1', e1'⟩ := s_st R l m t b hl hm hb
      obtain ⟨K2', e2'⟩ := i_st R l m t b hl hm hb
      rw [h] at e1' e2'
      refine ⟨R, mergeP l n, _, _, b, true, ⟨by omega, ?_, ?_, hb⟩, fun w A1 A2 A3 A4 c1 c2 c3 c4 ha => spec_CoarsenState.merge_ (K1' + K3) R A1 c1 l A2 c2 m A3 c3 t A4 c4 b n w ha (e1' _ (by omega)) (e3 _ (by omega)) ⟨by omega, by omega⟩ R (mergeP l n) hss hz _ _ rfl rfl, fun w A1 A2 A3 A4 c1 c2 c3 c4 ha => impl_CoarsenState.coarsen_ (K2' + K4) R A1 c1 l A2 c2 m A3 c3 t A4 c4 b n w ha (e2' _ (by omega)) (e4 _ (by omega)) ⟨by omega, by omega⟩ (mergeP l n) hii hz _ _ rfl rfl c8⟩
      · simp only [List.length_append, List.length_take, List.length_drop, List.length_cons, List.length_nil]; omega
      · simp only [List.length_append, List.length_take, List.length_drop, List.length_cons, List.length_nil]; omega
    · have hr : mayCoB R l i = false := by simpa using hr
      rw [hr] at e3 e4
      obtain ⟨K1', e1'⟩ := s_st R l m t b hl hm hb
      obtain ⟨K2', e2'⟩ := i_st R l m t b hl hm hb
      rw [h] at e1' e2'
      exact ⟨R, l, m, t, b, false, ⟨hl, hm, ht, hb⟩, fun w A1 A2 A3 A4 c1 c2 c3 c4 ha => spec_CoarsenState.fail_b (K1' + K3) R A1 c1 l A2 c2 m A3 c3 t A4 c4 b i w ha (e1' _ (by omega)) (e3 _ (by omega)) c7, fun w A1 A2 A3 A4 c1 c2 c3 c4 ha => impl_CoarsenState.fail_b (K2' + K4) R A1 c1 l A2 c2 m A3 c3 t A4 c4 b i w ha (e2' _ (by omega)) (e4 _ (by omega)) c8⟩
  · have h : stOkB R l m t b = false := by simpa using h
    rw [h] at e1 e2
    exact ⟨R, l, m, t, b, false, ⟨hl, hm, ht, hb⟩, fun w A1 A2 A3 A4 c1 c2 c3 c4 ha => spec_CoarsenState.fail_a K1 R A1 c1 l A2 c2 m A3 c3 t A4 c4 b i w ha e1 c7, fun w A1 A2 A3 A4 c1 c2 c3 c4 ha => impl_CoarsenState.fail_a K2 R A1 c1 l A2 c2 m A3 c3 t A4 c4 b i w ha e2 c8⟩
end Go.Proofs.Ytbkkehjhfgocfaa.Pure
