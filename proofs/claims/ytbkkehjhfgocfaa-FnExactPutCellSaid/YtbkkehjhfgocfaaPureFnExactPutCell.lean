/- PutCell of the program and of the reference answer alike, for every state and every three numbers (a state of bulk above 1048576 is passed over by the statement itself), the state reads as before and the results share no memory with it nor with one another; no condition. -/
import Derived.Test.YtbkkehjhfgocfaaCFnExactPutCell
set_option linter.unusedSimpArgs false
set_option linter.unusedVariables false
namespace Go.Proofs.Ytbkkehjhfgocfaa.Pure
open Go.RowKit Go.Proofs.Ytbkkehjhfgocfaa.PFnExactPutCell Go.Proofs.YtbkkehjhfgocfaaW.PrintWords Go.Proofs.YtbkkehjhfgocfaaW.PrintLast Go.Proofs.YtbkkehjhfgocfaaW.PrintMore Go.Proofs.Ytbkkehjhfgocfaa.CoreFnExactPutCell

/-! marks of a state -/
def markI (kk : Int) : Nat → List Int
  | 0 => []
  | n + 1 => kk :: markI (kk + 1) n
theorem markI_len : ∀ (n : Nat) (kk : Int), (markI kk n).length = n
  | 0, _ => rfl
  | n + 1, kk => by simp [markI, markI_len n]
theorem set_atI (pre : List Int) (x y : Int) (r : List Int) : (pre ++ x :: r).set ((pre.length : Int)).toNat y = pre ++ y :: r := by
  rw [Int.toNat_natCast, List.set_append_right _ _ (Nat.le_refl _)]; simp
theorem rd_atI (pre : List Int) (x : Int) (r : List Int) : rd (pre ++ x :: r) (pre.length : Int) = x := by
  rw [rdi _ pre.length (by simp)]; simp
theorem markInt_l0 : ∀ (rest pre : List Int) (kk : Int), pre.length + rest.length ≤ 1000000000 → 0 ≤ kk → kk + rest.length ≤ 4611686018427387904 → Ev (fun k => laws_markIntS.l0 k (pre ++ rest) kk (pre.length : Int)) (kk + rest.length, pre ++ markI kk rest.length) := by
  intro rest
  induction rest with
  | nil =>
    intro pre kk h h0 h1
    refine Ev.step (fun k => rfl) ?_
    simp only [laws_markIntS.l0, show ¬ ((pre.length : Int) < ((pre ++ ([] : List Int)).length : Int)) by simp, if_false]
    simpa [markI] using Ev.now (kk, pre)
  | cons x r ih =>
    intro pre kk h h0 h1
    rw [List.length_cons] at h h1
    refine Ev.step (fun k => rfl) ?_
    simp only [laws_markIntS.l0, show (pre.length : Int) < ((pre ++ x :: r).length : Int) by simp; omega, show (0 : Int) ≤ (pre.length : Int) by omega, if_true, set_atI]
    rw [w64 (n := kk + 1) (by omega) (by omega), wsucc (show pre.length < 4611686018427387904 by omega)]
    have := ih (pre ++ [kk]) (kk + 1) (by simp; omega) (by omega) (by omega)
    rw [List.append_assoc, List.append_assoc] at this
    simp only [List.singleton_append, List.length_append, List.length_singleton] at this
    simp only [markI, List.length_cons]
    rw [show kk + ((r.length + 1 : Nat) : Int) = kk + 1 + (r.length : Int) by omega]
    exact this
theorem markInt_ev (l : List Int) (kk : Int) (h : l.length ≤ 1048576) (h0 : 0 ≤ kk) (h1 : kk ≤ 1000000000000) : Ev (fun k => laws_markIntS.f k l kk) (kk + l.length, markI kk l.length) := by
  have := markInt_l0 l [] kk (by simp; omega) h0 (by omega)
  simpa [laws_markIntS.f] using this
theorem heldInt_l0 : ∀ (n : Nat) (pre : List Int) (kk : Int), pre.length + n ≤ 1000000000 → 0 ≤ kk → kk + n ≤ 4611686018427387904 → Ev (fun k => laws_heldIntS.l0 k (pre ++ markI kk n) kk (pre.length : Int)) (kk + n) := by
  intro n
  induction n with
  | zero =>
    intro pre kk h h0 h1
    refine Ev.step (fun k => rfl) ?_
    simp only [markI, laws_heldIntS.l0, show ¬ ((pre.length : Int) < ((pre ++ ([] : List Int)).length : Int)) by simp, if_false]
    simpa using Ev.now kk
  | succ n ih =>
    intro pre kk h h0 h1
    refine Ev.step (fun k => rfl) ?_
    simp only [markI, laws_heldIntS.l0, show (pre.length : Int) < ((pre ++ kk :: markI (kk + 1) n).length : Int) by simp; omega, show (0 : Int) ≤ (pre.length : Int) by omega, if_true, rd_atI]
    rw [w64 (n := kk + 1) (by omega) (by omega), wsucc (show pre.length < 4611686018427387904 by omega)]
    have := ih (pre ++ [kk]) (kk + 1) (by simp; omega) (by omega) (by omega)
    rw [List.append_assoc] at this
    simp only [List.singleton_append, List.length_append, List.length_singleton] at this
    rw [show kk + ((n + 1 : Nat) : Int) = kk + 1 + (n : Int) by omega]
    exact this
theorem heldInt_ev (n : Nat) (kk : Int) (h : n ≤ 1048576) (h0 : 0 ≤ kk) (h1 : kk ≤ 1000000000000) : Ev (fun k => laws_heldIntS.f k (markI kk n) kk) (kk + n) := by
  have := heldInt_l0 n [] kk (by simp; omega) h0 (by omega)
  simpa [laws_heldIntS.f] using this
theorem markState_ev (R : Int) (l : Mid) (a b c : List Int) (hl : l.length ≤ 1048576) (ha : a.length ≤ 1048576) (hb : b.length ≤ 1048576) (hc : c.length ≤ 1048576) : Ev (fun k => laws_markState.f k R l a b c 1) (1 + 3 * (l.length : Int) + a.length + b.length + c.length, markL 1 l, markI (1 + 3 * (l.length : Int)) a.length, markI (1 + 3 * (l.length : Int) + a.length) b.length, markI (1 + 3 * (l.length : Int) + a.length + b.length) c.length) := by
  unfold laws_markState.f
  refine Ev.bind (markMesh_ev R l 1 (by omega) (by omega) (by omega)) ?_
  refine Ev.bind (markInt_ev a _ ha (by omega) (by omega)) ?_
  refine Ev.bind (markInt_ev b _ hb (by omega) (by omega)) ?_
  refine Ev.bind (markInt_ev c _ hc (by omega) (by omega)) ?_
  exact Ev.now _
theorem heldState_ev (R : Int) (l : Mid) (n1 n2 n3 : Nat) (hl : l.length ≤ 1048576) (ha : n1 ≤ 1048576) (hb : n2 ≤ 1048576) (hc : n3 ≤ 1048576) : Ev (fun k => laws_heldState.f k R (markL 1 l) (markI (1 + 3 * (l.length : Int)) n1) (markI (1 + 3 * (l.length : Int) + n1) n2) (markI (1 + 3 * (l.length : Int) + n1 + n2) n3) 1) (1 + 3 * (l.length : Int) + n1 + n2 + n3) := by
  unfold laws_heldState.f
  refine Ev.bind (heldMesh_ev R l 1 (by omega) (by omega) (by omega)) ?_
  simp only [show ¬ ((1 : Int) + 3 * (l.length : Int) < 0) by omega, if_false]
  refine Ev.bind (heldInt_ev n1 _ ha (by omega) (by omega)) ?_
  simp only [show ¬ ((1 : Int) + 3 * (l.length : Int) + n1 < 0) by omega, if_false]
  refine Ev.bind (heldInt_ev n2 _ hb (by omega) (by omega)) ?_
  simp only [show ¬ ((1 : Int) + 3 * (l.length : Int) + n1 + n2 < 0) by omega, if_false]
  refine Ev.bind (heldInt_ev n3 _ hc (by omega) (by omega)) ?_
  simp only [show ¬ ((1 : Int) + 3 * (l.length : Int) + n1 + n2 + n3 < 0) by omega, if_false]
  exact Ev.now _
theorem eqSt (R : Int) (l : Mid) (a b c : List Int) (hl : l.length ≤ 1048576) (ha : a.length ≤ 1048576) (hb : b.length ≤ 1048576) (hc : c.length ≤ 1048576) : Ev (fun k => laws_eqState.f k R l a b c R l a b c) true := by
  unfold laws_eqState.f
  refine Ev.bind (eqMesh_refl R l (by omega)) ?_
  simp only [if_true]
  refine Ev.bind (eqInt_refl a ha) ?_
  simp only [if_true]
  refine Ev.bind (eqInt_refl b hb) ?_
  simp only [if_true]
  refine Ev.bind (eqInt_refl c hc) ?_
  simp only [if_true]
  exact Ev.now _

theorem st_all (R : Int) (l : List S101) (m t b : List Int) (hs : l.length + m.length + t.length + b.length ≤ 1048576) {sp im : Nat → Option (Int × Mid × List Int × List Int × List Int × Bool)} {R2 : Int} {l2 : Mid} {m2 t2 b2 : List Int} {ok : Bool} (h1 : l2.length ≤ 1048576) (h2 : m2.length ≤ 1048576) (h3 : t2.length ≤ 1048576) (h4 : b2.length ≤ 1048576) (hsp : Ev sp (R2, l2, m2, t2, b2, ok)) (him : Ev im (R2, l2, m2, t2, b2, ok)) :
    ∃ k, laws_toState.f k R l m t b = some (R, l.map conv, m, t, b) ∧ sp k = some (R2, l2, m2, t2, b2, ok) ∧ im k = some (R2, l2, m2, t2, b2, ok) ∧ laws_eqState.f k R (l.map conv) m t b R (l.map conv) m t b = some true ∧ laws_eqState.f k R2 l2 m2 t2 b2 R2 l2 m2 t2 b2 = some true ∧
      (∃ n3 l3 m3 t3 b3, laws_markState.f k R (l.map conv) m t b 1 = some (n3, l3, m3, t3, b3) ∧ 0 ≤ n3) ∧ (∃ n4 l4 m4 t4 b4, laws_markState.f k R2 l2 m2 t2 b2 1 = some (n4, l4, m4, t4, b4) ∧ 0 ≤ n4 ∧ laws_heldState.f k R2 l4 m4 t4 b4 1 = some n4) := by
  have hc : (l.map conv).length ≤ 1048576 := by simp; omega
  obtain ⟨K1, e1⟩ := toState_ev R l m t b (by omega) (by omega) (by omega) (by omega)
  obtain ⟨K2, e2⟩ := hsp
  obtain ⟨K3, e3⟩ := him
  obtain ⟨K4, e4⟩ := eqSt R (l.map conv) m t b hc (by omega) (by omega) (by omega)
  obtain ⟨K5, e5⟩ := eqSt R2 l2 m2 t2 b2 h1 h2 h3 h4
  obtain ⟨K6, e6⟩ := markState_ev R (l.map conv) m t b hc (by omega) (by omega) (by omega)
  obtain ⟨K7, e7⟩ := markState_ev R2 l2 m2 t2 b2 h1 h2 h3 h4
  obtain ⟨K8, e8⟩ := heldState_ev R2 l2 m2.length t2.length b2.length h1 h2 h3 h4
  refine ⟨K1 + K2 + K3 + K4 + K5 + K6 + K7 + K8, e1 _ (by omega), e2 _ (by omega), e3 _ (by omega), e4 _ (by omega), e5 _ (by omega), ⟨_, _, _, _, _, e6 _ (by omega), by omega⟩, _, _, _, _, _, e7 _ (by omega), by omega, e8 _ (by omega)⟩

def putQ (R : Int) (l : Mid) (m t b : List Int) (i x y : Int) : Int × Mid × List Int × List Int × List Int × Bool :=
  if stOkB R l m t b = true then (if 0 ≤ i ∧ i ≤ (l.length : Int) - 1 then (if stOkB R l (m.set i.toNat x) (t.set i.toNat y) b = true then (R, l, m.set i.toNat x, t.set i.toNat y, b, true) else (R, l, m, t, b, false)) else (R, l, m, t, b, false)) else (R, l, m, t, b, false)
theorem st_len {R : Int} {l : Mid} {m t b : List Int} (h : stOkB R l m t b = true) : m.length = l.length ∧ t.length = l.length := by
  unfold stOkB at h
  by_cases h1 : balB R l = true
  · rw [if_pos h1] at h
    by_cases h2 : m.length = l.length ∧ t.length = l.length ∧ (b.length : Int) = R
    · exact ⟨h2.1, h2.2.1⟩
    · rw [if_neg h2] at h; cases h
  · rw [if_neg h1] at h; cases h
section
variable (R : Int) (l : Mid) (m t b : List Int) (i x y : Int) (hl : l.length ≤ 1048576) (hm : m.length ≤ 1048576) (ht : t.length ≤ 1048576) (hb : b.length ≤ 1048576)
include hl hm ht hb
theorem cp7 : spec_l07Copy.f R l m t b = some (R, l, m, t, b) := by
  unfold spec_l07Copy.f
  rw [if_pos (by omega), s_copy R l (by omega)]
  rfl
theorem icp : impl_copyState.f R l m t b = some (R, l, m, t, b) := by
  have hcl : ∀ l : List Int, l.length ≤ 1048576 → slices_Clone_int_int.f l = some l := fun l hl => by unfold slices_Clone_int_int.f; rw [if_pos (by omega)]
  unfold impl_copyState.f
  simp only [i_copy R l (by omega), Option.bind_some, hcl m hm, hcl t ht, hcl b hb]
theorem s_put : Ev (fun k => spec_PutCell.f k R l m t b i x y) (putQ R l m t b i x y) := by
  unfold spec_PutCell.f putQ
  simp only [cp7 R l m t b hl hm ht hb, Option.bind_some]
  refine Ev.bind (s_st R l m t b hl hm hb) ?_
  by_cases h : stOkB R l m t b = true
  · obtain ⟨e1, e2⟩ := st_len h
    simp only [h, if_true, s_in, Option.bind_some, e1, wlen1 (show l.length < 4611686018427387904 by omega)]
    by_cases h2 : 0 ≤ i ∧ i ≤ (l.length : Int) - 1
    · rw [if_pos h2]
      refine Ev.step (fun k => rfl) ?_
      simp only [spec_PutCell.j0, h2, and_self, decide_true, Bool.not_true, Bool.false_eq_true, if_false, show (0 : Int) ≤ i from h2.1, show i < (m.length : Int) by omega, show i < (t.length : Int) by omega, if_true, Option.bind_some]
      refine Ev.bind (s_st R l (m.set i.toNat x) (t.set i.toNat y) b hl (by simp; omega) hb) ?_
      by_cases h3 : stOkB R l (m.set i.toNat x) (t.set i.toNat y) b = true
      · simp only [h3, if_true]; exact Ev.now _
      · simp only [h3, if_false, cp7 R l m t b hl hm ht hb, Option.bind_some, Bool.false_eq_true]; exact Ev.now _
    · rw [if_neg h2]
      refine Ev.step (fun k => rfl) ?_
      simp only [spec_PutCell.j0, decide_eq_false h2, Bool.not_false, if_true]
      exact Ev.now _
  · simp only [h, if_false, Bool.false_eq_true]
    refine Ev.step (fun k => rfl) ?_
    simp only [spec_PutCell.j0, if_true]
    exact Ev.now _
theorem i_put : Ev (fun k => impl_PutCell.f k R l m t b i x y) (putQ R l m t b i x y) := by
  unfold impl_PutCell.f putQ
  simp only [icp R l m t b hl hm ht hb, Option.bind_some]
  refine Ev.bind (i_st R l m t b hl hm hb) ?_
  by_cases h : stOkB R l m t b = true
  · obtain ⟨e1, e2⟩ := st_len h
    simp only [h, if_true, i_has R l i (by omega), Option.bind_some]
    by_cases h2 : 0 ≤ i ∧ i ≤ (l.length : Int) - 1
    · simp only [h2, and_self, decide_true, if_true, show (0 : Int) ≤ i from h2.1, show i < (m.length : Int) by omega, show i < (t.length : Int) by omega]
      refine Ev.bind (i_st R l (m.set i.toNat x) (t.set i.toNat y) b hl (by simp; omega) hb) ?_
      by_cases h3 : stOkB R l (m.set i.toNat x) (t.set i.toNat y) b = true
      · simp only [h3, if_true]; exact Ev.now _
      · simp only [h3, if_false, Bool.false_eq_true]; exact Ev.now _
    · simp only [decide_eq_false h2, if_neg h2, Bool.false_eq_true, if_false]
      exact Ev.now _
  · simp only [h, if_false, Bool.false_eq_true]
    exact Ev.now _
omit hl hm ht hb in
theorem put_len : (putQ R l m t b i x y).2.1.length = l.length ∧ (putQ R l m t b i x y).2.2.1.length = m.length ∧ (putQ R l m t b i x y).2.2.2.1.length = t.length ∧ (putQ R l m t b i x y).2.2.2.2.1.length = b.length := by
  unfold putQ
  split
  · split
    · split <;> simp
    · simp
  · simp
end
theorem FnExactPutCell (R : Int) (A1 A2 A3 A4 : Option Addr) (a1 a2 a3 a4 : Nat) (l : List S101) (m t b : List Int) (i x y : Int) (w : World) (ha : Rd k101 w A1 a1 l A2 a2 m A3 a3 t A4 a4 b) :
    Calls Try.prog 12 #[.agg #[.int .i64 R, .slice A1 l.length a1, .slice A2 m.length a2, .slice A3 t.length a3, .slice A4 b.length a4], .int .i64 i, .int .i64 x, .int .i64 y] w fun e w' => e = .returned (.bool true) ∧ Below w.heap.size w w' := by
  obtain ⟨r, e, hr⟩ := szState_ex R l m t b ha.r1.2.1 ha.r2.2.1 ha.r3.2.1 ha.r4.2.1
  by_cases h : r < 0
  · exact law_early R A1 A2 A3 A4 a1 a2 a3 a4 l m t b i x y w ha r e h
  · have hs := hr (by omega)
    have hc : (l.map conv).length ≤ 1048576 := by simp; omega
    have hq := put_len R (l.map conv) m t b i x y
    have s := s_put R (l.map conv) m t b i x y hc (by omega) (by omega) (by omega)
    have p := i_put R (l.map conv) m t b i x y hc (by omega) (by omega) (by omega)
    generalize putQ R (l.map conv) m t b i x y = q at hq s p
    obtain ⟨R2, l2, m2, t2, b2, ok⟩ := q
    obtain ⟨k, k1, k2, k3, k4, k5, ⟨n3, l3, m3, t3, b3, k6, k7⟩, n4, l4, m4, t4, b4, k8, k9, k10⟩ := st_all R l m t b hs (by simp only at hq; omega) (by simp only at hq; omega) (by simp only at hq; omega) (by simp only at hq; omega) s p
    exact law_walk k R A1 A2 A3 A4 a1 a2 a3 a4 l m t b i x y w ha r e (by omega) R (l.map conv) m t b k1 R2 l2 m2 t2 b2 ok k2 k3 k4 k5 n3 l3 m3 t3 b3 k6 k7 n4 l4 m4 t4 b4 k8 k9 k10
end Go.Proofs.Ytbkkehjhfgocfaa.Pure
