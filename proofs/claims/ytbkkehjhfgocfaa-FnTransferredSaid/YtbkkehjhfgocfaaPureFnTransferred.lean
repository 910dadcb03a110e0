/- Refining and coarsening neither create nor lose anything, for every draw (one of more than 1048576 bytes is passed over by the statement itself); no condition. -/
import Derived.Test.YtbkkehjhfgocfaaCFnTransferred
set_option linter.unusedSimpArgs false
set_option linter.unusedVariables false
namespace Go.Proofs.Ytbkkehjhfgocfaa.Pure
open Go.RowKit Go.Proofs.Ytbkkehjhfgocfaa.PFnTransferred Go.Proofs.YtbkkehjhfgocfaaW.PrintWords Go.Proofs.YtbkkehjhfgocfaaW.PrintLast Go.Proofs.YtbkkehjhfgocfaaW.PrintMore Go.Proofs.Ytbkkehjhfgocfaa.CoreFnTransferred

/-- Masses and tracers that fit one another. -/
def okC : List Int → List Int → Prop
  | [], [] => True
  | x :: xs, y :: ys => (0 ≤ x ∧ 0 ≤ y ∧ y ≤ 1000 * x) ∧ okC xs ys
  | _, _ => False
theorem okC_len : ∀ (m t : List Int), okC m t → m.length = t.length
  | [], [], _ => rfl
  | _ :: xs, _ :: ys, h => by rw [List.length_cons, List.length_cons, okC_len xs ys h.2]
  | [], _ :: _, h => h.elim
  | _ :: _, [], h => h.elim
theorem okC_app (b d : List Int) (hb : okC b d) : ∀ (a c : List Int), okC a c → okC (a ++ b) (c ++ d)
  | [], [], _ => hb
  | _ :: xs, _ :: ys, h => ⟨h.1, okC_app b d hb xs ys h.2⟩
  | [], _ :: _, h => h.elim
  | _ :: _, [], h => h.elim
theorem okC_take : ∀ (m t : List Int) (n : Nat), okC m t → okC (m.take n) (t.take n)
  | [], [], n, _ => by rw [List.take_nil]; trivial
  | _ :: _, _ :: _, 0, _ => trivial
  | _ :: xs, _ :: ys, n + 1, h => ⟨h.1, okC_take xs ys n h.2⟩
  | [], _ :: _, _, h => h.elim
  | _ :: _, [], _, h => h.elim
theorem okC_drop : ∀ (m t : List Int) (n : Nat), okC m t → okC (m.drop n) (t.drop n)
  | [], [], n, _ => by rw [List.drop_nil]; trivial
  | _ :: _, _ :: _, 0, h => h
  | _ :: xs, _ :: ys, n + 1, h => okC_drop xs ys n h.2
  | [], _ :: _, _, h => h.elim
  | _ :: _, [], _, h => h.elim
theorem okC_at : ∀ (m t : List Int) (i : Nat), okC m t → i < m.length → 0 ≤ rd m (i : Int) ∧ 0 ≤ rd t (i : Int) ∧ rd t (i : Int) ≤ 1000 * rd m (i : Int)
  | _ :: _, _ :: _, 0, h, _ => h.1
  | _ :: xs, _ :: ys, i + 1, h, hi => okC_at xs ys i h.2 (by simpa using hi)
  | [], _, _, _, h => by simp at h
  | _ :: _, [], _, h, _ => h.elim
theorem okC_nn : ∀ (m t : List Int), okC m t → 0 ≤ m.sum ∧ 0 ≤ t.sum ∧ t.sum ≤ 1000 * m.sum
  | [], [], _ => by simp
  | x :: xs, y :: ys, h => by
    have h1 := h.1
    have h2 := okC_nn xs ys h.2
    rw [List.sum_cons, List.sum_cons]
    omega
  | [], _ :: _, h => h.elim
  | _ :: _, [], h => h.elim
theorem okC_mem : ∀ (m t : List Int), okC m t → (∀ x ∈ m, 0 ≤ x) ∧ (∀ y ∈ t, 0 ≤ y)
  | [], [], _ => ⟨fun _ h => (by cases h), fun _ h => (by cases h)⟩
  | x :: xs, y :: ys, h => by
    obtain ⟨q1, q2⟩ := okC_mem xs ys h.2
    refine ⟨fun z hz => ?_, fun z hz => ?_⟩
    · rcases List.mem_cons.1 hz with rfl | hz
      · exact h.1.1
      · exact q1 z hz
    · rcases List.mem_cons.1 hz with rfl | hz
      · exact h.1.2.1
      · exact q2 z hz
  | [], _ :: _, h => h.elim
  | _ :: _, [], h => h.elim
theorem okC_cells : ∀ (m t : List Int), okC m t → m.sum ≤ 10000000 → cellsOk m t = true
  | [], [], _, _ => rfl
  | x :: xs, y :: ys, h, hs => by
    rw [List.sum_cons] at hs
    have h1 := h.1
    have h2 := okC_nn xs ys h.2
    rw [cellsOk, if_pos (by omega), if_pos (by rw [w64 (by omega) (by omega)]; omega)]
    exact okC_cells xs ys h.2 (by omega)
  | [], _ :: _, h, _ => h.elim
  | _ :: _, [], h, _ => h.elim
theorem sum_nn : ∀ (l : List Int), (∀ x ∈ l, 0 ≤ x) → 0 ≤ l.sum
  | [], _ => by simp
  | x :: r, h => by
    have h1 := h x (List.mem_cons_self ..)
    have h2 := sum_nn r (fun y hy => h y (List.mem_cons_of_mem _ hy))
    rw [List.sum_cons]
    omega
theorem sumW_eq : ∀ (l : List Int) (a : Int), 0 ≤ a → (∀ x ∈ l, 0 ≤ x) → a + l.sum ≤ 4611686018427387904 → sumW a l = a + l.sum
  | [], a, _, _, _ => by show a = _; simp
  | x :: r, a, h0, hx, h1 => by
    have h2 := hx x (List.mem_cons_self ..)
    have h3 := sum_nn r (fun y hy => hx y (List.mem_cons_of_mem _ hy))
    rw [List.sum_cons] at h1
    rw [sumW, w64 (by omega) (by omega), sumW_eq r (a + x) (by omega) (fun y hy => hx y (List.mem_cons_of_mem _ hy)) (by omega), List.sum_cons]
    omega
theorem sum_at (l : List Int) (i : Nat) (h : i < l.length) : l.sum = (l.take i).sum + (rd l (i : Int) + (l.drop (i + 1)).sum) := by
  rw [rdi l i h, ← List.sum_cons, ← List.drop_eq_getElem_cons h, ← List.sum_append, List.take_append_drop]

theorem st_l1 (l : List Int) (hl : l.length ≤ 1048576) (R : Int) (m : Mid) (bed : List Int) (deep : Int) (hd0 : 1 ≤ deep) (hd1 : deep ≤ 20000) (hml : m.length ≤ 128) : ∀ (d j : Nat) (i h : Int) (ma tr : List Int), j + d = m.length → ma.length = j → okC ma tr → ma.sum ≤ 20000 * (j : Int) → 0 ≤ i →
    ∃ M T i' h', Ev (fun k => spec_l07State.l1 k deep (j : Int) l i h R m R m ma tr bed) (R, m, M, T, bed, i', h') ∧ okC M T ∧ M.length = m.length ∧ M.sum ≤ 20000 * (m.length : Int) := by
  intro d
  induction d with
  | zero =>
    intro j i h ma tr hj hm ho hs hi
    refine ⟨ma, tr, i, h, ?_, ho, by omega, by omega⟩
    refine Ev.step (fun k => rfl) ?_
    simp only [spec_l07State.l1, show ¬ ((j : Int) < (m.length : Int)) by omega, if_false]
    exact Ev.now _
  | succ d ih =>
    intro j i h ma tr hj hm ho hs hi
    have htl := okC_len ma tr ho
    obtain ⟨x, i1, h1, e1, hi1, hx0, hx1, _⟩ := s_below l i h deep (by omega) hi
    obtain ⟨b, i2, h2, e2, hi2⟩ := s_once l i1 h1 6 (by omega) hi1
    have hx1 := hx1 (by omega)
    have step : ∀ (x i2 h2 : Int), 0 ≤ x → x ≤ 19999 → 0 ≤ i2 → ∃ M T i' h', Ev (fun k => (spec_l01Below.f l i2 h2 200).bind fun bt264 => ((spec_l01Below.f l bt264.2.1 bt264.2.2 (wrap64 (x + 1))).bind fun bt267 => (if tr.length < 17592186044416 then (spec_l07State.l1 k deep (wrap64 ((j : Int) + 1)) l bt267.2.1 bt267.2.2 R m R m (ma ++ [x]) (tr ++ [wrap64 ((wrap64 (x * bt264.1)) + bt267.1)]) bed) else (none)))) (R, m, M, T, bed, i', h') ∧ okC M T ∧ M.length = m.length ∧ M.sum ≤ 20000 * (m.length : Int) := by
      intro x i2 h2 hx0 hx1 hi2
      obtain ⟨y, i3, h3, e3, hi3, hy0, hy1, _⟩ := s_below l i2 h2 200 (by omega) hi2
      have hxw : wrap64 (x + 1) = x + 1 := w64 (by omega) (by omega)
      obtain ⟨z, i4, h4, e4, hi4, hz0, hz1, _⟩ := s_below l i3 h3 (x + 1) (by omega) hi3
      have hy1 := hy1 (by omega)
      have hz1 := hz1 (by omega)
      have hxy0 : 0 ≤ x * y := Int.mul_nonneg hx0 hy0
      have hxy1 : x * y ≤ x * 199 := Int.mul_le_mul_of_nonneg_left (by omega) hx0
      have hw1 : wrap64 (x * y) = x * y := w64 (by omega) (by omega)
      have hw2 : wrap64 (x * y + z) = x * y + z := w64 (by omega) (by omega)
      obtain ⟨M, T, i', h', e, q1, q2⟩ := ih (j + 1) i4 h4 (ma ++ [x]) (tr ++ [x * y + z]) (by omega) (by simp [hm]) (okC_app [x] [x * y + z] ⟨by omega, trivial⟩ ma tr ho) (by simp only [List.sum_append, List.sum_cons, List.sum_nil]; omega) hi4
      refine ⟨M, T, i', h', ?_, q1, q2⟩
      simp only [e3, Option.bind_some, hxw, e4, show tr.length < 17592186044416 by omega, if_true, hw1, hw2, wsucc (show j < 4611686018427387904 by omega)]
      exact e
    cases b with
    | false =>
      obtain ⟨M, T, i', h', e, q1, q2⟩ := step x i2 h2 hx0 (by omega) hi2
      refine ⟨M, T, i', h', ?_, q1, q2⟩
      refine Ev.step (fun k => rfl) ?_
      simp only [spec_l07State.l1, show ((j : Int) < (m.length : Int)) by omega, if_true, e1, Option.bind_some, e2, Bool.false_eq_true, if_false, show ma.length < 17592186044416 by omega]
      exact e
    | true =>
      obtain ⟨x2, i3, h3, e3, hi3, hy0, hy1, _⟩ := s_below l i2 h2 3 (by omega) hi2
      have hy1 := hy1 (by omega)
      obtain ⟨M, T, i', h', e, q1, q2⟩ := step x2 i3 h3 hy0 (by omega) hi3
      refine ⟨M, T, i', h', ?_, q1, q2⟩
      refine Ev.step (fun k => rfl) ?_
      simp only [spec_l07State.l1, show ((j : Int) < (m.length : Int)) by omega, if_true, e1, Option.bind_some, e2, e3, show ma.length < 17592186044416 by omega]
      exact e
theorem st_l0 (l : List Int) (hl : l.length ≤ 1048576) (R : Int) (hR : R ≤ 8) (m : Mid) (hml : m.length ≤ 128) : ∀ (d j : Nat) (i h : Int) (bed : List Int), (j : Int) + d = R → bed.length = j → (∀ b ∈ bed, 0 ≤ b ∧ b ≤ 20000) → 0 ≤ i →
    ∃ M T B i' h', Ev (fun k => spec_l07State.l0 k (j : Int) l i h R m R m bed) (R, m, M, T, B, i', h') ∧ okC M T ∧ M.length = m.length ∧ M.sum ≤ 20000 * (m.length : Int) ∧ (B.length : Int) = R ∧ ∀ b ∈ B, 0 ≤ b ∧ b ≤ 20000 := by
  intro d
  induction d with
  | zero =>
    intro j i h bed hj hb hbb hi
    obtain ⟨x, i1, h1, e1, hi1, hx0, hx1, _⟩ := s_below l i h 20000 (by omega) hi
    have hx1 := hx1 (by omega)
    have hw : wrap64 (1 + x) = 1 + x := w64 (by omega) (by omega)
    obtain ⟨M, T, i', h', e, q1, q2, q3⟩ := st_l1 l hl R m bed (1 + x) (by omega) (by omega) hml m.length 0 i1 h1 [] [] (by omega) rfl trivial (by simp) hi1
    refine ⟨M, T, bed, i', h', ?_, q1, q2, q3, by omega, hbb⟩
    refine Ev.step (fun k => rfl) ?_
    simp only [spec_l07State.l0, show ¬ ((j : Int) < R) by omega, if_false, e1, Option.bind_some, hw]
    exact e
  | succ d ih =>
    intro j i h bed hj hb hbb hi
    obtain ⟨x, i1, h1, e1, hi1, hx0, hx1, _⟩ := s_below l i h 4 (by omega) hi
    obtain ⟨y, i2, h2, e2, hi2, hy0, hy1, _⟩ := s_below l i1 h1 5000 (by omega) hi1
    have hx1 := hx1 (by omega)
    have hy1 := hy1 (by omega)
    have hxy0 : 0 ≤ x * y := Int.mul_nonneg hx0 hy0
    have hxy1 : x * y ≤ 3 * y := Int.mul_le_mul_of_nonneg_right (by omega) hy0
    have hw : wrap64 (x * y) = x * y := w64 (by omega) (by omega)
    obtain ⟨M, T, B, i', h', e, q⟩ := ih (j + 1) i2 h2 (bed ++ [x * y]) (by omega) (by simp [hb]) (fun b hbm => by
      rcases List.mem_append.1 hbm with hbm | hbm
      · exact hbb b hbm
      · rw [List.mem_singleton.1 hbm]; omega) hi2
    refine ⟨M, T, B, i', h', ?_, q⟩
    refine Ev.step (fun k => rfl) ?_
    simp only [spec_l07State.l0, show ((j : Int) < R) by omega, if_true, e1, Option.bind_some, e2, show bed.length < 17592186044416 by omega, hw, wsucc (show j < 4611686018427387904 by omega)]
    exact e
theorem drawState (l : List Int) (hl : l.length ≤ 1048576) : ∃ R m M T B, Ev (fun k => spec_DrawState.f k l) (R, m, M, T, B) ∧ meshOkB R m = true ∧ firstUn m = -1 ∧ okC M T ∧ M.length = m.length ∧ M.sum ≤ 10000000 ∧ (B.length : Int) = R ∧ ∀ b ∈ B, 0 ≤ b ∧ b ≤ 20000 := by
  obtain ⟨h, e⟩ := s_new l hl
  obtain ⟨R, m, t1, t2, e1, ht1, q1, q2, q3, q4⟩ := s_l04Mesh l hl 0 h (by omega)
  have hb : balP R m = balN 129 m := by rw [balP, if_pos q1]
  have hok := balN_ok 129 m q1
  have hlen := meshOk_len hok
  obtain ⟨M, T, B, i', h', e2, r1, r2, r5, r3, r4⟩ := st_l0 l hl R (by omega) (balP R m) (by rw [hb]; omega) R.toNat 0 t1 t2 [] (by omega) rfl (by simp) ht1
  refine ⟨R, balP R m, M, T, B, ?_, by rw [hb]; exact hok, by rw [hb]; exact balN_bal 129 m q1 (by omega), r1, r2, by rw [hb] at r5; omega, r3, r4⟩
  unfold spec_DrawState.f spec_l07State.f spec_l05Mesh.f
  refine Ev.bind e ?_
  refine Ev.bind (a := (R, balP R m, M, T, B, i', h')) ?_ (Ev.now _)
  refine Ev.bind (a := (R, balP R m, t1, t2)) ?_ e2
  simp only [e1, Option.bind_some]
  refine Ev.bind (s_balance R m (by omega)) ?_
  exact Ev.now _

section
variable {R : Int} {m : Mid} {B : List Int} (hok : meshOkB R m = true) (hbal : firstUn m = -1) (hBl : (B.length : Int) = R) (hBb : ∀ b ∈ B, 0 ≤ b ∧ b ≤ 20000)
include hok hbal hBl hBb
theorem st_good {M T : List Int} (ho : okC M T) (hM : M.length = m.length) (hs : M.sum ≤ 10000000) : stOkB R m M T B = true := by
  have hlen := meshOk_len hok
  have htl := okC_len M T ho
  have hb : balB R m = true := by unfold balB; rw [if_pos hok, hbal]; decide
  have hbeds : bedsOk B = true := by
    unfold bedsOk
    rw [List.all_eq_true]
    intro b hb
    have := hBb b hb
    exact decide_eq_true (by omega)
  unfold stOkB stTail
  rw [hb, if_pos rfl, if_pos ⟨hM, by omega, hBl⟩, if_pos hbeds, if_pos (okC_cells M T ho hs), sumW_eq M 0 (by omega) (okC_mem M T ho).1 (by omega)]
  exact decide_eq_true (by omega)
theorem totM {M T : List Int} (ho : okC M T) (hM : M.length = m.length) (hs : M.sum ≤ 10000000) : Ev (fun k => spec_TotalMass.f k R m M T B) M.sum := by
  have hlen := meshOk_len hok
  unfold spec_TotalMass.f
  refine Ev.bind (s_st R m M T B (by omega) (by omega) (by omega)) ?_
  simp only [st_good hok hbal hBl hBb ho hM hs, if_true]
  refine Ev.bind (s_sum M (by omega)) ?_
  rw [sumW_eq M 0 (by omega) (okC_mem M T ho).1 (by omega), Int.zero_add]
  exact Ev.now _
theorem totT {M T : List Int} (ho : okC M T) (hM : M.length = m.length) (hs : M.sum ≤ 10000000) : Ev (fun k => spec_TotalTracer.f k R m M T B) T.sum := by
  have hlen := meshOk_len hok
  have htl := okC_len M T ho
  have hn := okC_nn M T ho
  unfold spec_TotalTracer.f
  refine Ev.bind (s_st R m M T B (by omega) (by omega) (by omega)) ?_
  simp only [st_good hok hbal hBl hBb ho hM hs, if_true]
  refine Ev.bind (s_sum T (by omega)) ?_
  rw [sumW_eq T 0 (by omega) (okC_mem M T ho).2 (by omega), Int.zero_add]
  exact Ev.now _
end

/-- A state with these totals, which fits its mesh. -/
structure Sv (R M T : Int) (l : Mid) (m t : List Int) : Prop where
  ok : meshOkB R l = true
  len : m.length = l.length
  oc : okC m t
  sm : m.sum = M
  st : t.sum = T
theorem i_even (x : Int) (h0 : 0 ≤ x) (h1 : x ≤ 10000000) : impl_SplitEven.f x = some (x - x / 2, x / 2) := by
  unfold impl_SplitEven.f
  rw [if_neg (by omega), Int.tdiv_eq_ediv_of_nonneg h0, w64 (n := x / 2) (by omega) (by omega), w64 (by omega) (by omega)]
theorem i_share (x y p h : Int) (h0 : 0 ≤ x) (h1 : x ≤ 10000000) (hy0 : 0 ≤ y) (hy1 : y ≤ 1000 * x) (hp0 : 0 ≤ p) (hh0 : 0 ≤ h) (hph : p + h = x) : ∃ q, impl_ShareOut.f y p x = some q ∧ 0 ≤ q ∧ q ≤ y ∧ q ≤ 1000 * p ∧ y - q ≤ 1000 * h := by
  unfold impl_ShareOut.f
  simp only [i_in, Option.bind_some, decide_eq_true_eq]
  by_cases hx : 1 ≤ x
  · have e1 : y * p ≤ y * x := Int.mul_le_mul_of_nonneg_left (by omega) hy0
    have e2 : y * x ≤ y * 10000000 := Int.mul_le_mul_of_nonneg_left h1 hy0
    have e3 : 0 ≤ y * p := Int.mul_nonneg hy0 hp0
    have e4 : y * p ≤ 1000 * x * p := Int.mul_le_mul_of_nonneg_right hy1 hp0
    have e5 : y * h ≤ 1000 * x * h := Int.mul_le_mul_of_nonneg_right hy1 hh0
    have e6 : y * x = y * p + y * h := by rw [← Int.mul_add, hph]
    have e7 : 1000 * p * x = 1000 * x * p := by rw [Int.mul_assoc, Int.mul_comm p x, ← Int.mul_assoc]
    have e8 : 1000 * h * x = 1000 * x * h := by rw [Int.mul_assoc, Int.mul_comm h x, ← Int.mul_assoc]
    have q0 : 0 ≤ y * p / x := Int.ediv_nonneg e3 h0
    have q1 : y * p / x ≤ y := Int.ediv_le_of_le_mul (by omega) e1
    have q2 : y * p / x ≤ 1000 * p := Int.ediv_le_of_le_mul (by omega) (by omega)
    have q3 : y - 1000 * h ≤ y * p / x := (Int.le_ediv_iff_mul_le (by omega)).2 (by rw [Int.sub_mul]; omega)
    rw [if_pos ⟨hx, h1⟩, if_pos ⟨hp0, by omega⟩, w64 (n := 1000 * x) (by omega) (by omega), if_pos ⟨hy0, hy1⟩, if_neg (by omega), w64 (n := y * p) (by omega) (by omega), Int.tdiv_eq_ediv_of_nonneg e3, w64 (by omega) (by omega)]
    exact ⟨_, rfl, q0, q1, q2, by omega⟩
  · rw [if_neg (by omega)]
    exact ⟨0, rfl, by omega, by omega, by omega, by omega⟩
theorem Sv.bd {R M T : Int} {l : Mid} {m t : List Int} (h : Sv R M T l m t) (hM : M ≤ 10000000) (n : Nat) (hn : n < l.length) : 0 ≤ rd m (n : Int) ∧ 0 ≤ rd t (n : Int) ∧ rd t (n : Int) ≤ 1000 * rd m (n : Int) ∧ rd m (n : Int) ≤ 10000000 := by
  have h1 := okC_at m t n h.oc (by have := h.len; omega)
  have h2 := sum_at m n (by have := h.len; omega)
  have h3 := okC_nn _ _ (okC_take m t n h.oc)
  have h4 := okC_nn _ _ (okC_drop m t (n + 1) h.oc)
  have h5 := h.sm
  omega
theorem Sv.split {R M T : Int} {l : Mid} {m t : List Int} (h : Sv R M T l m t) (hM : M ≤ 10000000) (n : Nat) (hn : n < l.length) (h4 : l[n].f1 < 4) : ∃ p1 p2 p3, impl_SplitEven.f (rd m (n : Int)) = some (p1, p2) ∧ impl_ShareOut.f (rd t (n : Int)) p1 (rd m (n : Int)) = some p3 ∧ impl_Mesh_refine.f l (n : Int) = some (splitP l n) ∧
    Sv R M T (splitP l n) (m.take n ++ [p1, p2] ++ m.drop (n + 1)) (t.take n ++ [p3, wrap64 (rd t (n : Int) - p3)] ++ t.drop (n + 1)) := by
  have hlen := meshOk_len h.ok
  have hml := h.len
  have htl := okC_len m t h.oc
  obtain ⟨x0, y0, y1, x1⟩ := h.bd hM n hn
  have sm := sum_at m n (by omega)
  have st := sum_at t n (by omega)
  have hsm := h.sm
  have hst := h.st
  generalize hx : rd m (n : Int) = x at x0 y1 x1 sm
  generalize hy : rd t (n : Int) = y at y0 y1 st
  obtain ⟨q, e, q0, q1, q2, q3⟩ := i_share x y (x - x / 2) (x / 2) x0 x1 y0 y1 (by omega) (by omega) (by omega)
  have hl2 := splitP_length l n hn
  refine ⟨x - x / 2, x / 2, q, i_even x x0 x1, e, i_refine l n hn (meshOk_all h.ok _ (List.getElem_mem hn)) (by omega), split_ok h.ok n hn (by omega), ?_, ?_, ?_, ?_⟩
  · simp only [List.length_append, List.length_take, List.length_drop, List.length_cons, List.length_nil]; omega
  · rw [w64 (by omega) (by omega)]
    exact okC_app _ _ (okC_drop m t (n + 1) h.oc) _ _ (okC_app [x - x / 2, x / 2] [q, y - q] ⟨⟨by omega, by omega, by omega⟩, ⟨by omega, by omega, by omega⟩, trivial⟩ _ _ (okC_take m t n h.oc))
  · simp only [List.sum_append, List.sum_cons, List.sum_nil]; omega
  · rw [w64 (by omega) (by omega)]
    simp only [List.sum_append, List.sum_cons, List.sum_nil]; omega
theorem Sv.merge {R M T : Int} {l : Mid} {m t : List Int} (h : Sv R M T l m t) (hM : M ≤ 10000000) (n : Nat) (hn : n + 2 ≤ l.length) (hs : siblingB l[n].f0 l[n].f1 l[n].f2 l[n + 1].f0 l[n + 1].f1 l[n + 1].f2 = true) :
    Sv R M T (mergeP l n) (m.take n ++ [wrap64 (rd m (n : Int) + rd m ((n + 1 : Nat) : Int))] ++ m.drop (n + 2)) (t.take n ++ [wrap64 (rd t (n : Int) + rd t ((n + 1 : Nat) : Int))] ++ t.drop (n + 2)) := by
  have hlen := meshOk_len h.ok
  have hml := h.len
  have htl := okC_len m t h.oc
  obtain ⟨x0, y0, y1, x1⟩ := h.bd hM n (by omega)
  obtain ⟨u0, v0, v1, u1⟩ := h.bd hM (n + 1) (by omega)
  have sm := sum_at m n (by omega)
  have st := sum_at t n (by omega)
  have sm2 : (m.drop (n + 1)).sum = rd m ((n + 1 : Nat) : Int) + (m.drop (n + 2)).sum := by rw [rdi m (n + 1) (by omega), ← List.sum_cons, ← List.drop_eq_getElem_cons (show n + 1 < m.length by omega)]
  have st2 : (t.drop (n + 1)).sum = rd t ((n + 1 : Nat) : Int) + (t.drop (n + 2)).sum := by rw [rdi t (n + 1) (by omega), ← List.sum_cons, ← List.drop_eq_getElem_cons (show n + 1 < t.length by omega)]
  have hsm := h.sm
  have hst := h.st
  have hl2 := mergeP_length l n hn
  generalize rd m (n : Int) = x at x0 y1 x1 sm ⊢
  generalize rd t (n : Int) = y at y0 y1 st ⊢
  generalize rd m ((n + 1 : Nat) : Int) = u at u0 v1 u1 sm2 ⊢
  generalize rd t ((n + 1 : Nat) : Int) = v at v0 v1 st2 ⊢
  rw [w64 (n := x + u) (by omega) (by omega), w64 (n := y + v) (by omega) (by omega)]
  refine ⟨merge_ok h.ok hn hs, ?_, ?_, ?_, ?_⟩
  · simp only [List.length_append, List.length_take, List.length_drop, List.length_cons, List.length_nil]; omega
  · exact okC_app _ _ (okC_drop m t (n + 2) h.oc) _ _ (okC_app [x + u] [y + v] ⟨⟨by omega, by omega, by omega⟩, trivial⟩ _ _ (okC_take m t n h.oc))
  · simp only [List.sum_append, List.sum_cons, List.sum_nil]; omega
  · simp only [List.sum_append, List.sum_cons, List.sum_nil]; omega
theorem ev_all (Q : Nat → Nat → Prop) : ∀ n, (∀ j, j < n → ∃ K, ∀ k, K ≤ k → Q j k) → ∃ K, ∀ k, K ≤ k → ∀ j, j < n → Q j k
  | 0, _ => ⟨0, fun _ _ j h => absurd h (by omega)⟩
  | n + 1, h => by
    obtain ⟨K1, e1⟩ := ev_all Q n (fun j hj => h j (by omega))
    obtain ⟨K2, e2⟩ := h n (by omega)
    refine ⟨K1 + K2, fun k hk j hj => ?_⟩
    by_cases hn : j = n
    · rw [hn]; exact e2 k (by omega)
    · exact e1 k (by omega) j (by omega)
theorem sl_in (b : List Int) (hb : b.length ≤ 1048576) : slices_Clone_int_int.f b = some b := by unfold slices_Clone_int_int.f; rw [if_pos (by omega)]
theorem icp (R : Int) (l : Mid) (m t b : List Int) (hl : l.length ≤ 1048576) (hm : m.length ≤ 1048576) (ht : t.length ≤ 1048576) (hb : b.length ≤ 1048576) : impl_copyState.f R l m t b = some (R, l, m, t, b) := by
  unfold impl_copyState.f
  simp only [i_copy R l (by omega), Option.bind_some, sl_in m hm, sl_in t ht, sl_in b hb]

section
variable {R M T : Int} {B : List Int} (hBl : (B.length : Int) = R) (hBb : ∀ b ∈ B, 0 ≤ b ∧ b ≤ 20000) (hM : M ≤ 10000000)
include hBl hBb hM
theorem Sv.evs {l : Mid} {m t : List Int} (h : Sv R M T l m t) (hb : firstUn l = -1) : stOkB R l m t B = true ∧ Ev (fun k => spec_StateOk.f k R l m t B) true ∧ Ev (fun k => spec_TotalMass.f k R l m t B) M ∧ Ev (fun k => spec_TotalTracer.f k R l m t B) T := by
  have hlen := meshOk_len h.ok
  have hml := h.len
  have hs : m.sum ≤ 10000000 := by rw [h.sm]; exact hM
  have h1 := st_good h.ok hb hBl hBb h.oc hml hs
  have h2 := s_st R l m t B (by omega) (by omega) (by omega)
  rw [h1] at h2
  have h3 := totM h.ok hb hBl hBb h.oc hml hs
  have h4 := totT h.ok hb hBl hBb h.oc hml hs
  rw [h.sm] at h3
  rw [h.st] at h4
  exact ⟨h1, h2, h3, h4⟩
theorem Sv.good {l : Mid} {m t : List Int} (h : Sv R M T l m t) (hb : firstUn l = -1) : ∃ K, ∀ k, K ≤ k → PFnTransferred.Good k R B M T l m t := by
  have hlen := meshOk_len h.ok
  have hml := h.len
  have htl := okC_len m t h.oc
  obtain ⟨hst, ⟨K1, e1⟩, ⟨K2, e2⟩, ⟨K3, e3⟩⟩ := h.evs hBl hBb hM hb
  have c8 := icp R l m t B (by omega) (by omega) (by omega) (by omega)
  obtain ⟨K4, e4⟩ := ev_all (fun j k => ∃ (is : Bool) (l3 : List S36) (m3 t3 : List Int), spec_MayCoarsen.f k R l (j : Int) = some is ∧ spec_StateOk.f k R l3 m3 t3 B = some true ∧ spec_TotalMass.f k R l3 m3 t3 B = some M ∧ spec_TotalTracer.f k R l3 m3 t3 B = some T ∧
    (∀ (w : World) (A1 A2 A3 A4 : Option Addr) (c1 c2 c3 c4 : Nat), Rd k36 w A1 c1 l A2 c2 m A3 c3 t A4 c4 B → Calls Try.prog 20 #[.agg #[.int .i64 R, .slice A1 l.length c1, .slice A2 m.length c2, .slice A3 t.length c3, .slice A4 B.length c4], .int .i64 (j : Int)] w (Made w R l3 m3 t3 B (fun v => .returned (.tuple #[v, .bool is]))))) m.length (fun j hj => by
    obtain ⟨K5, e5⟩ := s_mayCo R l (j : Int) (by omega)
    obtain ⟨K6, e6⟩ := i_mayCo R l (j : Int) (by omega)
    obtain ⟨K7, e7⟩ := i_st R l m t B (by omega) (by omega) (by omega)
    rw [hst] at e7
    by_cases hr : mayCoB R l (j : Int) = true
    · rw [hr] at e5 e6
      obtain ⟨n, hjn, hn, _, hco⟩ := mayCo_at hr
      obtain rfl : j = n := by omega
      obtain ⟨hs, _, _⟩ := co_parts hn hco
      have h2 := h.merge hM j hn hs
      obtain ⟨_, ⟨K8, e8⟩, ⟨K9, e9⟩, ⟨K10, e10⟩⟩ := h2.evs hBl hBb hM (un_bal.2 (merge_bal (un_bal.1 hb) hn hco))
      exact ⟨K5 + K8 + K9 + K10, fun k hk => ⟨true, _, _, _, e5 k (by omega), e8 k (by omega), e9 k (by omega), e10 k (by omega), fun w A1 A2 A3 A4 c1 c2 c3 c4 ha => impl_CoarsenState.coarsen_ (K6 + K7) R A1 c1 l A2 c2 m A3 c3 t A4 c4 B j w ha (e7 _ (by omega)) (e6 _ (by omega)) ⟨by omega, by omega⟩ (mergeP l j) (i_coarsen l j hn (by omega)) ⟨by omega, by omega, by omega⟩ _ _ rfl rfl c8⟩⟩
    · have hr : mayCoB R l (j : Int) = false := by simpa using hr
      rw [hr] at e5 e6
      exact ⟨K1 + K2 + K3 + K5, fun k hk => ⟨false, l, m, t, e5 k (by omega), e1 k (by omega), e2 k (by omega), e3 k (by omega), fun w A1 A2 A3 A4 c1 c2 c3 c4 ha => impl_CoarsenState.fail_b (K6 + K7) R A1 c1 l A2 c2 m A3 c3 t A4 c4 B (j : Int) w ha (e7 _ (by omega)) (e6 _ (by omega)) c8⟩⟩)
  exact ⟨K1 + K2 + K3 + K4, fun k hk => ⟨e1 k (by omega), e2 k (by omega), e3 k (by omega), by omega, e4 k (by omega)⟩⟩
end
/-- What the rounds of the balancing go through, and what the law asks of the end. -/
inductive Ch (k : Nat) (R : Int) (B : List Int) (M T : Int) : Nat → Mid → List Int → List Int → Prop
  | stop (n : Nat) (l : Mid) (m t : List Int) : impl_Mesh_toRefine.f k R l = some (-1) → PFnTransferred.Good k R B M T l m t → Ch k R B M T n l m t
  | go (n : Nat) (l : Mid) (m t : List Int) (i : Nat) (p1 p2 p3 : Int) (l' : Mid) : impl_Mesh_toRefine.f k R l = some (i : Int) → i < m.length → i < t.length → impl_SplitEven.f (rd m (i : Int)) = some (p1, p2) → impl_ShareOut.f (rd t (i : Int)) p1 (rd m (i : Int)) = some p3 → impl_Mesh_refine.f l (i : Int) = some l' → (m.length + 2) * 8 ≤ 140737488355328 ∧ (t.length + 2) * 8 ≤ 140737488355328 → Ch k R B M T n l' (m.take i ++ [p1, p2] ++ m.drop (i + 1)) (t.take i ++ [p3, wrap64 (rd t (i : Int) - p3)] ++ t.drop (i + 1)) → Ch k R B M T (n + 1) l m t
theorem chain {R M T : Int} {B : List Int} (hBl : (B.length : Int) = R) (hBb : ∀ b ∈ B, 0 ≤ b ∧ b ≤ 20000) (hM : M ≤ 10000000) : ∀ (n : Nat) (l : Mid) (m t : List Int), Sv R M T l m t → R * 16 < (l.length : Int) + n → ∃ K, ∀ k, K ≤ k → Ch k R B M T n l m t := by
  intro n
  induction n with
  | zero => intro l m t h hn; have := meshOk_len h.ok; omega
  | succ n ih =>
    intro l m t h hn
    have hlen := meshOk_len h.ok
    have hml := h.len
    have htl := okC_len m t h.oc
    obtain ⟨K1, e1⟩ := i_toRef h.ok (by omega)
    rcases toRef_spec h.ok with ⟨h1, h2⟩ | ⟨_, _, j, hj, h2, h3, _⟩
    · obtain ⟨K2, e2⟩ := h.good hBl hBb hM h1
      rw [h2] at e1
      exact ⟨K1 + K2, fun k hk => .stop _ l m t (e1 k (by omega)) (e2 k (by omega))⟩
    · rw [h2] at e1
      obtain ⟨p1, p2, p3, q1, q2, q3, hv⟩ := h.split hM j hj h3
      have hl2 := splitP_length l j hj
      obtain ⟨K2, e2⟩ := ih _ _ _ hv (by omega)
      exact ⟨K1 + K2, fun k hk => .go n l m t j p1 p2 p3 _ (e1 k (by omega)) (by omega) (by omega) q1 q2 q3 ⟨by omega, by omega⟩ (e2 k (by omega))⟩

/-- The law, for every row of bytes. -/
theorem law (l : List Int) (A0 : Option Addr) (c0 : Nat) (w : World) (hr : Kd.C (Kd.int .u8) w A0 l.length l) (hc : l.length ≤ c0) :
    Calls Try.prog 3 #[.slice A0 l.length c0] w fun e w' => e = .returned (.bool true) ∧ Below w.heap.size w w' := by
  by_cases h : (l.length : Int) > 1048576
  · exact law_big A0 c0 l w hr hc (by rw [big_eq, decide_eq_true h])
  · have hbig : laws_big.f l = some false := by rw [big_eq, decide_eq_false h]
    obtain ⟨R, m, M, T, B, ⟨K1, e1⟩, hok, hbal, ho, hM, hMs, hBl, hBb⟩ := drawState l (by omega)
    obtain ⟨ps, ⟨K2, e2⟩, hpl, hps⟩ := s_places l (by omega)
    have hlen := meshOk_len hok
    have htl := okC_len M T ho
    have hpos : 0 < m.length := List.length_pos_iff.2 (meshOk_ne hok)
    have hv : Sv R M.sum T.sum m M T := ⟨hok, hM, ho, rfl, rfl⟩
    have hp0 : 0 ≤ rd ps 0 := by
      have := hps (ps[0]'(by omega)) (List.getElem_mem _)
      rw [show rd ps 0 = ps[0]'(by omega) from rdi ps 0 (by omega)]
      exact this.1
    obtain ⟨n, hn⟩ : ∃ n : Nat, Int.tmod (rd ps 0) (M.length : Int) = n := by
      refine Int.eq_ofNat_of_zero_le ?_
      rw [Int.tmod_eq_emod_of_nonneg hp0]
      exact Int.emod_nonneg _ (by omega)
    have hnl : n < m.length := by
      have := Int.emod_lt_of_pos (rd ps 0) (show (0 : Int) < M.length by omega)
      rw [← Int.tmod_eq_emod_of_nonneg hp0, hn] at this
      omega
    obtain ⟨hst, _, ⟨K3, e3⟩, ⟨K4, e4⟩⟩ := hv.evs hBl hBb hMs hbal
    have c8 := icp R m M T B (by omega) (by omega) (by omega) (by omega)
    obtain ⟨K5, e5⟩ := i_st R m M T B (by omega) (by omega) (by omega)
    rw [hst] at e5
    obtain ⟨K6, e6⟩ := i_mayRef R m (n : Int) (by omega)
    have hmr : mayRefB R m (n : Int) = decide (m[n].f1 < 4) := by
      unfold mayRefB
      rw [if_pos hok, if_pos ⟨by omega, by omega⟩, rdc m n hnl]
    rw [hmr] at e6
    by_cases h4 : m[n].f1 < 4
    · rw [decide_eq_true h4] at e6
      obtain ⟨p1, p2, p3, q1, q2, q3, hv2⟩ := hv.split hMs n hnl h4
      obtain ⟨K7, e7⟩ := chain hBl hBb hMs 129 _ _ _ hv2 (by omega)
      have e7 := e7 (K1 + K2 + K3 + K4 + K5 + K6 + K7) (by omega)
      refine law_walk (K1 + K2 + K3 + K4 + K5 + K6 + K7) A0 c0 l w hr hc hbig R m M T B ps (e1 _ (by omega)) (e2 _ (by omega)) (by omega) (by omega) n hn hnl M.sum T.sum (e3 _ (by omega)) (e4 _ (by omega)) true (by rw [rdc m n hnl, decide_eq_true h4]) (PFnTransferred.Good (K1 + K2 + K3 + K4 + K5 + K6 + K7) R B M.sum T.sum) (fun w A1 A2 A3 A4 c1 c2 c3 c4 ha => ?_) (fun _ _ _ h => h)
      refine (impl_BalanceRefine.refine_ (K1 + K2 + K3 + K4 + K5 + K6 + K7) R A1 c1 m A2 c2 M A3 c3 T A4 c4 B n w ha (e5 _ (by omega)) (e6 _ (by omega)) ⟨by omega, by omega⟩ p1 p2 p3 q1 q2 (splitP m n) q3 ⟨by omega, by omega, by omega⟩ _ _ rfl rfl 129 (Ch (K1 + K2 + K3 + K4 + K5 + K6 + K7) R B M.sum T.sum) (fun _ _ _ _ hi => ?_) (fun _ _ _ _ x hi hx hx0 => ?_) e7 c8).mono (fun e w' hq => ?_)
      · cases hi with
        | stop _ _ _ _ g1 g2 => exact ⟨_, g1⟩
        | go _ _ _ _ i p1 p2 p3 l' g1 g2 g3 g4 g5 g6 g7 g8 => exact ⟨_, g1⟩
      · cases hi with
        | stop _ _ _ _ g1 g2 =>
          rw [g1] at hx
          injection hx with hx
          omega
        | go n1 _ _ _ i p1 p2 p3 l' g1 g2 g3 g4 g5 g6 g7 g8 =>
          rw [g1] at hx
          injection hx with hx
          exact ⟨n1, i, p1, p2, p3, l', rfl, hx.symm, g2, g3, g4, g5, g6, g7, g8⟩
      · obtain ⟨l2, m2, t2, n2, x2, hi, hx, hx0, hq⟩ := hq
        refine ⟨l2, m2, t2, ?_, hq⟩
        cases hi with
        | stop _ _ _ _ g1 g2 => exact g2
        | go n1 _ _ _ i p1 p2 p3 l' g1 g2 g3 g4 g5 g6 g7 g8 =>
          rw [g1] at hx
          injection hx with hx
          omega
    · rw [decide_eq_false h4] at e6
      obtain ⟨K7, e7⟩ := hv.good hBl hBb hMs hbal
      have e7 := e7 (K1 + K2 + K3 + K4 + K7) (by omega)
      exact law_walk (K1 + K2 + K3 + K4 + K7) A0 c0 l w hr hc hbig R m M T B ps (e1 _ (by omega)) (e2 _ (by omega)) (by omega) (by omega) n hn hnl M.sum T.sum (e3 _ (by omega)) (e4 _ (by omega)) false (by rw [rdc m n hnl, decide_eq_false h4]) (fun l2 m2 t2 => l2 = m ∧ m2 = M ∧ t2 = T) (fun w A1 A2 A3 A4 c1 c2 c3 c4 ha => (impl_BalanceRefine.fail_b (K5 + K6) R A1 c1 m A2 c2 M A3 c3 T A4 c4 B (n : Int) w ha (e5 _ (by omega)) (e6 _ (by omega)) c8).mono (fun e w' hq => ⟨m, M, T, ⟨rfl, rfl, rfl⟩, hq⟩)) (fun l2 m2 t2 hq => by obtain ⟨rfl, rfl, rfl⟩ := hq; exact e7)

theorem FnTransferred (a0 : Option Addr) (len0 cap0 : Nat) (z0 : List Int) (w : World) (w0 : (a0 = none ∧ len0 = 0 ∧ cap0 = 0 ∧ z0 = []) ∨ ∃ x, a0 = some x ∧ len0 ≤ cap0 ∧ cap0 ≤ maxLen ∧ z0.length = cap0 ∧ (∀ i, i < z0.length → w.cell? (x.add i) = some (.int .u8 (z0.getD i 0))) ∧ ∀ n ∈ z0, (Lit.int .u8 n).wf = true) :
    Calls Try.prog 3 #[.slice a0 len0 cap0] w fun e w' => e = .returned (.bool true) ∧ Below w.heap.size w w' := by
  obtain ⟨l0, rfl, hr0, hm0, hw0, hc0⟩ := ReadsInt.ofRowC w0
  exact law l0 _ _ w (Kd.C_of_reads (d := (0 : Int)) (h1 := fun _ => rfl) hr0) hc0

end Go.Proofs.Ytbkkehjhfgocfaa.Pure
