/- Totals change by what is put into a leaf, for every draw (one of more than 1048576 bytes is passed over by the statement itself); no condition. -/
import Derived.Test.YtbkkehjhfgocfaaCFnPut
set_option linter.unusedSimpArgs false
set_option linter.unusedVariables false
namespace Go.Proofs.Ytbkkehjhfgocfaa.Pure
open Go.RowKit Go.Proofs.Ytbkkehjhfgocfaa.PFnPut Go.Proofs.YtbkkehjhfgocfaaW.PrintWords Go.Proofs.YtbkkehjhfgocfaaW.PrintLast Go.Proofs.YtbkkehjhfgocfaaW.PrintMore Go.Proofs.Ytbkkehjhfgocfaa.CoreFnPut

/-- Masses and tracers that fit one another. -/
def okC : List Int → List Int → Prop
  | [], [] => True
  | x :: xs, y :: ys => (0 ≤ x ∧ x ≤ 20000 ∧ 0 ≤ y ∧ y ≤ 1000 * x) ∧ okC xs ys
  | _, _ => False
theorem okC_len : ∀ (m t : List Int), okC m t → m.length = t.length
  | [], [], _ => rfl
  | _ :: xs, _ :: ys, h => by rw [List.length_cons, List.length_cons, okC_len xs ys h.2]
  | [], _ :: _, h => h.elim
  | _ :: _, [], h => h.elim
theorem okC_snoc (x y : Int) (hx : 0 ≤ x ∧ x ≤ 20000 ∧ 0 ≤ y ∧ y ≤ 1000 * x) : ∀ (m t : List Int), okC m t → okC (m ++ [x]) (t ++ [y])
  | [], [], _ => ⟨hx, trivial⟩
  | _ :: xs, _ :: ys, h => ⟨h.1, okC_snoc x y hx xs ys h.2⟩
  | [], _ :: _, h => h.elim
  | _ :: _, [], h => h.elim
theorem okC_set (x y : Int) (hx : 0 ≤ x ∧ x ≤ 20000 ∧ 0 ≤ y ∧ y ≤ 1000 * x) : ∀ (m t : List Int) (i : Nat), okC m t → okC (m.set i x) (t.set i y)
  | [], [], _, _ => trivial
  | _ :: xs, _ :: ys, 0, h => ⟨hx, h.2⟩
  | _ :: xs, _ :: ys, i + 1, h => ⟨h.1, okC_set x y hx xs ys i h.2⟩
  | [], _ :: _, _, h => h.elim
  | _ :: _, [], _, h => h.elim
theorem okC_cells : ∀ (m t : List Int), okC m t → cellsOk m t = true
  | [], [], _ => rfl
  | x :: xs, y :: ys, h => by
    obtain ⟨⟨h1, h2, h3, h4⟩, h5⟩ := h
    rw [cellsOk, if_pos (by omega), if_pos (by rw [w64 (by omega) (by omega)]; omega)]
    exact okC_cells xs ys h5
  | [], _ :: _, h => h.elim
  | _ :: _, [], h => h.elim
theorem cells_bad (x y : Int) (h0 : 0 ≤ x) (h1 : x < 10000) (hy : y > 1000 * x) : ∀ (m t : List Int) (i : Nat), i < m.length → i < t.length → cellsOk (m.set i x) (t.set i y) = false
  | _ :: xs, _ :: ys, 0, _, _ => by
    rw [List.set_cons_zero, List.set_cons_zero, cellsOk, if_pos (by omega), if_neg (by rw [w64 (by omega) (by omega)]; omega)]
  | a :: xs, b :: ys, i + 1, hm, ht => by
    rw [List.set_cons_succ, List.set_cons_succ, cellsOk]
    split
    · split
      · exact cells_bad x y h0 h1 hy xs ys i (by simpa using hm) (by simpa using ht)
      · rfl
    · rfl
  | [], _, _, h, _ => by simp at h
  | _ :: _, [], _, _, h => by simp at h
theorem okC_mass : ∀ (m t : List Int), okC m t → (∀ x ∈ m, 0 ≤ x ∧ x ≤ 20000000) ∧ (∀ y ∈ t, 0 ≤ y ∧ y ≤ 20000000) ∧ m.sum ≤ 20000 * (m.length : Int)
  | [], [], _ => ⟨fun _ h => (by cases h), fun _ h => (by cases h), by simp⟩
  | x :: xs, y :: ys, h => by
    obtain ⟨⟨h1, h2, h3, h4⟩, h5⟩ := h
    obtain ⟨q1, q2, q3⟩ := okC_mass xs ys h5
    refine ⟨fun z hz => ?_, fun z hz => ?_, ?_⟩
    · rcases List.mem_cons.1 hz with rfl | hz
      · omega
      · exact q1 z hz
    · rcases List.mem_cons.1 hz with rfl | hz
      · omega
      · exact q2 z hz
    · rw [List.sum_cons, List.length_cons]; omega
  | [], _ :: _, h => h.elim
  | _ :: _, [], h => h.elim
theorem sumW_eq : ∀ (l : List Int) (a : Int), 0 ≤ a → a + 20000000 * (l.length : Int) ≤ 4611686018427387904 → (∀ x ∈ l, 0 ≤ x ∧ x ≤ 20000000) → sumW a l = a + l.sum
  | [], a, _, _, _ => by show a = _; simp
  | x :: r, a, h0, h1, hx => by
    have h2 := hx x (List.mem_cons_self ..)
    simp only [List.length_cons] at h1
    rw [sumW, w64 (by omega) (by omega), sumW_eq r (a + x) (by omega) (by omega) (fun y hy => hx y (List.mem_cons_of_mem _ hy)), List.sum_cons]
    omega
theorem sum_set (x : Int) : ∀ (l : List Int) (i : Nat) (h : i < l.length), (l.set i x).sum = l.sum - l[i] + x
  | a :: r, 0, _ => by simp only [List.set_cons_zero, List.sum_cons, List.getElem_cons_zero]; omega
  | a :: r, i + 1, h => by
    have := sum_set x r i (by simpa using h)
    simp only [List.set_cons_succ, List.sum_cons, List.getElem_cons_succ, this]
    omega
  | [], _, h => by simp at h
theorem sum_ge : ∀ (l : List Int), (∀ x ∈ l, 0 ≤ x ∧ x ≤ 20000000) → 0 ≤ l.sum ∧ l.sum ≤ 20000000 * (l.length : Int)
  | [], _ => by simp
  | x :: r, hx => by
    have h2 := hx x (List.mem_cons_self ..)
    have := sum_ge r (fun y hy => hx y (List.mem_cons_of_mem _ hy))
    rw [List.sum_cons, List.length_cons]
    omega

theorem st_l1 (l : List Int) (hl : l.length ≤ 1048576) (R : Int) (m : Mid) (bed : List Int) (deep : Int) (hd0 : 1 ≤ deep) (hd1 : deep ≤ 20000) (hml : m.length ≤ 128) : ∀ (d j : Nat) (i h : Int) (ma tr : List Int), j + d = m.length → ma.length = j → okC ma tr → 0 ≤ i →
    ∃ M T i' h', Ev (fun k => spec_l07State.l1 k deep (j : Int) l i h R m R m ma tr bed) (R, m, M, T, bed, i', h') ∧ okC M T ∧ M.length = m.length := by
  intro d
  induction d with
  | zero =>
    intro j i h ma tr hj hm ho hi
    refine ⟨ma, tr, i, h, ?_, ho, by omega⟩
    refine Ev.step (fun k => rfl) ?_
    simp only [spec_l07State.l1, show ¬ ((j : Int) < (m.length : Int)) by omega, if_false]
    exact Ev.now _
  | succ d ih =>
    intro j i h ma tr hj hm ho hi
    have htl := okC_len ma tr ho
    obtain ⟨x, i1, h1, e1, hi1, hx0, hx1, _⟩ := s_below l i h deep (by omega) hi
    obtain ⟨b, i2, h2, e2, hi2⟩ := s_once l i1 h1 6 (by omega) hi1
    have hx1 := hx1 (by omega)
    have step : ∀ (x i2 h2 : Int), 0 ≤ x → x ≤ 19999 → 0 ≤ i2 → ∃ M T i' h', Ev (fun k => (spec_l01Below.f l i2 h2 200).bind fun bt264 => ((spec_l01Below.f l bt264.2.1 bt264.2.2 (wrap64 (x + 1))).bind fun bt267 => (if tr.length < 17592186044416 then (spec_l07State.l1 k deep (wrap64 ((j : Int) + 1)) l bt267.2.1 bt267.2.2 R m R m (ma ++ [x]) (tr ++ [wrap64 ((wrap64 (x * bt264.1)) + bt267.1)]) bed) else (none)))) (R, m, M, T, bed, i', h') ∧ okC M T ∧ M.length = m.length := by
      intro x i2 h2 hx0 hx1 hi2
      obtain ⟨y, i3, h3, e3, hi3, hy0, hy1, _⟩ := s_below l i2 h2 200 (by omega) hi2
      have hxw : wrap64 (x + 1) = x + 1 := w64 (by omega) (by omega)
      obtain ⟨z, i4, h4, e4, hi4, hz0, hz1, _⟩ := s_below l i3 h3 (x + 1) (by omega) hi3
      have hy1 := hy1 (by omega)
      have hz1 := hz1 (by omega)
      have hxy0 : 0 ≤ x * y := Int.mul_nonneg hx0 hy0
      have hxy1 : x * y ≤ x * 199 := Int.mul_le_mul_of_nonneg_left (by omega) hx0
      have hw1 : wrap64 (x * y) = x * y := w64 (by omega) (by omega)
      have hw2 : wrap64 (x * y + z) = x * y + z := w64 (by omega) (by omega)
      obtain ⟨M, T, i', h', e, q1, q2⟩ := ih (j + 1) i4 h4 (ma ++ [x]) (tr ++ [x * y + z]) (by omega) (by simp [hm]) (okC_snoc x (x * y + z) (by omega) ma tr ho) hi4
      refine ⟨M, T, i', h', ?_, q1, q2⟩
      simp only [e3, Option.bind_some, hxw, e4, show tr.length < 17592186044416 by omega, if_true, hw1, hw2, wsucc (show j < 4611686018427387904 by omega)]
      exact e
    cases b with
    | false =>
      obtain ⟨M, T, i', h', e, q1, q2⟩ := step x i2 h2 hx0 (by omega) hi2
      refine ⟨M, T, i', h', ?_, q1, q2⟩
      refine Ev.step (fun k => rfl) ?_
      simp only [spec_l07State.l1, show ((j : Int) < (m.length : Int)) by omega, if_true, e1, Option.bind_some, e2, Bool.false_eq_true, if_false, show ma.length < 17592186044416 by omega]
      exact e
    | true =>
      obtain ⟨x2, i3, h3, e3, hi3, hy0, hy1, _⟩ := s_below l i2 h2 3 (by omega) hi2
      have hy1 := hy1 (by omega)
      obtain ⟨M, T, i', h', e, q1, q2⟩ := step x2 i3 h3 hy0 (by omega) hi3
      refine ⟨M, T, i', h', ?_, q1, q2⟩
      refine Ev.step (fun k => rfl) ?_
      simp only [spec_l07State.l1, show ((j : Int) < (m.length : Int)) by omega, if_true, e1, Option.bind_some, e2, e3, show ma.length < 17592186044416 by omega]
      exact e
theorem st_l0 (l : List Int) (hl : l.length ≤ 1048576) (R : Int) (hR : R ≤ 8) (m : Mid) (hml : m.length ≤ 128) : ∀ (d j : Nat) (i h : Int) (bed : List Int), (j : Int) + d = R → bed.length = j → (∀ b ∈ bed, 0 ≤ b ∧ b ≤ 20000) → 0 ≤ i →
    ∃ M T B i' h', Ev (fun k => spec_l07State.l0 k (j : Int) l i h R m R m bed) (R, m, M, T, B, i', h') ∧ okC M T ∧ M.length = m.length ∧ (B.length : Int) = R ∧ ∀ b ∈ B, 0 ≤ b ∧ b ≤ 20000 := by
  intro d
  induction d with
  | zero =>
    intro j i h bed hj hb hbb hi
    obtain ⟨x, i1, h1, e1, hi1, hx0, hx1, _⟩ := s_below l i h 20000 (by omega) hi
    have hx1 := hx1 (by omega)
    have hw : wrap64 (1 + x) = 1 + x := w64 (by omega) (by omega)
    obtain ⟨M, T, i', h', e, q1, q2⟩ := st_l1 l hl R m bed (1 + x) (by omega) (by omega) hml m.length 0 i1 h1 [] [] (by omega) rfl trivial hi1
    refine ⟨M, T, bed, i', h', ?_, q1, q2, by omega, hbb⟩
    refine Ev.step (fun k => rfl) ?_
    simp only [spec_l07State.l0, show ¬ ((j : Int) < R) by omega, if_false, e1, Option.bind_some, hw]
    exact e
  | succ d ih =>
    intro j i h bed hj hb hbb hi
    obtain ⟨x, i1, h1, e1, hi1, hx0, hx1, _⟩ := s_below l i h 4 (by omega) hi
    obtain ⟨y, i2, h2, e2, hi2, hy0, hy1, _⟩ := s_below l i1 h1 5000 (by omega) hi1
    have hx1 := hx1 (by omega)
    have hy1 := hy1 (by omega)
    have hxy0 : 0 ≤ x * y := Int.mul_nonneg hx0 hy0
    have hxy1 : x * y ≤ 3 * y := Int.mul_le_mul_of_nonneg_right (by omega) hy0
    have hw : wrap64 (x * y) = x * y := w64 (by omega) (by omega)
    obtain ⟨M, T, B, i', h', e, q⟩ := ih (j + 1) i2 h2 (bed ++ [x * y]) (by omega) (by simp [hb]) (fun b hbm => by
      rcases List.mem_append.1 hbm with hbm | hbm
      · exact hbb b hbm
      · rw [List.mem_singleton.1 hbm]; omega) hi2
    refine ⟨M, T, B, i', h', ?_, q⟩
    refine Ev.step (fun k => rfl) ?_
    simp only [spec_l07State.l0, show ((j : Int) < R) by omega, if_true, e1, Option.bind_some, e2, show bed.length < 17592186044416 by omega, hw, wsucc (show j < 4611686018427387904 by omega)]
    exact e
theorem drawState (l : List Int) (hl : l.length ≤ 1048576) : ∃ R m M T B, Ev (fun k => spec_DrawState.f k l) (R, m, M, T, B) ∧ meshOkB R m = true ∧ firstUn m = -1 ∧ okC M T ∧ M.length = m.length ∧ (B.length : Int) = R ∧ ∀ b ∈ B, 0 ≤ b ∧ b ≤ 20000 := by
  obtain ⟨h, e⟩ := s_new l hl
  obtain ⟨R, m, t1, t2, e1, ht1, q1, q2, q3, q4⟩ := s_l04Mesh l hl 0 h (by omega)
  have hb : balP R m = balN 129 m := by rw [balP, if_pos q1]
  have hok := balN_ok 129 m q1
  have hlen := meshOk_len hok
  obtain ⟨M, T, B, i', h', e2, r1, r2, r3, r4⟩ := st_l0 l hl R (by omega) (balP R m) (by rw [hb]; omega) R.toNat 0 t1 t2 [] (by omega) rfl (by simp) ht1
  refine ⟨R, balP R m, M, T, B, ?_, by rw [hb]; exact hok, by rw [hb]; exact balN_bal 129 m q1 (by omega), r1, r2, r3, r4⟩
  unfold spec_DrawState.f spec_l07State.f spec_l05Mesh.f
  refine Ev.bind e ?_
  refine Ev.bind (a := (R, balP R m, M, T, B, i', h')) ?_ (Ev.now _)
  refine Ev.bind (a := (R, balP R m, t1, t2)) ?_ e2
  simp only [e1, Option.bind_some]
  refine Ev.bind (s_balance R m (by omega)) ?_
  exact Ev.now _

section
variable {R : Int} {m : Mid} {B : List Int} (hok : meshOkB R m = true) (hbal : firstUn m = -1) (hBl : (B.length : Int) = R) (hBb : ∀ b ∈ B, 0 ≤ b ∧ b ≤ 20000)
include hok hbal hBl hBb
theorem st_eq {M T : List Int} (hM : M.length = m.length) (hT : T.length = m.length) : stOkB R m M T B = (if cellsOk M T = true then decide (sumW 0 M ≤ 10000000) else false) := by
  have hb : balB R m = true := by unfold balB; rw [if_pos hok, hbal]; decide
  have hbeds : bedsOk B = true := by
    unfold bedsOk
    rw [List.all_eq_true]
    intro b hb
    have := hBb b hb
    exact decide_eq_true (by omega)
  unfold stOkB stTail
  rw [hb, if_pos rfl, if_pos ⟨hM, hT, hBl⟩, if_pos hbeds]
theorem st_good {M T : List Int} (ho : okC M T) (hM : M.length = m.length) : stOkB R m M T B = true := by
  have hlen := meshOk_len hok
  have htl := okC_len M T ho
  obtain ⟨q1, q2, q3⟩ := okC_mass M T ho
  rw [st_eq hok hbal hBl hBb hM (by omega), if_pos (okC_cells M T ho), sumW_eq M 0 (by omega) (by omega) q1]
  exact decide_eq_true (by omega)
theorem put {M T : List Int} (ho : okC M T) (hM : M.length = m.length) (n : Nat) (hn : n < m.length) (x y : Int) (hx0 : 0 ≤ x) (hx1 : x < 10000) (r : Bool) (hr : stOkB R m (M.set n x) (T.set n y) B = r) :
    Ev (fun k => impl_PutCell.f k R m M T B (n : Int) x y) (if r = true then (R, m, M.set n x, T.set n y, B, true) else (R, m, M, T, B, false)) := by
  have hlen := meshOk_len hok
  have htl := okC_len M T ho
  have hcl : ∀ l : List Int, l.length ≤ 1048576 → slices_Clone_int_int.f l = some l := fun l hl => by unfold slices_Clone_int_int.f; rw [if_pos (by omega)]
  unfold impl_PutCell.f impl_copyState.f
  simp only [i_copy R m (by omega), Option.bind_some, hcl M (by omega), hcl T (by omega), hcl B (by omega)]
  refine Ev.bind (i_st R m M T B (by omega) (by omega) (by omega)) ?_
  simp only [st_good hok hbal hBl hBb ho hM, if_true, i_has R m (n : Int) (by omega), Option.bind_some, decide_eq_true_eq]
  simp only [true_and, show (n : Int) ≤ (m.length : Int) - 1 by omega, if_true, show (0 : Int) ≤ (n : Int) by omega, show (n : Int) < (M.length : Int) by omega, show (n : Int) < (T.length : Int) by omega, Int.toNat_natCast]
  refine Ev.bind (i_st R m (M.set n x) (T.set n y) B (by omega) (by simp; omega) (by omega)) ?_
  rw [hr]
  cases r with
  | true => simp only [if_true]; exact Ev.now _
  | false => simp only [Bool.false_eq_true, if_false]; exact Ev.now _
theorem totM {M T : List Int} (ho : okC M T) (hM : M.length = m.length) : Ev (fun k => impl_TotalMass.f k R m M T B) M.sum := by
  have hlen := meshOk_len hok
  obtain ⟨q1, q2, q3⟩ := okC_mass M T ho
  unfold impl_TotalMass.f
  refine Ev.bind (i_st R m M T B (by omega) (by omega) (by omega)) ?_
  simp only [st_good hok hbal hBl hBb ho hM, if_true]
  refine Ev.bind (i_sum M (by omega)) ?_
  rw [sumW_eq M 0 (by omega) (by omega) q1, Int.zero_add]
  exact Ev.now _
theorem totT {M T : List Int} (ho : okC M T) (hM : M.length = m.length) : Ev (fun k => impl_TotalTracer.f k R m M T B) T.sum := by
  have hlen := meshOk_len hok
  have htl := okC_len M T ho
  obtain ⟨q1, q2, q3⟩ := okC_mass M T ho
  unfold impl_TotalTracer.f
  refine Ev.bind (i_st R m M T B (by omega) (by omega) (by omega)) ?_
  simp only [st_good hok hbal hBl hBb ho hM, if_true]
  refine Ev.bind (i_sum T (by omega)) ?_
  rw [sumW_eq T 0 (by omega) (by omega) q2, Int.zero_add]
  exact Ev.now _
end

theorem FnPut : laws_FnPut.Pure := by
  intro l _ _ _
  refine Ev.rounds ?_
  unfold laws_FnPut.f
  simp only [big_eq, Option.bind_some, decide_eq_true_eq]
  by_cases h : (l.length : Int) > 1048576
  · simp only [h, if_true]; exact Ev.now _
  · simp only [h, if_false]
    obtain ⟨R, m, M, T, B, ed, hok, hbal, ho, hM, hBl, hBb⟩ := drawState l (by omega)
    refine Ev.bind ed ?_
    obtain ⟨ps, ep, hpl, hps⟩ := s_places l (by omega)
    refine Ev.bind ep ?_
    have hlen := meshOk_len hok
    have htl := okC_len M T ho
    have hpos : 0 < m.length := List.length_pos_iff.2 (meshOk_ne hok)
    have hp : ∀ j : Nat, j < 12 → 0 ≤ rd ps (j : Int) ∧ rd ps (j : Int) < 10000 := fun j hj => by
      rw [rdi ps j (by omega)]
      exact hps _ (List.getElem_mem _)
    have hp0 : 0 ≤ rd ps 0 ∧ rd ps 0 < 10000 := hp 0 (by omega)
    have hp1 : 0 ≤ rd ps 1 ∧ rd ps 1 < 10000 := hp 1 (by omega)
    have hp2 : 0 ≤ rd ps 2 ∧ rd ps 2 < 10000 := hp 2 (by omega)
    generalize rd ps 0 = a0 at hp0
    generalize rd ps 1 = a1 at hp1
    generalize rd ps 2 = a2 at hp2
    obtain ⟨n, hn⟩ : ∃ n : Nat, Int.tmod a0 (M.length : Int) = n := by
      refine Int.eq_ofNat_of_zero_le ?_
      rw [Int.tmod_eq_emod_of_nonneg hp0.1]
      exact Int.emod_nonneg _ (by omega)
    have hnl : n < m.length := by
      have := Int.emod_lt_of_pos a0 (show (0 : Int) < M.length by omega)
      rw [← Int.tmod_eq_emod_of_nonneg hp0.1, hn] at this
      omega
    have hprod0 : 0 ≤ a1 * a2 := Int.mul_nonneg hp1.1 hp2.1
    have hprod1 : a1 * a2 ≤ 10000 * a2 := Int.mul_le_mul_of_nonneg_right (by omega) hp2.1
    have hw1 : wrap64 (a1 * a2) = a1 * a2 := w64 (by omega) (by omega)
    obtain ⟨q, hq⟩ : ∃ q, Int.tmod (a1 * a2) 1000 = q := ⟨_, rfl⟩
    have hq0 : 0 ≤ q ∧ q ≤ 1000 * a1 ∧ q < 1000 := by
      rw [Int.tmod_eq_emod_of_nonneg hprod0] at hq
      have h1 := Int.emod_nonneg (a1 * a2) (show (1000 : Int) ≠ 0 by omega)
      have h2 := Int.emod_lt_of_pos (a1 * a2) (show (0 : Int) < 1000 by omega)
      refine ⟨by omega, ?_, by omega⟩
      by_cases ha : a1 = 0
      · rw [ha, Int.zero_mul] at hq; omega
      · omega
    have hw2 : wrap64 (wrap64 (1000 * a1) + 1) = 1000 * a1 + 1 := by rw [w64 (n := 1000 * a1) (by omega) (by omega), w64 (by omega) (by omega)]
    have ho2 := okC_set a1 q (by omega) M T n ho
    have hM2 : (M.set n a1).length = m.length := by rw [List.length_set]; exact hM
    have g1 := put hok hbal hBl hBb ho hM n hnl a1 q hp1.1 hp1.2 true (st_good hok hbal hBl hBb ho2 hM2)
    have g2 := put hok hbal hBl hBb ho hM n hnl a1 (1000 * a1 + 1) hp1.1 hp1.2 false (by
      rw [st_eq hok hbal hBl hBb hM2 (by rw [List.length_set]; omega), cells_bad a1 (1000 * a1 + 1) hp1.1 hp1.2 (by omega) M T n (by omega) (by omega)]
      rfl)
    simp only [if_true, Bool.false_eq_true, if_false] at g1 g2
    simp only [hn, show (0 : Int) < (ps.length : Int) by omega, show (1 : Int) < (ps.length : Int) by omega, show (2 : Int) < (ps.length : Int) by omega, if_true, show ¬ ((M.length : Int) = 0) by omega, if_false, hw1, hq, hw2]
    refine Ev.bind g1 ?_
    refine Ev.bind g2 ?_
    simp only [if_true, Bool.false_eq_true, if_false]
    refine Ev.bind (totM hok hbal hBl hBb ho2 hM2) ?_
    refine Ev.bind (totM hok hbal hBl hBb ho hM) ?_
    have sM := sum_set a1 M n (by omega)
    have sT := sum_set q T n (by omega)
    obtain ⟨q1, q2, q3⟩ := okC_mass M T ho
    have g3 := sum_ge M q1
    have g4 := sum_ge T q2
    have v1 := q1 M[n] (List.getElem_mem _)
    have v2 := q2 T[n] (List.getElem_mem _)
    have w1 : wrap64 (wrap64 (M.sum - M[n]) + a1) = M.sum - M[n] + a1 := by rw [w64 (n := M.sum - M[n]) (by omega) (by omega), w64 (by omega) (by omega)]
    have w2 : wrap64 (wrap64 (T.sum - T[n]) + q) = T.sum - T[n] + q := by rw [w64 (n := T.sum - T[n]) (by omega) (by omega), w64 (by omega) (by omega)]
    simp only [show (0 : Int) ≤ (n : Int) by omega, show (n : Int) < (M.length : Int) by omega, if_true, rdi M n (by omega), w1, sM]
    refine Ev.bind (totT hok hbal hBl hBb ho2 hM2) ?_
    refine Ev.bind (totT hok hbal hBl hBb ho hM) ?_
    simp only [show (n : Int) < (T.length : Int) by omega, if_true, rdi T n (by omega), w2, sT, beq_self_eq_true]
    exact Ev.now _

end Go.Proofs.Ytbkkehjhfgocfaa.Pure
