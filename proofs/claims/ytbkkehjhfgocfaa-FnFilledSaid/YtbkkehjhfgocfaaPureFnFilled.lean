/- Filled leaves reach the surface up to less than one unit of their mass, for every draw (one of more than 1048576 bytes is passed over by the statement itself); no condition. -/
import Derived.Test.YtbkkehjhfgocfaaCFnFilled
set_option linter.unusedSimpArgs false
set_option linter.unusedVariables false
namespace Go.Proofs.Ytbkkehjhfgocfaa.Pure
open Go.RowKit Go.Proofs.Ytbkkehjhfgocfaa.PFnFilled Go.Proofs.YtbkkehjhfgocfaaW.PrintWords Go.Proofs.YtbkkehjhfgocfaaW.PrintLast Go.Proofs.YtbkkehjhfgocfaaW.PrintMore Go.Proofs.Ytbkkehjhfgocfaa.CoreFnFilled

theorem lake_l0 (l : List Int) (hl : l.length ≤ 1048576) (R : Int) (m : Mid) (hR : R ≤ 8) : ∀ (d j : Nat) (acc : List Int) (i h : Int), (j : Int) + d = R → acc.length = j → (∀ b ∈ acc, 0 ≤ b ∧ b < 9000) → 0 ≤ i →
    ∃ bed s, Ev (fun k => spec_DrawLake.l0 k acc (j : Int) l i h R m) (R, m, bed, s) ∧ (bed.length : Int) = R ∧ (∀ b ∈ bed, 0 ≤ b ∧ b < 9000) ∧ 0 ≤ s ∧ s < 12000 := by
  intro d
  induction d with
  | zero =>
    intro j acc i h hj ha hb hi
    obtain ⟨r, i', h', e, hi', hr0, hr1, _⟩ := s_below l i h 12000 (by omega) hi
    refine ⟨acc, r, ?_, by omega, hb, hr0, hr1 (by omega)⟩
    refine Ev.step (fun k => rfl) ?_
    simp only [spec_DrawLake.l0, show ¬ ((j : Int) < R) by omega, if_false, e, Option.bind_some]
    exact Ev.now _
  | succ d ih =>
    intro j acc i h hj ha hb hi
    obtain ⟨r, i', h', e, hi', hr0, hr1, _⟩ := s_below l i h 9000 (by omega) hi
    obtain ⟨bed, s, e2, q1, q2, q3, q4⟩ := ih (j + 1) (acc ++ [r]) i' h' (by omega) (by simp [ha]) (fun b hbm => by
      rcases List.mem_append.1 hbm with hbm | hbm
      · exact hb b hbm
      · rw [List.mem_singleton.1 hbm]; exact ⟨hr0, hr1 (by omega)⟩) hi'
    refine ⟨bed, s, ?_, q1, q2, q3, q4⟩
    refine Ev.step (fun k => rfl) ?_
    simp only [spec_DrawLake.l0, show ((j : Int) < R) by omega, if_true, e, Option.bind_some, show acc.length < 17592186044416 by omega, wsucc (show j < 4611686018427387904 by omega)]
    exact e2
theorem lake (l : List Int) (hl : l.length ≤ 1048576) : ∃ R m bed s, Ev (fun k => spec_DrawLake.f k l) (R, m, bed, s) ∧ meshOkB R m = true ∧ firstUn m = -1 ∧ (bed.length : Int) = R ∧ (∀ b ∈ bed, 0 ≤ b ∧ b < 9000) ∧ 0 ≤ s ∧ s < 12000 := by
  obtain ⟨h, e⟩ := s_new l hl
  obtain ⟨R, m, t1, t2, e1, ht1, q1, q2, q3, q4⟩ := s_l04Mesh l hl 0 h (by omega)
  have hb : balP R m = balN 129 m := by rw [balP, if_pos q1]
  have hok := balN_ok 129 m q1
  have hlen := meshOk_len hok
  obtain ⟨bed, s, e2, r1, r2, r3, r4⟩ := lake_l0 l hl R (balP R m) (by omega) R.toNat 0 [] t1 t2 (by omega) rfl (by simp) ht1
  refine ⟨R, balP R m, bed, s, ?_, by rw [hb]; exact hok, by rw [hb]; exact balN_bal 129 m q1 (by omega), r1, r2, r3, r4⟩
  unfold spec_DrawLake.f spec_l05Mesh.f
  refine Ev.bind e ?_
  refine Ev.bind (a := (R, balP R m, t1, t2)) ?_ e2
  simp only [e1, Option.bind_some]
  refine Ev.bind (s_balance R m (by omega)) ?_
  exact Ev.now _

def massP (h : Int) (bed : List Int) (x : Cell) : Int := shr .i64 (mx 0 (wrap64 (h - rd bed x.f0))) x.f1
theorem meshFrom_end : ∀ (l : Mid) (a b : Int), meshFrom a l = some b → ∀ x ∈ l, endP x.f0 x.f1 x.f2 ≤ b
  | [], _, _, _ => fun x hx => by cases hx
  | y :: r, a, b, h => fun x hx => by
    rw [meshFrom] at h
    split at h
    · rcases List.mem_cons.1 hx with rfl | hx
      · have := meshFrom_len r _ b h; omega
      · exact meshFrom_end r _ b h x hx
    · cases h
theorem root_lt {R : Int} {m : Mid} (h : meshOkB R m = true) : ∀ x ∈ m, 0 ≤ x.f0 ∧ x.f0 < R := fun x hx => by
  have hid := meshOk_all h x hx
  have he := meshFrom_end m 0 _ (meshOk_from.1 h).1 x hx
  obtain ⟨h1, h2, h3, h4, h5, h6⟩ := idok_iff.1 hid
  have hw := width_pos h3 h4
  have hc := cw_bd h3 h4 h5 h6
  unfold endP startP at he
  rw [if_pos hid] at he
  omega
theorem rd_bd {bed : List Int} (hb : ∀ b ∈ bed, 0 ≤ b ∧ b < 9000) {i : Int} (h0 : 0 ≤ i) (h1 : i < (bed.length : Int)) : 0 ≤ rd bed i ∧ rd bed i < 9000 := by
  obtain ⟨n, rfl⟩ := Int.eq_ofNat_of_zero_le h0
  rw [rdi bed n (by omega)]
  exact hb _ (List.getElem_mem _)
/-- The mass and the level: what a filled leaf holds. -/
theorem mass_eq {h b lv : Int} (hb0 : 0 ≤ b) (hb1 : b < 9000) (h0 : 0 ≤ h) (h1 : h < 12000) (l0 : 0 ≤ lv) (l1 : lv ≤ 4) :
    0 ≤ shr .i64 (mx 0 (wrap64 (h - b))) lv ∧ shr .i64 (mx 0 (wrap64 (h - b))) lv ≤ 12000 ∧ (h ≤ b → shr .i64 (mx 0 (wrap64 (h - b))) lv = 0) ∧
      (b < h → wrap64 (wrap64 (h - b) - shl .i64 (shr .i64 (mx 0 (wrap64 (h - b))) lv) (IntKind.u64.wrap lv)) = (h - b) % 2 ^ lv.toNat) ∧ shl .i64 1 (IntKind.u64.wrap lv) = 2 ^ lv.toNat ∧ 0 < (2 : Int) ^ lv.toNat := by
  have hw : wrap64 (h - b) = h - b := w64 (by omega) (by omega)
  rw [hw, shr_small' l0 l1, u64_small l0 (by omega), shl1 l0 l1]
  have hmx : mx 0 (h - b) = if h ≤ b then 0 else h - b := by unfold mx; split <;> split <;> omega
  rw [hmx]
  have hp : (0 : Int) < 2 ^ lv.toNat := by obtain rfl | rfl | rfl | rfl | rfl := level_cases l0 l1 <;> decide
  by_cases hc : h ≤ b
  · rw [if_pos hc]
    refine ⟨by simp, by simp, fun _ => by simp, fun e => by omega, rfl, hp⟩
  · rw [if_neg hc]
    have hd0 : 0 ≤ (h - b) / 2 ^ lv.toNat := Int.ediv_nonneg (by omega) (by omega)
    have hd1 : (h - b) / 2 ^ lv.toNat ≤ h - b := Int.ediv_le_self _ (by omega)
    refine ⟨hd0, by omega, fun e => absurd e hc, fun _ => ?_, rfl, hp⟩
    have hs : shl .i64 ((h - b) / 2 ^ lv.toNat) lv = ((h - b) / 2 ^ lv.toNat) * 2 ^ lv.toNat := by
      unfold shl
      rw [Nat.min_eq_left (show lv.toNat ≤ IntKind.bits .i64 by have : IntKind.bits .i64 = 64 := rfl; omega), IntKind.wrap_i64]
      have := Int.ediv_mul_le (h - b) (show (2 : Int) ^ lv.toNat ≠ 0 by omega)
      have : 0 ≤ (h - b) / 2 ^ lv.toNat * 2 ^ lv.toNat := Int.mul_nonneg hd0 (by omega)
      omega
    have hm := Int.emod_add_mul_ediv (h - b) (2 ^ lv.toNat)
    have h5 := Int.emod_nonneg (h - b) (show (2 : Int) ^ lv.toNat ≠ 0 by omega)
    have h6 := Int.emod_lt_of_pos (h - b) hp
    rw [Int.mul_comm] at hm
    have hle : (2 : Int) ^ lv.toNat ≤ 16 := by obtain rfl | rfl | rfl | rfl | rfl := level_cases l0 l1 <;> decide
    rw [hs, w64 (by omega) (by omega)]
    omega
theorem sum_bd : ∀ (l : List Int) (a : Int), 0 ≤ a → a + 12000 * (l.length : Int) ≤ 4611686018427387904 → (∀ x ∈ l, 0 ≤ x ∧ x ≤ 12000) → sumW a l ≤ a + 12000 * (l.length : Int)
  | [], a, _, _, _ => by show a ≤ _; simp
  | x :: r, a, h0, h1, hx => by
    have h2 := hx x (List.mem_cons_self ..)
    simp only [List.length_cons] at h1 ⊢
    rw [sumW, w64 (by omega) (by omega)]
    have := sum_bd r (a + x) (by omega) (by omega) (fun y hy => hx y (List.mem_cons_of_mem _ hy))
    omega
theorem sum_zero : ∀ (n : Nat), sumW 0 (List.replicate n 0) = 0
  | 0 => rfl
  | n + 1 => by rw [List.replicate_succ, sumW, w64 (n := 0 + 0) (by omega) (by omega)]; exact sum_zero n
theorem cells_zero : ∀ (l : List Int), (∀ x ∈ l, 0 ≤ x ∧ x ≤ 12000) → cellsOk l (List.replicate l.length 0) = true
  | [], _ => rfl
  | x :: r, hx => by
    have h2 := hx x (List.mem_cons_self ..)
    rw [List.length_cons, List.replicate_succ, cellsOk, if_pos (by omega), if_pos (by rw [w64 (by omega) (by omega)]; omega)]
    exact cells_zero r (fun y hy => hx y (List.mem_cons_of_mem _ hy))

section
variable {R : Int} {m : Mid} {bed : List Int} {h : Int} (hok : meshOkB R m = true) (hbal : firstUn m = -1) (hbl : (bed.length : Int) = R) (hbb : ∀ b ∈ bed, 0 ≤ b ∧ b < 9000) (h0 : 0 ≤ h) (h1 : h < 12000)
include hok hbl hbb h0 h1
theorem mass_bd : ∀ y ∈ m.map (massP h bed), 0 ≤ y ∧ y ≤ 12000 := fun y hy => by
  obtain ⟨x, hx, rfl⟩ := List.mem_map.1 hy
  obtain ⟨r0, r1⟩ := root_lt hok x hx
  have hr := rd_bd hbb r0 (by omega)
  have hlv := meshOk_lv hok x hx
  have := mass_eq hr.1 hr.2 h0 h1 hlv.1 hlv.2
  exact ⟨this.1, this.2.1⟩
include hbal
theorem filled_ok : stOkB R m (m.map (massP h bed)) (List.replicate m.length 0) bed = true := by
  have hB : balB R m = true := by unfold balB; rw [if_pos hok, hbal]; decide
  have hlen := meshOk_len hok
  have hmb := mass_bd hok hbl hbb h0 h1
  unfold stOkB
  rw [hB, if_pos rfl, if_pos ⟨by simp, by simp, hbl⟩]
  unfold stTail
  have hbeds : bedsOk bed = true := by
    unfold bedsOk
    rw [List.all_eq_true]
    intro b hb
    have := hbb b hb
    exact decide_eq_true (by omega)
  have hc := cells_zero _ hmb
  rw [List.length_map] at hc
  have hs := sum_bd (m.map (massP h bed)) 0 (by omega) (by simp; omega) hmb
  rw [List.length_map] at hs
  rw [if_pos hbeds, if_pos hc]
  exact decide_eq_true (by omega)
theorem fill_l0 : ∀ (d j : Nat), j + d = m.length → Ev (fun k => impl_FillState.l0 k bed h m (m.length : Int) (j : Int) R m ((m.take j).map (massP h bed)) (List.replicate m.length 0) bed) (R, m, m.map (massP h bed), List.replicate m.length 0, bed, true) := by
  have hlen := meshOk_len hok
  intro d
  induction d with
  | zero =>
    intro j hj
    have e : m.take j = m := List.take_of_length_le (by omega)
    rw [e]
    refine Ev.step (fun k => rfl) ?_
    simp only [impl_FillState.l0, show ¬ ((j : Int) < (m.length : Int)) by omega, if_false]
    refine Ev.bind (i_st R m _ _ bed (by omega) (by simp; omega) (by omega)) ?_
    simp only [filled_ok hok hbal hbl hbb h0 h1, if_true]
    exact Ev.now _
  | succ d ih =>
    intro j hj
    have hjl : j < m.length := by omega
    obtain ⟨r0, r1⟩ := root_lt hok _ (List.getElem_mem hjl)
    have hlv := meshOk_lv hok _ (List.getElem_mem hjl)
    refine Ev.step (fun k => rfl) ?_
    simp only [impl_FillState.l0, show ((j : Int) < (m.length : Int)) by omega, show (0 : Int) ≤ (j : Int) by omega, if_true, rdc m j hjl, r0, show m[j].f0 < (bed.length : Int) by omega, hlv.1, show ((m.take j).map (massP h bed)).length < 17592186044416 by simp; omega, wsucc (show j < 4611686018427387904 by omega)]
    have := ih (j + 1) (by omega)
    rw [List.take_succ_eq_append_getElem hjl, List.map_append] at this
    exact this
theorem fill : Ev (fun k => impl_FillState.f k R m bed h) (R, m, m.map (massP h bed), List.replicate m.length 0, bed, true) := by
  have hlen := meshOk_len hok
  unfold impl_FillState.f
  refine Ev.bind (i_mesh R m (by omega)) ?_
  have hbeds : bedsOk bed = true := by
    unfold bedsOk
    rw [List.all_eq_true]
    intro b hb
    have := hbb b hb
    exact decide_eq_true (by omega)
  have hany : slices_ContainsFunc_int_int.f bed () = some false := by
    unfold slices_ContainsFunc_int_int.f
    rw [any_beds, hbeds]; rfl
  have hin : decide ((0 : Int) ≤ h ∧ h ≤ 2000000) = true := decide_eq_true (by omega)
  simp only [hok, if_true, hbl, i_in, Option.bind_some, hin, hany]
  refine Ev.step (fun k => rfl) ?_
  have hcl : slices_Clone_int_int.f bed = some bed := by unfold slices_Clone_int_int.f; rw [if_pos (by omega)]
  simp only [impl_FillState.j0, Bool.false_eq_true, if_false, i_copy R m (by omega), Option.bind_some, show (0 : Int) ≤ (m.length : Int) by omega, if_true, Int.toNat_natCast, show m.length ≤ 35184372088832 by omega, hcl]
  exact fill_l0 hok hbal hbl hbb h0 h1 m.length 0 (by omega)
theorem law_l0 : ∀ (d j : Nat), j + d = m.length → Ev (fun k => laws_FnFilled.l0 k bed h (j : Int) R m R m (m.map (massP h bed)) (List.replicate m.length 0) bed) true := by
  have hlen := meshOk_len hok
  intro d
  induction d with
  | zero =>
    intro j hj
    refine Ev.step (fun k => rfl) ?_
    simp only [laws_FnFilled.l0, show ¬ ((j : Int) < (m.length : Int)) by omega, if_false]
    unfold impl_TotalTracer.f
    refine Ev.bind (a := 0) ?_ (Ev.now _)
    refine Ev.bind (i_st R m _ _ bed (by omega) (by simp; omega) (by omega)) ?_
    simp only [filled_ok hok hbal hbl hbb h0 h1, if_true]
    refine Ev.bind (i_sum _ (by simp; omega)) ?_
    rw [sum_zero]
    exact Ev.now _
  | succ d ih =>
    intro j hj
    have hjl : j < m.length := by omega
    obtain ⟨r0, r1⟩ := root_lt hok _ (List.getElem_mem hjl)
    have hlv := meshOk_lv hok _ (List.getElem_mem hjl)
    have hr := rd_bd hbb r0 (by omega)
    obtain ⟨m1, m2, m3, m4, m5, m6⟩ := mass_eq hr.1 hr.2 h0 h1 hlv.1 hlv.2
    have hrm : rd (m.map (massP h bed)) (j : Int) = shr .i64 (mx 0 (wrap64 (h - rd bed m[j].f0))) m[j].f1 := by
      rw [rdi _ j (by simp; omega), List.getElem_map]; rfl
    refine Ev.step (fun k => rfl) ?_
    simp only [laws_FnFilled.l0, show ((j : Int) < (m.length : Int)) by omega, show (0 : Int) ≤ (j : Int) by omega, if_true, rdc m j hjl, r0, show m[j].f0 < (bed.length : Int) by omega, List.length_map, hrm, show (0 : Int) ≤ IntKind.u64.wrap m[j].f1 by rw [u64_small hlv.1 (by omega)]; exact hlv.1, wsucc (show j < 4611686018427387904 by omega), ge_iff_le]
    by_cases hc : h ≤ rd bed m[j].f0
    · simp only [hc, if_true, m3 hc, show ¬ (rd bed m[j].f0 < h) by omega, if_false]
      exact ih (j + 1) (by omega)
    · have hc' : rd bed m[j].f0 < h := by omega
      have h5 := Int.emod_nonneg (h - rd bed m[j].f0) (show (2 : Int) ^ m[j].f1.toNat ≠ 0 by omega)
      have h6 := Int.emod_lt_of_pos (h - rd bed m[j].f0) m6
      simp only [hc, if_false, hc', if_true, m4 hc', m5, show ¬ ((h - rd bed m[j].f0) % 2 ^ m[j].f1.toNat < 0) by omega, show ¬ ((2 : Int) ^ m[j].f1.toNat ≤ (h - rd bed m[j].f0) % 2 ^ m[j].f1.toNat) by omega]
      exact ih (j + 1) (by omega)
end

theorem FnFilled : laws_FnFilled.Pure := by
  intro l _ _ _
  refine Ev.rounds ?_
  unfold laws_FnFilled.f
  simp only [big_eq, Option.bind_some, decide_eq_true_eq]
  by_cases h : (l.length : Int) > 1048576
  · simp only [h, if_true]; exact Ev.now _
  · simp only [h, if_false]
    obtain ⟨R, m, bed, s, ed, hok, hbal, hbl, hbb, hs0, hs1⟩ := lake l (by omega)
    have hlen := meshOk_len hok
    refine Ev.bind ed ?_
    refine Ev.bind (fill hok hbal hbl hbb hs0 hs1) ?_
    simp only [if_true]
    refine Ev.bind (i_st R m _ _ bed (by omega) (by simp; omega) (by omega)) ?_
    simp only [filled_ok hok hbal hbl hbb hs0 hs1, if_true, List.length_map, bne_self_eq_false]
    refine Ev.step (fun k => rfl) ?_
    simp only [laws_FnFilled.j0, Bool.false_eq_true, if_false]
    exact law_l0 hok hbal hbl hbb hs0 hs1 m.length 0 (by omega)

end Go.Proofs.Ytbkkehjhfgocfaa.Pure
