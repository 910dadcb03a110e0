/- FillState of the program and of the reference answer alike, for every mesh, beds and surface (a mesh of more than 1048576 leaves or as many beds are passed over by the statement itself), the arguments read as before and the results share no memory with them nor with one another; no condition. -/
import Derived.Test.YtbkkehjhfgocfaaCFnExactFillState
set_option linter.unusedSimpArgs false
set_option linter.unusedVariables false
namespace Go.Proofs.Ytbkkehjhfgocfaa.Pure
open Go.RowKit Go.Proofs.Ytbkkehjhfgocfaa.PFnExactFillState Go.Proofs.YtbkkehjhfgocfaaW.PrintWords Go.Proofs.YtbkkehjhfgocfaaW.PrintLast Go.Proofs.YtbkkehjhfgocfaaW.PrintMore Go.Proofs.Ytbkkehjhfgocfaa.CoreFnExactFillState
theorem toInt_l0 (l : List Int) (hl : l.length ≤ 1048576) : ∀ (d i : Nat) (acc : List Int), i + d = l.length → acc.length = l.length → acc.take i = l.take i → Ev (fun k => laws_toIntS.l0 k l acc (i : Int)) l := by
 intro d
 induction d with
 | zero =>
  intro i acc h ha ht
  refine Ev.step (fun k => rfl) ?_
  have h1 : ¬ ((i : Int) < (l.length : Int)) := by omega
  simp only [laws_toIntS.l0, h1, if_false]
  rw [List.take_of_length_le (by omega), List.take_of_length_le (by omega)] at ht
  rw [ht]; exact Ev.now _
 | succ d ih =>
  intro i acc h ha ht
  refine Ev.step (fun k => rfl) ?_
  have h1 : (i : Int) < (l.length : Int) := by omega
  have h2 : i < l.length := by omega
  have h3 : (0 : Int) ≤ (i : Int) := by omega
  have h4 : (i : Int) < (acc.length : Int) := by omega
  simp only [laws_toIntS.l0, h1, h3, h4, if_true, rdi l i h2, wsucc (show i < 4611686018427387904 by omega), Int.toNat_natCast]
  refine ih (i + 1) _ (by omega) (by rw [List.length_set]; exact ha) ?_
  rw [List.take_succ_eq_append_getElem (by rw [List.length_set]; omega), List.take_succ_eq_append_getElem h2, List.getElem_set_self, List.take_set_of_le (Nat.le_refl i), ht]
theorem toInt_ev (l : List Int) (hl : l.length ≤ 1048576) : Ev (fun k => laws_toIntS.f k l) l := by
 unfold laws_toIntS.f
 have h0 : (0 : Int) ≤ (l.length : Int) := by omega
 have h1 : ((l.length : Int)).toNat ≤ 35184372088832 := by omega
 simp only [h0, h1, if_true]
 exact toInt_l0 l hl l.length 0 _ (by omega) (by simp) rfl
theorem eqInt_l0 (l : List Int) (hl : l.length ≤ 1048576) : ∀ (d i : Nat), i + d = l.length → Ev (fun k => laws_eqIntS.l0 k l l (i : Int)) true := by
 intro d
 induction d with
 | zero =>
  intro i h
  refine Ev.step (fun k => rfl) ?_
  have h1 : ¬ ((i : Int) < (l.length : Int)) := by omega
  simp only [laws_eqIntS.l0, h1, if_false]; exact Ev.now _
 | succ d ih =>
  intro i h
  refine Ev.step (fun k => rfl) ?_
  have h1 : (i : Int) < (l.length : Int) := by omega
  have h3 : (0 : Int) ≤ (i : Int) := by omega
  simp only [laws_eqIntS.l0, h1, h3, if_true, wsucc (show i < 4611686018427387904 by omega)]
  exact ih (i + 1) (by omega)
theorem eqInt_refl (l : List Int) (hl : l.length ≤ 1048576) : Ev (fun k => laws_eqIntS.f k l l) true := by
 unfold laws_eqIntS.f
 simp only [if_true]
 exact eqInt_l0 l hl l.length 0 (by omega)
def markI (kk : Int) : Nat → List Int
 | 0 => []
 | n + 1 => kk :: markI (kk + 1) n
theorem markI_len : ∀ (n : Nat) (kk : Int), (markI kk n).length = n
 | 0, _ => rfl
 | n + 1, kk => by simp [markI, markI_len n]
theorem set_atI (pre : List Int) (x y : Int) (r : List Int) : (pre ++ x :: r).set ((pre.length : Int)).toNat y = pre ++ y :: r := by
 rw [Int.toNat_natCast, List.set_append_right _ _ (Nat.le_refl _)]; simp
theorem rd_atI (pre : List Int) (x : Int) (r : List Int) : rd (pre ++ x :: r) (pre.length : Int) = x := by
 rw [rdi _ pre.length (by simp)]; simp
theorem markInt_l0 : ∀ (rest pre : List Int) (kk : Int), pre.length + rest.length ≤ 1000000000 → 0 ≤ kk → kk + rest.length ≤ 4611686018427387904 → Ev (fun k => laws_markIntS.l0 k (pre ++ rest) kk (pre.length : Int)) (kk + rest.length, pre ++ markI kk rest.length) := by
 intro rest
 induction rest with
 | nil =>
  intro pre kk h h0 h1
  refine Ev.step (fun k => rfl) ?_
  simp only [laws_markIntS.l0, show ¬ ((pre.length : Int) < ((pre ++ ([] : List Int)).length : Int)) by simp, if_false]
  simpa [markI] using Ev.now (kk, pre)
 | cons x r ih =>
  intro pre kk h h0 h1
  rw [List.length_cons] at h h1
  refine Ev.step (fun k => rfl) ?_
  simp only [laws_markIntS.l0, show (pre.length : Int) < ((pre ++ x :: r).length : Int) by simp; omega, show (0 : Int) ≤ (pre.length : Int) by omega, if_true, set_atI]
  rw [w64 (n := kk + 1) (by omega) (by omega), wsucc (show pre.length < 4611686018427387904 by omega)]
  have := ih (pre ++ [kk]) (kk + 1) (by simp; omega) (by omega) (by omega)
  rw [List.append_assoc, List.append_assoc] at this
  simp only [List.singleton_append, List.length_append, List.length_singleton] at this
  simp only [markI, List.length_cons]
  rw [show kk + ((r.length + 1 : Nat) : Int) = kk + 1 + (r.length : Int) by omega]
  exact this
theorem markInt_ev (l : List Int) (kk : Int) (h : l.length ≤ 1048576) (h0 : 0 ≤ kk) (h1 : kk ≤ 1000000000000) : Ev (fun k => laws_markIntS.f k l kk) (kk + l.length, markI kk l.length) := by
 have := markInt_l0 l [] kk (by simp; omega) h0 (by omega)
 simpa [laws_markIntS.f] using this
theorem heldInt_l0 : ∀ (n : Nat) (pre : List Int) (kk : Int), pre.length + n ≤ 1000000000 → 0 ≤ kk → kk + n ≤ 4611686018427387904 → Ev (fun k => laws_heldIntS.l0 k (pre ++ markI kk n) kk (pre.length : Int)) (kk + n) := by
 intro n
 induction n with
 | zero =>
  intro pre kk h h0 h1
  refine Ev.step (fun k => rfl) ?_
  simp only [markI, laws_heldIntS.l0, show ¬ ((pre.length : Int) < ((pre ++ ([] : List Int)).length : Int)) by simp, if_false]
  simpa using Ev.now kk
 | succ n ih =>
  intro pre kk h h0 h1
  refine Ev.step (fun k => rfl) ?_
  simp only [markI, laws_heldIntS.l0, show (pre.length : Int) < ((pre ++ kk :: markI (kk + 1) n).length : Int) by simp; omega, show (0 : Int) ≤ (pre.length : Int) by omega, if_true, rd_atI]
  rw [w64 (n := kk + 1) (by omega) (by omega), wsucc (show pre.length < 4611686018427387904 by omega)]
  have := ih (pre ++ [kk]) (kk + 1) (by simp; omega) (by omega) (by omega)
  rw [List.append_assoc] at this
  simp only [List.singleton_append, List.length_append, List.length_singleton] at this
  rw [show kk + ((n + 1 : Nat) : Int) = kk + 1 + (n : Int) by omega]
  exact this
theorem heldInt_ev (n : Nat) (kk : Int) (h : n ≤ 1048576) (h0 : 0 ≤ kk) (h1 : kk ≤ 1000000000000) : Ev (fun k => laws_heldIntS.f k (markI kk n) kk) (kk + n) := by
 have := heldInt_l0 n [] kk (by simp; omega) h0 (by omega)
 simpa [laws_heldIntS.f] using this
theorem markState_ev (R : Int) (l : Mid) (a b c : List Int) (hl : l.length ≤ 1048576) (ha : a.length ≤ 1048576) (hb : b.length ≤ 1048576) (hc : c.length ≤ 1048576) : Ev (fun k => laws_markState.f k R l a b c 1) (1 + 3 * (l.length : Int) + a.length + b.length + c.length, markL 1 l, markI (1 + 3 * (l.length : Int)) a.length, markI (1 + 3 * (l.length : Int) + a.length) b.length, markI (1 + 3 * (l.length : Int) + a.length + b.length) c.length) := by
 unfold laws_markState.f
 refine Ev.bind (markMesh_ev R l 1 (by omega) (by omega) (by omega)) ?_
 refine Ev.bind (markInt_ev a _ ha (by omega) (by omega)) ?_
 refine Ev.bind (markInt_ev b _ hb (by omega) (by omega)) ?_
 refine Ev.bind (markInt_ev c _ hc (by omega) (by omega)) ?_
 exact Ev.now _
theorem heldState_ev (R : Int) (l : Mid) (n1 n2 n3 : Nat) (hl : l.length ≤ 1048576) (ha : n1 ≤ 1048576) (hb : n2 ≤ 1048576) (hc : n3 ≤ 1048576) : Ev (fun k => laws_heldState.f k R (markL 1 l) (markI (1 + 3 * (l.length : Int)) n1) (markI (1 + 3 * (l.length : Int) + n1) n2) (markI (1 + 3 * (l.length : Int) + n1 + n2) n3) 1) (1 + 3 * (l.length : Int) + n1 + n2 + n3) := by
 unfold laws_heldState.f
 refine Ev.bind (heldMesh_ev R l 1 (by omega) (by omega) (by omega)) ?_
 simp only [show ¬ ((1 : Int) + 3 * (l.length : Int) < 0) by omega, if_false]
 refine Ev.bind (heldInt_ev n1 _ ha (by omega) (by omega)) ?_
 simp only [show ¬ ((1 : Int) + 3 * (l.length : Int) + n1 < 0) by omega, if_false]
 refine Ev.bind (heldInt_ev n2 _ hb (by omega) (by omega)) ?_
 simp only [show ¬ ((1 : Int) + 3 * (l.length : Int) + n1 + n2 < 0) by omega, if_false]
 refine Ev.bind (heldInt_ev n3 _ hc (by omega) (by omega)) ?_
 simp only [show ¬ ((1 : Int) + 3 * (l.length : Int) + n1 + n2 + n3 < 0) by omega, if_false]
 exact Ev.now _
theorem eqSt (R : Int) (l : Mid) (a b c : List Int) (hl : l.length ≤ 1048576) (ha : a.length ≤ 1048576) (hb : b.length ≤ 1048576) (hc : c.length ≤ 1048576) : Ev (fun k => laws_eqState.f k R l a b c R l a b c) true := by
 unfold laws_eqState.f
 refine Ev.bind (eqMesh_refl R l (by omega)) ?_
 simp only [if_true]
 refine Ev.bind (eqInt_refl a ha) ?_
 simp only [if_true]
 refine Ev.bind (eqInt_refl b hb) ?_
 simp only [if_true]
 refine Ev.bind (eqInt_refl c hc) ?_
 simp only [if_true]
 exact Ev.now _
abbrev ST := Int × Mid × List Int × List Int × List Int × Bool
def FAIL : ST := (0, [], [], [], [], false)
def massI (h : Int) (bed : List Int) (x : Cell) : Int := shr .i64 (mx 0 (wrap64 (h - rd bed x.f0))) x.f1
def massS (h : Int) (bed : List Int) (x : Cell) : Int := if rd bed x.f0 < h then shr .i64 (wrap64 (h - mx (rd bed x.f0) (-1))) (IntKind.u64.wrap x.f1) else shr .i64 0 (IntKind.u64.wrap x.f1)
def endQ (R : Int) (m : Mid) (ms bed : List Int) : ST := if stOkB R m ms (List.replicate m.length 0) bed = true then (R, m, ms, List.replicate m.length 0, bed, true) else FAIL
def fillI (R : Int) (m : Mid) (bed : List Int) (h : Int) : ST := if meshOkB R m = true ∧ (bed.length : Int) = R ∧ (0 ≤ h ∧ h ≤ 2000000) ∧ bedsOk bed = true then endQ R m (m.map (massI h bed)) bed else FAIL
def fillS (R : Int) (m : Mid) (bed : List Int) (h : Int) : ST := if balB R m = true ∧ (bed.length : Int) = R ∧ (0 ≤ h ∧ h ≤ 2000000) then endQ R m (m.map (massS h bed)) bed else FAIL
theorem meshFrom_end : ∀ (l : Mid) (a b : Int), meshFrom a l = some b → ∀ x ∈ l, endP x.f0 x.f1 x.f2 ≤ b
 | [], _, _, _ => fun x hx => by cases hx
 | y :: r, a, b, h => fun x hx => by
  rw [meshFrom] at h
  split at h
  ·
   rcases List.mem_cons.1 hx with rfl | hx
   ·
    have := meshFrom_len r _ b h; omega
   ·
    exact meshFrom_end r _ b h x hx
  ·
   cases h
theorem root_lt {R : Int} {m : Mid} (h : meshOkB R m = true) : ∀ x ∈ m, 0 ≤ x.f0 ∧ x.f0 < R := fun x hx => by
 have hid := meshOk_all h x hx
 have he := meshFrom_end m 0 _ (meshOk_from.1 h).1 x hx
 obtain ⟨h1, h2, h3, h4, h5, h6⟩ := idok_iff.1 hid
 have hw := width_pos h3 h4
 have hc := cw_bd h3 h4 h5 h6
 unfold endP startP at he
 rw [if_pos hid] at he
 omega
section
variable {R : Int} {m : Mid} {bed : List Int} {h : Int} (hok : meshOkB R m = true) (hbl : (bed.length : Int) = R) (h0 : 0 ≤ h) (h1 : h ≤ 2000000)
include hok hbl
theorem i_fill_l0 : ∀ (d j : Nat), j + d = m.length → Ev (fun k => impl_FillState.l0 k bed h m (m.length : Int) (j : Int) R m ((m.take j).map (massI h bed)) (List.replicate m.length 0) bed) (endQ R m (m.map (massI h bed)) bed) := by
 have hlen := meshOk_len hok
 intro d
 induction d with
 | zero =>
  intro j hj
  have e : m.take j = m := List.take_of_length_le (by omega)
  rw [e]
  refine Ev.step (fun k => rfl) ?_
  simp only [impl_FillState.l0, show ¬ ((j : Int) < (m.length : Int)) by omega, if_false]
  refine Ev.bind (i_st R m _ _ bed (by omega) (by simp; omega) (by omega)) ?_
  unfold endQ
  by_cases c : stOkB R m (m.map (massI h bed)) (List.replicate m.length 0) bed = true
  ·
   simp only [c, if_true]; exact Ev.now _
  ·
   simp only [c, if_false]; exact Ev.now _
 | succ d ih =>
  intro j hj
  have hjl : j < m.length := by omega
  obtain ⟨r0, r1⟩ := root_lt hok _ (List.getElem_mem hjl)
  have hlv := meshOk_lv hok _ (List.getElem_mem hjl)
  refine Ev.step (fun k => rfl) ?_
  simp only [impl_FillState.l0, show ((j : Int) < (m.length : Int)) by omega, show (0 : Int) ≤ (j : Int) by omega, if_true, rdc m j hjl, r0, show m[j].f0 < (bed.length : Int) by omega, hlv.1, show ((m.take j).map (massI h bed)).length < 17592186044416 by simp; omega, wsucc (show j < 4611686018427387904 by omega)]
  have := ih (j + 1) (by omega)
  rw [List.take_succ_eq_append_getElem hjl, List.map_append] at this
  exact this
theorem s_fill_l0 : ∀ (d j : Nat), j + d = m.length → Ev (fun k => spec_FillState.l0 k bed h (j : Int) R m R m ((m.take j).map (massS h bed)) (List.replicate j 0) bed) (endQ R m (m.map (massS h bed)) bed) := by
 have hlen := meshOk_len hok
 intro d
 induction d with
 | zero =>
  intro j hj
  have e : m.take j = m := List.take_of_length_le (by omega)
  rw [e, show j = m.length by omega]
  refine Ev.step (fun k => rfl) ?_
  simp only [spec_FillState.l0, show ¬ ((m.length : Int) < (m.length : Int)) by omega, if_false]
  refine Ev.bind (s_st R m _ _ bed (by omega) (by simp; omega) (by omega)) ?_
  unfold endQ
  by_cases c : stOkB R m (m.map (massS h bed)) (List.replicate m.length 0) bed = true
  ·
   simp only [c, if_true]; exact Ev.now _
  ·
   simp only [c, if_false]; exact Ev.now _
 | succ d ih =>
  intro j hj
  have hjl : j < m.length := by omega
  obtain ⟨r0, r1⟩ := root_lt hok _ (List.getElem_mem hjl)
  have hlv := meshOk_lv hok _ (List.getElem_mem hjl)
  have hu : (0 : Int) ≤ IntKind.u64.wrap m[j].f1 := by rw [u64_small hlv.1 (by omega)]; exact hlv.1
  have := ih (j + 1) (by omega)
  rw [List.take_succ_eq_append_getElem hjl, List.map_append, List.replicate_succ'] at this
  refine Ev.step (fun k => rfl) ?_
  simp only [spec_FillState.l0, show ((j : Int) < (m.length : Int)) by omega, show (0 : Int) ≤ (j : Int) by omega, if_true, rdc m j hjl, r0, show m[j].f0 < (bed.length : Int) by omega, hu, show ((m.take j).map (massS h bed)).length < 17592186044416 by simp; omega, show (List.replicate j (0 : Int)).length < 17592186044416 by simp; omega, wsucc (show j < 4611686018427387904 by omega)]
  by_cases c : rd bed m[j].f0 < h
  ·
   have e : massS h bed m[j] = shr .i64 (wrap64 (h - mx (rd bed m[j].f0) (-1))) (IntKind.u64.wrap m[j].f1) := by unfold massS; rw [if_pos c]
   simp only [List.map_cons, List.map_nil, e] at this
   simp only [c, if_true]
   exact this
  ·
   have e : massS h bed m[j] = shr .i64 0 (IntKind.u64.wrap m[j].f1) := by unfold massS; rw [if_neg c]
   simp only [List.map_cons, List.map_nil, e] at this
   simp only [c, if_false]
   exact this
end
theorem i_fill (R : Int) (m : Mid) (bed : List Int) (h : Int) (hm : m.length ≤ 1048576) : Ev (fun k => impl_FillState.f k R m bed h) (fillI R m bed h) := by
 have bad : ∀ (m : Mid), Ev (fun k => impl_FillState.j0 k bed h true R m) FAIL := fun m => by
  refine Ev.step (fun k => rfl) ?_
  simp only [impl_FillState.j0, if_true]
  exact Ev.now _
 unfold impl_FillState.f fillI
 refine Ev.bind (i_mesh R m (by omega)) ?_
 by_cases hok : meshOkB R m = true
 ·
  simp only [hok, if_true, true_and]
  by_cases hbl : (bed.length : Int) = R
  ·
   simp only [hbl, if_true, true_and, i_in, Option.bind_some, decide_eq_true_eq]
   by_cases hh : 0 ≤ h ∧ h ≤ 2000000
   ·
    have hlen := meshOk_len hok
    have hany : slices_ContainsFunc_int_int.f bed () = some (!bedsOk bed) := by
     unfold slices_ContainsFunc_int_int.f
     rw [any_beds]
    simp only [hh, and_self, if_true, true_and, hany, Option.bind_some]
    cases hbo : bedsOk bed with
    | true =>
     simp only [Bool.not_true, if_true]
     refine Ev.step (fun k => rfl) ?_
     have hcl : slices_Clone_int_int.f bed = some bed := by unfold slices_Clone_int_int.f; rw [if_pos (by omega)]
     simp only [impl_FillState.j0, Bool.false_eq_true, if_false, i_copy R m (by omega), Option.bind_some, show (0 : Int) ≤ (m.length : Int) by omega, if_true, Int.toNat_natCast, show m.length ≤ 35184372088832 by omega, hcl]
     exact i_fill_l0 hok hbl m.length 0 (by omega)
    | false =>
     simp only [Bool.not_false, Bool.false_eq_true, if_false]
     exact bad m
   ·
    simp only [hh, if_false, false_and]
    exact bad m
  ·
   simp only [hbl, if_false, false_and]
   exact bad m
 ·
  simp only [hok, if_false, false_and]
  exact bad m
theorem s_fill (R : Int) (m : Mid) (bed : List Int) (h : Int) (hm : m.length ≤ 1048576) : Ev (fun k => spec_FillState.f k R m bed h) (fillS R m bed h) := by
 have bad : ∀ (m : Mid), Ev (fun k => spec_FillState.j0 k bed h true R m) FAIL := fun m => by
  refine Ev.step (fun k => rfl) ?_
  simp only [spec_FillState.j0, if_true]
  exact Ev.now _
 unfold spec_FillState.f fillS
 refine Ev.bind (s_bal R m (by omega)) ?_
 by_cases hb : balB R m = true
 ·
  have hok : meshOkB R m = true := by
   unfold balB at hb
   by_cases c : meshOkB R m = true
   ·
    exact c
   ·
    rw [if_neg c] at hb; cases hb
  simp only [hb, if_true, true_and]
  by_cases hbl : (bed.length : Int) = R
  ·
   simp only [hbl, if_true, true_and, s_in, Option.bind_some]
   by_cases hh : 0 ≤ h ∧ h ≤ 2000000
   ·
    have hlen := meshOk_len hok
    simp only [hh, and_self, decide_true, Bool.not_true, if_true]
    refine Ev.step (fun k => rfl) ?_
    simp only [spec_FillState.j0, Bool.false_eq_true, if_false, s_copy R m (by omega), Option.bind_some, List.length_nil, Nat.zero_add, show bed.length < 17592186044416 by omega, if_true, List.nil_append]
    exact s_fill_l0 hok hbl m.length 0 (by omega)
   ·
    simp only [hh, decide_false, Bool.not_false, if_false]
    exact bad m
  ·
   simp only [hbl, if_false, false_and]
   exact bad m
 ·
  simp only [hb, if_false, false_and]
  exact bad m
theorem fillS_yes {R : Int} {m : Mid} {bed : List Int} {h : Int} (c : balB R m = true ∧ (bed.length : Int) = R ∧ (0 ≤ h ∧ h ≤ 2000000)) : fillS R m bed h = endQ R m (m.map (massS h bed)) bed := if_pos c
theorem fillS_no {R : Int} {m : Mid} {bed : List Int} {h : Int} (c : ¬ (balB R m = true ∧ (bed.length : Int) = R ∧ (0 ≤ h ∧ h ≤ 2000000))) : fillS R m bed h = FAIL := if_neg c
theorem fillI_yes {R : Int} {m : Mid} {bed : List Int} {h : Int} (c : meshOkB R m = true ∧ (bed.length : Int) = R ∧ (0 ≤ h ∧ h ≤ 2000000) ∧ bedsOk bed = true) : fillI R m bed h = endQ R m (m.map (massI h bed)) bed := if_pos c
theorem fillI_no {R : Int} {m : Mid} {bed : List Int} {h : Int} (c : ¬ (meshOkB R m = true ∧ (bed.length : Int) = R ∧ (0 ≤ h ∧ h ≤ 2000000) ∧ bedsOk bed = true)) : fillI R m bed h = FAIL := if_neg c
theorem endQ_no {R : Int} {m : Mid} {ms bed : List Int} (c : stOkB R m ms (List.replicate m.length 0) bed = false) : endQ R m ms bed = FAIL := by unfold endQ; rw [c]; rfl
theorem bal_ok {R : Int} {m : Mid} (hb : balB R m = true) : meshOkB R m = true := by
 unfold balB at hb
 by_cases c : meshOkB R m = true
 ·
  exact c
 ·
  rw [if_neg c] at hb; cases hb
theorem fill_same (R : Int) (m : Mid) (bed : List Int) (h : Int) : fillS R m bed h = fillI R m bed h := by
 by_cases hbl : (bed.length : Int) = R
 ·
  by_cases hh : 0 ≤ h ∧ h ≤ 2000000
  ·
   by_cases hok : meshOkB R m = true
   ·
    by_cases hbo : bedsOk bed = true
    ·
     have e : m.map (massS h bed) = m.map (massI h bed) := by
      apply List.map_congr_left
      intro x hx
      obtain ⟨r0, r1⟩ := root_lt hok x hx
      have hlv := meshOk_lv hok x hx
      have hr : 0 ≤ rd bed x.f0 ∧ rd bed x.f0 ≤ 1000000 := by
       obtain ⟨n, hn⟩ := Int.eq_ofNat_of_zero_le r0
       rw [hn, rdi bed n (by omega)]
       have := List.all_eq_true.1 hbo _ (List.getElem_mem (show n < bed.length by omega))
       exact of_decide_eq_true this
      unfold massS massI
      rw [u64_small hlv.1 (by omega)]
      by_cases c : rd bed x.f0 < h
      ·
       rw [if_pos c]
       have e1 : mx (rd bed x.f0) (-1) = rd bed x.f0 := by unfold mx; split <;> omega
       have e2 : mx 0 (wrap64 (h - rd bed x.f0)) = wrap64 (h - rd bed x.f0) := by rw [w64 (by omega) (by omega)]; unfold mx; split <;> omega
       rw [e1, e2]
      ·
       rw [if_neg c]
       have e2 : mx 0 (wrap64 (h - rd bed x.f0)) = 0 := by rw [w64 (by omega) (by omega)]; unfold mx; split <;> omega
       rw [e2]
     rw [fillI_yes ⟨hok, hbl, hh, hbo⟩]
     by_cases hb : balB R m = true
     ·
      rw [fillS_yes ⟨hb, hbl, hh⟩, e]
     ·
      rw [fillS_no (fun c => hb c.1), endQ_no]
      unfold stOkB
      rw [if_neg hb]
    ·
     rw [fillI_no (fun c => hbo c.2.2.2)]
     by_cases hb : balB R m = true
     ·
      rw [fillS_yes ⟨hb, hbl, hh⟩, endQ_no]
      unfold stOkB stTail
      rw [if_neg hbo]
      simp
     ·
      rw [fillS_no (fun c => hb c.1)]
   ·
    rw [fillS_no (fun c => hok (bal_ok c.1)), fillI_no (fun c => hok c.1)]
  ·
   rw [fillS_no (fun c => hh c.2.2), fillI_no (fun c => hh c.2.2.1)]
 ·
  rw [fillS_no (fun c => hbl c.2.1), fillI_no (fun c => hbl c.2.1)]
theorem fill_len (R : Int) (m : Mid) (bed : List Int) (h : Int) (hm : m.length ≤ 1048576) (hb : bed.length ≤ 1048576) : (fillI R m bed h).2.1.length ≤ 1048576 ∧ (fillI R m bed h).2.2.1.length ≤ 1048576 ∧ (fillI R m bed h).2.2.2.1.length ≤ 1048576 ∧ (fillI R m bed h).2.2.2.2.1.length ≤ 1048576 := by
 unfold fillI endQ
 split
 ·
  split
  ·
   exact ⟨hm, by simpa using hm, by simpa using hm, hb⟩
  ·
   simp [FAIL]
 ·
  simp [FAIL]
theorem FnExactFillState : ∀ (a0_0 : Int) (l0_1 : List S101) (l1 : List Int) (a2 : Int), l0_1.length ≤ 9223372036854775807 → l1.length ≤ 9223372036854775807 → (Lit.int .i64 a2).wf = true → ∃ k, laws_FnExactFillState.f k a0_0 l0_1 l1 a2 = some true := by
 intro R l bed h hl _ _
 refine Ev.rounds ?_
 unfold laws_FnExactFillState.f
 by_cases hbz : (bed.length : Int) > 1048576
 ·
  simp only [hbz, if_true]; exact Ev.now true
 ·
  simp only [hbz, if_false]
  simp only [sz_eq R l 1048576 hl (by omega) (by omega), Option.bind_some]
  by_cases h' : (l.length : Int) ≤ 1048576
  ·
   have h1 : ¬ ((1048576 : Int) - l.length < 0) := by omega
   have hm : (l.map conv).length ≤ 1048576 := by simp; omega
   have hbed : bed.length ≤ 1048576 := by omega
   simp only [h', if_true, h1, if_false]
   refine Ev.bind (toMesh_ev R l (by omega)) ?_
   refine Ev.bind (toInt_ev bed hbed) ?_
   have sf := s_fill R (l.map conv) bed h hm
   rw [fill_same] at sf
   refine Ev.bind sf ?_
   refine Ev.bind (toMesh_ev R l (by omega)) ?_
   refine Ev.bind (toInt_ev bed hbed) ?_
   have ip := i_fill R (l.map conv) bed h hm
   refine Ev.bind ip ?_
   obtain ⟨z1, z2, z3, z4⟩ := fill_len R (l.map conv) bed h hm hbed
   generalize fillI R (l.map conv) bed h = q at ip z1 z2 z3 z4
   obtain ⟨qR, ql, qa, qb, qc, ok⟩ := q
   simp only at z1 z2 z3 z4 ⊢
   refine Ev.bind (eqSt qR ql qa qb qc z1 z2 z3 z4) ?_
   simp only [if_true, bne_self_eq_false]
   refine Ev.step (fun k => rfl) ?_
   simp only [laws_FnExactFillState.j0, Bool.false_eq_true, if_false]
   refine Ev.bind (toMesh_ev R l (by omega)) ?_
   refine Ev.bind (eqMesh_refl _ _ (by omega)) ?_
   simp only [if_true]
   refine Ev.bind (toInt_ev bed hbed) ?_
   refine Ev.bind (eqInt_refl bed hbed) ?_
   simp only [if_true]
   refine Ev.bind (markMesh_ev R (l.map conv) 1 (by omega) (by omega) (by omega)) ?_
   refine Ev.bind (markInt_ev bed _ hbed (by omega) (by omega)) ?_
   simp only [show ¬ ((1 : Int) + 3 * ((l.map conv).length : Int) + bed.length < 0) by omega, if_false]
   refine Ev.bind (eqSt qR ql qa qb qc z1 z2 z3 z4) ?_
   simp only [if_true, bne_self_eq_false]
   refine Ev.step (fun k => rfl) ?_
   simp only [laws_FnExactFillState.j1, Bool.false_eq_true, if_false]
   refine Ev.bind (markState_ev qR ql qa qb qc z1 z2 z3 z4) ?_
   refine Ev.bind (heldState_ev qR ql qa.length qb.length qc.length z1 z2 z3 z4) ?_
   simp only [show ¬ ((1 : Int) + 3 * (ql.length : Int) + qa.length + qb.length + qc.length < 0) by omega, if_true, if_false]
   refine Ev.bind (toMesh_ev R l (by omega)) ?_
   refine Ev.bind (toInt_ev bed hbed) ?_
   refine Ev.bind ip ?_
   simp only
   refine Ev.bind (eqSt qR ql qa qb qc z1 z2 z3 z4) ?_
   simp only [if_true, bne_self_eq_false]
   refine Ev.step (fun k => rfl) ?_
   simp only [laws_FnExactFillState.j2, Bool.false_eq_true, if_false]
   refine Ev.bind (heldState_ev qR ql qa.length qb.length qc.length z1 z2 z3 z4) ?_
   simp only [show ¬ ((1 : Int) + 3 * (ql.length : Int) + qa.length + qb.length + qc.length < 0) by omega, if_true, if_false]
   exact Ev.now _
  ·
   have h1 : (-1 : Int) < 0 := by omega
   simp only [h', if_false, h1, if_true]
   exact Ev.now true
end Go.Proofs.Ytbkkehjhfgocfaa.Pure
