/- The faces of a drawn mesh: one fewer than its leaves over all levels, and each face has the higher of its two levels, for every draw (one of more than 1048576 bytes is passed over by the statement itself); no condition. -/
import Derived.Test.YtplchdejfhkmlaaCFnFaces
set_option linter.unusedSimpArgs false
set_option linter.unusedVariables false
namespace Go.Proofs.Ytplchdejfhkmlaa.Pure
open Go.RowKit Go.Proofs.Ytplchdejfhkmlaa.PFnFaces Go.Proofs.YtplchdejfhkmlaaW.PrintWords Go.Proofs.YtplchdejfhkmlaaW.PrintLast Go.Proofs.YtplchdejfhkmlaaW.PrintMore Go.Proofs.Ytplchdejfhkmlaa.CoreFnFaces

theorem cf_add (lv : Int) : ∀ (l : Mid) (c : Int), countFrom lv c l = c + countFrom lv 0 l := by
  intro l
  induction l with
  | nil => intro c; show c = c + 0; omega
  | cons x r ih =>
    cases r with
    | nil => intro c; show c = c + 0; omega
    | cons y r =>
      intro c
      show countFrom lv (if mx x.f1 y.f1 = lv then c + 1 else c) (y :: r) = c + countFrom lv (if mx x.f1 y.f1 = lv then 0 + 1 else 0) (y :: r)
      rw [ih, ih (if mx x.f1 y.f1 = lv then 0 + 1 else 0)]
      split <;> omega
theorem cf_sum : ∀ (l : Mid), l ≠ [] → Lv l → countFrom 0 0 l + countFrom 1 0 l + countFrom 2 0 l + countFrom 3 0 l + countFrom 4 0 l = (l.length : Int) - 1 := by
  intro l
  induction l with
  | nil => intro h; exact absurd rfl h
  | cons x r ih =>
    cases r with
    | nil => intro _ _; rfl
    | cons y r =>
      intro _ hv
      have hr := ih (by simp) (fun z hz => hv z (List.mem_cons_of_mem _ hz))
      have hx := hv x (List.mem_cons_self ..)
      have hy := hv y (List.mem_cons_of_mem _ (List.mem_cons_self ..))
      have e : ∀ lv, countFrom lv 0 (x :: y :: r) = (if mx x.f1 y.f1 = lv then 0 + 1 else 0) + countFrom lv 0 (y :: r) := fun lv => cf_add lv (y :: r) _
      rw [e, e, e, e, e]
      have hm : 0 ≤ mx x.f1 y.f1 ∧ mx x.f1 y.f1 ≤ 4 := by unfold mx; split <;> omega
      rw [List.length_cons] at hr
      rw [List.length_cons, List.length_cons]
      generalize mx x.f1 y.f1 = q at hm
      generalize countFrom 0 0 (y :: r) = q0 at hr ⊢
      generalize countFrom 1 0 (y :: r) = q1 at hr ⊢
      generalize countFrom 2 0 (y :: r) = q2 at hr ⊢
      generalize countFrom 3 0 (y :: r) = q3 at hr ⊢
      generalize countFrom 4 0 (y :: r) = q4 at hr ⊢
      split <;> split <;> split <;> split <;> split <;> omega
theorem cf_bd (lv : Int) : ∀ (l : Mid), 0 ≤ countFrom lv 0 l ∧ countFrom lv 0 l ≤ l.length := by
  intro l
  induction l with
  | nil => exact ⟨Int.le_refl _, Int.le_refl _⟩
  | cons x r ih =>
    cases r with
    | nil => exact ⟨Int.le_refl _, by show (0 : Int) ≤ _; omega⟩
    | cons y r =>
      have e : countFrom lv 0 (x :: y :: r) = (if mx x.f1 y.f1 = lv then 0 + 1 else 0) + countFrom lv 0 (y :: r) := cf_add lv (y :: r) _
      rw [e, List.length_cons]
      split <;> omega
theorem l1_ev (R : Int) (m : Mid) (hm : meshOkB R m = true) (hl : m.length ≤ 48) (h0 : 1 ≤ m.length) : ∀ (d i : Nat), i + 1 + d = m.length → Ev (fun k => laws_FnFaces.l1 k ((m.length : Int) - 1) (i : Int) R m) true := by
  intro d
  induction d with
  | zero =>
    intro i h
    refine Ev.step (fun k => rfl) ?_
    have h1 : ¬ ((i : Int) + 1 < (m.length : Int)) := by omega
    simp only [laws_FnFaces.l1, w64 (n := (i : Int) + 1) (by omega) (by omega), w64 (n := (m.length : Int) - 1) (by omega) (by omega), h1, if_false, if_true]
    refine Ev.bind (i_face R m _ (by omega)) ?_
    have h2 : faceB R m ((m.length : Int) - 1) = -1 := by
      unfold faceB
      rw [if_pos hm, if_neg (by omega)]
    rw [h2]
    exact Ev.now _
  | succ d ih =>
    intro i h
    refine Ev.step (fun k => rfl) ?_
    have h1 : (i : Int) + 1 < (m.length : Int) := by omega
    have h3 : (0 : Int) ≤ (i : Int) := by omega
    have h4 : (i : Int) < (m.length : Int) := by omega
    have h5 : (0 : Int) ≤ (i : Int) + 1 := by omega
    simp only [laws_FnFaces.l1, w64 (n := (i : Int) + 1) (by omega) (by omega), h1, h3, h4, h5, if_true]
    refine Ev.bind (i_face R m _ (by omega)) ?_
    have h2 : faceB R m (i : Int) = mx (rd_T25 m (i : Int)).f1 (rd_T25 m ((i : Int) + 1)).f1 := by
      unfold faceB
      rw [if_pos hm, if_pos (by omega)]
    rw [h2]
    simp only [if_true]
    have := ih (i + 1) (by omega)
    simpa using this
theorem FnFaces : laws_FnFaces.Pure := by
  intro l _ _ _
  refine Ev.rounds ?_
  unfold laws_FnFaces.f
  simp only [big_eq, Option.bind_some, decide_eq_true_eq]
  by_cases h : (l.length : Int) > 1048576
  · simp only [h, if_true]; exact Ev.now _
  · simp only [h, if_false]
    obtain ⟨R, m, e, hm, h1, h2, h3⟩ := s_drawMesh l (by omega)
    refine Ev.bind e ?_
    have hne := meshOk_ne hm
    have hpos : 1 ≤ m.length := by
      cases m with
      | nil => exact absurd rfl hne
      | cons x r => simp
    have hc : ∀ lv, Ev (fun k => impl_CountFaces.f k R m lv) (countFrom lv 0 m) := fun lv => by
      have := i_count R lv m (by omega)
      unfold countB at this
      rwa [if_pos hm] at this
    have hsum := cf_sum m hne (meshOk_lv hm)
    have b0 := cf_bd 0 m
    have b1 := cf_bd 1 m
    have b2 := cf_bd 2 m
    have b3 := cf_bd 3 m
    have b4 := cf_bd 4 m
    have z0 : wrap64 (0 + 1) = 1 := by rw [w64 (by omega) (by omega)]; rfl
    have z1 : wrap64 (1 + 1) = 2 := by rw [w64 (by omega) (by omega)]; rfl
    have z2 : wrap64 (2 + 1) = 3 := by rw [w64 (by omega) (by omega)]; rfl
    have z3 : wrap64 (3 + 1) = 4 := by rw [w64 (by omega) (by omega)]; rfl
    have z4 : wrap64 (4 + 1) = 5 := by rw [w64 (by omega) (by omega)]; rfl
    refine Ev.step (fun k => rfl) ?_
    simp only [laws_FnFaces.l0, show (0 : Int) ≤ 4 by omega, if_true]
    refine Ev.bind (hc 0) ?_
    rw [z0, w64 (n := 0 + countFrom 0 0 m) (by omega) (by omega)]
    refine Ev.step (fun k => rfl) ?_
    simp only [laws_FnFaces.l0, show (1 : Int) ≤ 4 by omega, if_true]
    refine Ev.bind (hc 1) ?_
    rw [z1, w64 (n := 0 + countFrom 0 0 m + countFrom 1 0 m) (by omega) (by omega)]
    refine Ev.step (fun k => rfl) ?_
    simp only [laws_FnFaces.l0, show (2 : Int) ≤ 4 by omega, if_true]
    refine Ev.bind (hc 2) ?_
    rw [z2, w64 (n := 0 + countFrom 0 0 m + countFrom 1 0 m + countFrom 2 0 m) (by omega) (by omega)]
    refine Ev.step (fun k => rfl) ?_
    simp only [laws_FnFaces.l0, show (3 : Int) ≤ 4 by omega, if_true]
    refine Ev.bind (hc 3) ?_
    rw [z3, w64 (n := 0 + countFrom 0 0 m + countFrom 1 0 m + countFrom 2 0 m + countFrom 3 0 m) (by omega) (by omega)]
    refine Ev.step (fun k => rfl) ?_
    simp only [laws_FnFaces.l0, show (4 : Int) ≤ 4 by omega, if_true]
    refine Ev.bind (hc 4) ?_
    rw [z4, w64 (n := 0 + countFrom 0 0 m + countFrom 1 0 m + countFrom 2 0 m + countFrom 3 0 m + countFrom 4 0 m) (by omega) (by omega)]
    refine Ev.step (fun k => rfl) ?_
    simp only [laws_FnFaces.l0, show ¬ ((5 : Int) ≤ 4) by omega, if_false]
    rw [show 0 + countFrom 0 0 m + countFrom 1 0 m + countFrom 2 0 m + countFrom 3 0 m + countFrom 4 0 m = (m.length : Int) - 1 by omega]
    exact l1_ev R m hm h3 hpos (m.length - 1) 0 (by omega)

end Go.Proofs.Ytplchdejfhkmlaa.Pure
