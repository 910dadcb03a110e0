/- The leaves of a drawn mesh cover it: each position lies in exactly the leaf that LeafAt answers, no position outside has one, for every draw (one of more than 1048576 bytes is passed over by the statement itself); no condition. -/
import Derived.Test.YtplchdejfhkmlaaCFnCovered
set_option linter.unusedSimpArgs false
set_option linter.unusedVariables false
namespace Go.Proofs.Ytplchdejfhkmlaa.Pure
open Go.RowKit Go.Proofs.Ytplchdejfhkmlaa.PFnCovered Go.Proofs.YtplchdejfhkmlaaW.PrintWords Go.Proofs.YtplchdejfhkmlaaW.PrintLast Go.Proofs.YtplchdejfhkmlaaW.PrintMore Go.Proofs.Ytplchdejfhkmlaa.CoreFnCovered

theorem wpos {x : Cell} (h : idokB x.f0 x.f1 x.f2 = true) : startP x.f0 x.f1 x.f2 < endP x.f0 x.f1 x.f2 := by
  obtain ⟨h0, h1, h2, h3, h4, h5⟩ := idok_iff.1 h
  have := width_pos h2 h3
  unfold endP
  omega
theorem from_cons {a b : Int} {x : Cell} {r : Mid} (h : meshFrom a (x :: r) = some b) : idokB x.f0 x.f1 x.f2 = true ∧ startP x.f0 x.f1 x.f2 = a ∧ meshFrom (endP x.f0 x.f1 x.f2) r = some b := by
  unfold meshFrom at h
  by_cases c : idokB x.f0 x.f1 x.f2 = true ∧ startP x.f0 x.f1 x.f2 = a
  · rw [if_pos c] at h; exact ⟨c.1, c.2, h⟩
  · rw [if_neg c] at h; cases h
theorem from_bd : ∀ (l : Mid) (a b : Int), meshFrom a l = some b → a ≤ b ∧ ∀ x ∈ l, a ≤ startP x.f0 x.f1 x.f2 := by
  intro l
  induction l with
  | nil => intro a b h; exact ⟨by have := Option.some.inj h; omega, fun x hx => by cases hx⟩
  | cons x r ih =>
    intro a b h
    obtain ⟨h1, h2, h3⟩ := from_cons h
    have := ih _ _ h3
    have hw := wpos h1
    refine ⟨by omega, fun y hy => ?_⟩
    rcases List.mem_cons.1 hy with rfl | hy
    · omega
    · have := this.2 y hy; omega
theorem go_out (p : Int) : ∀ (l : Mid) (a b : Int) (i : Nat), meshFrom a l = some b → (p < a ∨ b ≤ p) → leafGo p i l = -1 := by
  intro l
  induction l with
  | nil => intro a b i _ _; rfl
  | cons x r ih =>
    intro a b i h hp
    obtain ⟨h1, h2, h3⟩ := from_cons h
    have hw := wpos h1
    have hb := (from_bd r _ _ h3).1
    unfold leafGo
    rw [if_neg (by omega)]
    exact ih _ _ _ h3 (by omega)
theorem go_in (p : Int) : ∀ (l : Mid) (a b : Int) (i : Nat), meshFrom a l = some b → a ≤ p → p < b → ∃ (j : Nat) (hj : j < l.length), leafGo p i l = ((i + j : Nat) : Int) ∧ startP l[j].f0 l[j].f1 l[j].f2 ≤ p ∧ p < endP l[j].f0 l[j].f1 l[j].f2 ∧ leafFrom l[j] i l = ((i + j : Nat) : Int) := by
  intro l
  induction l with
  | nil => intro a b i h h1 h2; have := Option.some.inj h; omega
  | cons x r ih =>
    intro a b i h hp1 hp2
    obtain ⟨h1, h2, h3⟩ := from_cons h
    have hw := wpos h1
    by_cases hin : p < endP x.f0 x.f1 x.f2
    · refine ⟨0, by simp, ?_, ?_, hin, ?_⟩
      · unfold leafGo; rw [if_pos ⟨by omega, hin⟩]; rfl
      · show startP x.f0 x.f1 x.f2 ≤ p; omega
      · show leafFrom x i (x :: r) = _
        unfold leafFrom; rw [if_pos rfl]; rfl
    · obtain ⟨j, hj, q1, q2, q3, q4⟩ := ih _ _ (i + 1) h3 (by omega) hp2
      refine ⟨j + 1, by rw [List.length_cons]; omega, ?_, q2, q3, ?_⟩
      · unfold leafGo; rw [if_neg (fun h => hin h.2), q1]; congr 1; omega
      · show leafFrom r[j] i (x :: r) = _
        unfold leafFrom
        have hne : ¬ x = r[j] := by
          intro e
          have := (from_bd r _ _ h3).2 r[j] (List.getElem_mem hj)
          rw [← e] at this
          omega
        rw [if_neg hne, q4]; congr 1; omega
theorem l0_ev (R : Int) (m : Mid) (hm : meshOkB R m = true) (hf : meshFrom 0 m = some (R * 16)) (h1 : 1 ≤ R) (h3 : R ≤ 3) (hl : m.length ≤ 48) : ∀ (d p : Nat), (p : Int) + d = R * 16 → Ev (fun k => laws_FnCovered.l0 k (R * 16) (p : Int) R m) true := by
  have hla : ∀ q, Ev (fun k => impl_LeafAt.f k R m q) (leafGo q 0 m) := fun q => by
    have := i_leafAt R m q (by omega)
    unfold leafAtB at this
    rwa [if_pos hm] at this
  intro d
  induction d with
  | zero =>
    intro p hp
    refine Ev.step (fun k => rfl) ?_
    have c : ¬ ((p : Int) < R * 16) := by omega
    simp only [laws_FnCovered.l0, c, if_false]
    refine Ev.bind (hla (-1)) ?_
    rw [go_out (-1) m 0 (R * 16) 0 hf (by omega)]
    simp only [if_true]
    refine Ev.bind (hla (R * 16)) ?_
    rw [go_out (R * 16) m 0 (R * 16) 0 hf (by omega)]
    simp only [if_true]
    refine Ev.bind (i_mesh R m (by omega)) ?_
    rw [hm]; exact Ev.now _
  | succ d ih =>
    intro p hp
    refine Ev.step (fun k => rfl) ?_
    have c : (p : Int) < R * 16 := by omega
    simp only [laws_FnCovered.l0, c, if_true]
    refine Ev.bind (hla p) ?_
    obtain ⟨j, hj, q1, q2, q3, q4⟩ := go_in (p : Int) m 0 (R * 16) 0 hf (by omega) c
    rw [q1, Nat.zero_add]
    have c1 : ¬ ((j : Int) < 0) := by omega
    have c2 : ¬ ((j : Int) ≥ (m.length : Int)) := by omega
    simp only [c1, c2, if_false, decide_false]
    refine Ev.step (fun k => rfl) ?_
    have c3 : (0 : Int) ≤ (j : Int) := by omega
    have c4 : (j : Int) < (m.length : Int) := by omega
    have c5 : ¬ (startP m[j].f0 m[j].f1 m[j].f2 > (p : Int)) := by omega
    have c6 : ¬ ((p : Int) ≥ endP m[j].f0 m[j].f1 m[j].f2) := by omega
    simp only [laws_FnCovered.j1, c3, c4, if_true, Bool.false_eq_true, if_false, rdc m j hj, s_start, s_width, Option.bind_some, c5, end_wrap, c6]
    refine Ev.bind (i_leafOf R _ _ _ m (by omega)) ?_
    rw [q4, Nat.zero_add]
    simp only [if_true, wsucc (show p < 4611686018427387904 by omega)]
    exact ih (p + 1) (by omega)
theorem FnCovered : laws_FnCovered.Pure := by
  intro l _ _ _
  refine Ev.rounds ?_
  unfold laws_FnCovered.f
  simp only [big_eq, Option.bind_some, decide_eq_true_eq]
  by_cases h : (l.length : Int) > 1048576
  · simp only [h, if_true]; exact Ev.now _
  · simp only [h, if_false]
    obtain ⟨R, m, e, hm, h1, h2, h3⟩ := s_drawMesh l (by omega)
    refine Ev.bind e ?_
    obtain ⟨a, ha, _, _, rfl⟩ := meshFin_true hm
    have hw : wrap64 (R * 16) = R * 16 := w64 (by omega) (by omega)
    rw [hw]
    exact l0_ev R m hm ha h1 h2 h3 (R * 16).toNat 0 (by omega)

end Go.Proofs.Ytplchdejfhkmlaa.Pure
