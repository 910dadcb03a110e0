/- FormatMesh of the program and of the reference answer alike, for every mesh (a mesh of more than 1048576 leaves is passed over by the statement itself); the mesh reads as before; no condition. -/
import Derived.Test.YtpjmlgcpeebkdaaDoorCFnExactFormatMesh
import Derived.Lib.ItoaNum
set_option linter.unusedSimpArgs false
namespace Go.Proofs.YtpjmlgcpeebkdaaDoor.Pure
open Go.RowKit Go.Proofs.YtpjmlgcpeebkdaaDoor.PFnExactFormatMesh Go.Proofs.YtpjmlgcpeebkdaaDoorW.PrintWords Go.Proofs.YtpjmlgcpeebkdaaDoorW.PrintLast Go.Proofs.YtpjmlgcpeebkdaaDoorW.PrintMore Go.Proofs.YtpjmlgcpeebkdaaDoor.CoreFnExactFormatMesh

/-! the text of a mesh: a figure a leaf, a bar between roots -/
def txtI : Option Int → Mid → List Int
  | _, [] => []
  | p, x :: r => (if p.getD x.f0 = x.f0 then [] else [124]) ++ (48 + x.f1) :: txtI (some x.f0) r
def fmtP (R : Int) (l : Mid) : ByteArray := if meshOkB R l = true then strOfNums (txtI none l) else ⟨#[]⟩
theorem go_txt : ∀ (l : Mid) (p : Option Int), (∀ x ∈ l, 0 ≤ x.f1 ∧ x.f1 ≤ 4) → impl_FormatMesh.go p l = some ((txtI p l).map fun n => UInt8.ofNat n.toNat)
  | [], _, _ => rfl
  | x :: r, p, h => by
    have hx := h x (by simp)
    have hf : impl_FormatInt.f x.f1 = some ⟨#[UInt8.ofNat (48 + x.f1.toNat)]⟩ := by
      unfold impl_FormatInt.f strconv_Itoa.f
      rw [if_pos hx.1, if_pos (by omega), Lib.decDigits_one (by omega)]
      rfl
    unfold impl_FormatMesh.go txtI
    rw [hf, Option.bind_some, go_txt r (some x.f0) (fun y hy => h y (by simp [hy])), Option.bind_some]
    have e : (48 + x.f1).toNat = 48 + x.f1.toNat := by omega
    by_cases c : p.getD x.f0 = x.f0
    · simp [c, e]
    · simp [c, e]
theorem i_fmt (R : Int) (l : Mid) (hl : l.length ≤ 1048576) : Ev (fun k => impl_FormatMesh.f k R l) (fmtP R l) := by
  unfold impl_FormatMesh.f fmtP
  refine Ev.bind (i_mesh R l (by omega)) ?_
  by_cases h : meshOkB R l = true
  · simp only [h, if_true, hl]
    rw [go_txt l none (meshOk_lv h), Option.bind_some]
    exact Ev.now _
  · simp only [h, if_false]
    exact Ev.now _
def prevAt (l : Mid) (i : Nat) : Option Int := if i = 0 then none else some (rd_T69 l ((i : Int) - 1)).f0
theorem s_fmt_l0 (R : Int) (l : Mid) (hl : l.length ≤ 1048576) (hm : meshOkB R l = true) : ∀ (d i : Nat) (acc : List Int), i + d = l.length → acc.length ≤ 2 * i → Ev (fun k => spec_FormatMesh.l0 k acc (i : Int) R l) (strOfNums (acc ++ txtI (prevAt l i) (l.drop i))) := by
  intro d
  induction d with
  | zero =>
    intro i acc h ha
    refine Ev.step (fun k => rfl) ?_
    simp only [spec_FormatMesh.l0, show ¬ ((i : Int) < (l.length : Int)) by omega, if_false]
    refine Ev.step (fun k => rfl) ?_
    rw [List.drop_eq_nil_of_le (by omega)]
    simp only [spec_FormatMesh.j1, Bool.false_eq_true, if_false, txtI, List.append_nil]
    exact Ev.now _
  | succ d ih =>
    intro i acc h ha
    have h2 : i < l.length := by omega
    have hx := meshOk_lv hm l[i] (List.getElem_mem h2)
    have e48 : wrap64 (48 + l[i].f1) % 256 = 48 + l[i].f1 := by rw [w64 (by omega) (by omega)]; omega
    have hp : prevAt l (i + 1) = some l[i].f0 := by
      unfold prevAt
      rw [if_neg (by omega), show ((i + 1 : Nat) : Int) - 1 = (i : Int) by omega, rdc l i h2]
    refine Ev.step (fun k => rfl) ?_
    simp only [spec_FormatMesh.l0, show ((i : Int) < (l.length : Int)) by omega, if_true]
    refine Ev.bind (s_mesh R l (by omega)) ?_
    refine Ev.step (fun k => rfl) ?_
    rw [List.drop_eq_getElem_cons h2]
    simp only [spec_FormatMesh.j1, hm, if_true, rdc l i h2, e48, wsucc (show i < 4611686018427387904 by omega), show (0 : Int) ≤ (i : Int) by omega, show ((i : Int) < (l.length : Int)) by omega]
    by_cases h0 : (i : Int) > 0
    · have hw : wrap64 ((i : Int) - 1) = (i : Int) - 1 := w64 (by omega) (by omega)
      have hpi : prevAt l i = some (rd_T69 l ((i : Int) - 1)).f0 := by unfold prevAt; rw [if_neg (by omega)]
      simp only [h0, if_true, hw, show (0 : Int) ≤ (i : Int) - 1 by omega, show (i : Int) - 1 < (l.length : Int) by omega]
      rw [hpi]
      generalize rd_T69 l ((i : Int) - 1) = y
      by_cases he : l[i].f0 = y.f0
      · have e := ih (i + 1) (acc ++ [48 + l[i].f1]) (by omega) (by simp; omega)
        rw [hp] at e
        simp only [he, if_true, show acc.length < 140737488355328 by omega, txtI, Option.getD_some, List.nil_append]
        rw [List.append_assoc, he] at e
        exact e
      · have e := ih (i + 1) (acc ++ [124] ++ [48 + l[i].f1]) (by omega) (by simp; omega)
        rw [hp] at e
        have he' : ¬ y.f0 = l[i].f0 := fun z => he z.symm
        simp only [he, he', if_false, show acc.length < 140737488355328 by omega, if_true, Option.bind_some, show (acc ++ [124]).length < 140737488355328 by simp; omega, txtI, Option.getD_some]
        rw [show acc ++ [124] ++ [48 + l[i].f1] ++ txtI (some l[i].f0) (l.drop (i + 1)) = acc ++ ([124] ++ (48 + l[i].f1) :: txtI (some l[i].f0) (l.drop (i + 1))) by simp] at e
        exact e
    · have hpi : prevAt l i = none := by unfold prevAt; rw [if_pos (by omega)]
      have e := ih (i + 1) (acc ++ [48 + l[i].f1]) (by omega) (by simp; omega)
      rw [hp] at e
      rw [hpi]
      simp only [h0, if_false, show acc.length < 140737488355328 by omega, if_true, txtI, Option.getD_none, List.nil_append]
      rw [List.append_assoc] at e
      exact e
theorem s_fmt (R : Int) (l : Mid) (hl : l.length ≤ 1048576) : Ev (fun k => spec_FormatMesh.f k R l) (fmtP R l) := by
  unfold spec_FormatMesh.f
  by_cases hm : meshOkB R l = true
  · have := s_fmt_l0 R l hl hm l.length 0 [] (by omega) (by simp)
    simpa [fmtP, hm, prevAt] using this
  · rw [show fmtP R l = ⟨#[]⟩ by unfold fmtP; rw [if_neg hm]]
    refine Ev.step (fun k => rfl) ?_
    simp only [spec_FormatMesh.l0]
    by_cases h : (0 : Int) < (l.length : Int)
    · simp only [h, if_true]
      refine Ev.bind (s_mesh R l (by omega)) ?_
      refine Ev.step (fun k => rfl) ?_
      simp only [spec_FormatMesh.j1, hm, if_false]
      exact Ev.now _
    · simp only [h, if_false]
      refine Ev.step (fun k => rfl) ?_
      simp only [spec_FormatMesh.j1, Bool.false_eq_true, if_false]
      exact Ev.now _


theorem FnExactFormatMesh : ∀ (a0_0 : Int) (l0_1 : List S97), l0_1.length ≤ 9223372036854775807 → ∃ k, laws_FnExactFormatMesh.f k a0_0 l0_1 = some true := by
  intro R l hl 
  refine Ev.rounds ?_
  unfold laws_FnExactFormatMesh.f
  simp only [sz_eq R l 1048576 hl (by omega) (by omega), Option.bind_some]
  by_cases h : (l.length : Int) ≤ 1048576
  · have h1 : ¬ ((1048576 : Int) - l.length < 0) := by omega
    have hm : (l.map conv).length < 4611686018427387904 := by simp; omega
    have hm2 : (l.map conv).length ≤ 1048576 := by simp; omega
    simp only [h, if_true, h1, if_false]
    refine Ev.bind (toMesh_ev R l (by omega)) ?_
    refine Ev.bind (s_fmt _ _ hm2) ?_
    refine Ev.bind (toMesh_ev R l (by omega)) ?_
    refine Ev.bind (i_fmt _ _ hm2) ?_
    simp only [if_true]
    refine Ev.bind (toMesh_ev R l (by omega)) ?_
    refine Ev.bind (eqMesh_refl _ _ hm) ?_
    exact Ev.now true
  · have h1 : (-1 : Int) < 0 := by omega
    simp only [h, if_false, h1, if_true]
    exact Ev.now true

end Go.Proofs.YtpjmlgcpeebkdaaDoor.Pure
