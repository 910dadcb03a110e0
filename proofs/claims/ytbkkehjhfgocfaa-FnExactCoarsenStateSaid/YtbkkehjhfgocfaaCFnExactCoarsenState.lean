/- What the printed functions beneath FnExactCoarsenState compute, in plain words on numbers and lists; no condition of its own. -/
import Derived.Test.YtbkkehjhfgocfaaPFnExactCoarsenStatex26
set_option linter.unusedVariables false
set_option linter.unusedSimpArgs false
namespace Go.Proofs.Ytbkkehjhfgocfaa.CoreFnExactCoarsenState
open Go.RowKit Go.Proofs.Ytbkkehjhfgocfaa.PFnExactCoarsenState Go.Proofs.YtbkkehjhfgocfaaW.PrintWords Go.Proofs.YtbkkehjhfgocfaaW.PrintLast Go.Proofs.YtbkkehjhfgocfaaW.PrintMore

theorem w64 {n : Int} (h : -9223372036854775808 ≤ n) (h' : n ≤ 9223372036854775807) : wrap64 n = n := by unfold wrap64; omega
theorem wsucc {i : Nat} (h : i < 4611686018427387904) : wrap64 ((i : Int) + 1) = ((i + 1 : Nat) : Int) := by rw [w64 (by omega) (by omega)]; omega
theorem wlen1 {n : Nat} (h : n < 4611686018427387904) : wrap64 ((n : Int) - 1) = (n : Int) - 1 := w64 (by omega) (by omega)
theorem level_cases {b : Int} (h0 : 0 ≤ b) (h1 : b ≤ 4) : b = 0 ∨ b = 1 ∨ b = 2 ∨ b = 3 ∨ b = 4 := by omega
theorem u64_small {b : Int} (h0 : 0 ≤ b) (h1 : b ≤ 9223372036854775807) : IntKind.u64.wrap b = b := by
  rw [IntKind.wrap_u64]; omega
theorem shl1 {b : Int} (h0 : 0 ≤ b) (h1 : b ≤ 4) : shl .i64 1 b = 2 ^ b.toNat := by
  obtain rfl | rfl | rfl | rfl | rfl := level_cases h0 h1 <;> rfl
theorem shr16 {b : Int} (h0 : 0 ≤ b) (h1 : b ≤ 4) : shr .i64 16 b = 16 / 2 ^ b.toNat := by
  obtain rfl | rfl | rfl | rfl | rfl := level_cases h0 h1 <;> rfl

/-! cells -/
def idokB (a b c : Int) : Bool := decide (0 ≤ a ∧ a ≤ 7 ∧ 0 ≤ b ∧ b ≤ 4 ∧ 0 ≤ c ∧ c < 2 ^ b.toNat)
def widthP (b : Int) : Int := if 0 ≤ b ∧ b ≤ 4 then 16 / 2 ^ b.toNat else 0
def startP (a b c : Int) : Int := if idokB a b c = true then a * 16 + c * widthP b else -1
def endP (a b c : Int) : Int := startP a b c + widthP b
theorem idok_iff {a b c : Int} : idokB a b c = true ↔ (0 ≤ a ∧ a ≤ 7 ∧ 0 ≤ b ∧ b ≤ 4 ∧ 0 ≤ c ∧ c < 2 ^ b.toNat) := by unfold idokB; exact decide_eq_true_iff
theorem width_pos {b : Int} (h0 : 0 ≤ b) (h1 : b ≤ 4) : 1 ≤ widthP b ∧ widthP b ≤ 16 ∧ widthP b * 2 ^ b.toNat = 16 := by
  obtain rfl | rfl | rfl | rfl | rfl := level_cases h0 h1 <;> decide
theorem width_bd (b : Int) : 0 ≤ widthP b ∧ widthP b ≤ 16 := by
  by_cases h : 0 ≤ b ∧ b ≤ 4
  · have := width_pos h.1 h.2; omega
  · unfold widthP; rw [if_neg h]; omega
theorem cw_bd {b c : Int} (h0 : 0 ≤ b) (h1 : b ≤ 4) (h2 : 0 ≤ c) (h3 : c < 2 ^ b.toNat) : 0 ≤ c * widthP b ∧ c * widthP b + widthP b ≤ 16 := by
  obtain rfl | rfl | rfl | rfl | rfl := level_cases h0 h1
  · have : widthP 0 = 16 := by decide
    rw [this]; have h3' : c < 1 := h3; omega
  · have : widthP 1 = 8 := by decide
    rw [this]; have h3' : c < 2 := h3; omega
  · have : widthP 2 = 4 := by decide
    rw [this]; have h3' : c < 4 := h3; omega
  · have : widthP 3 = 2 := by decide
    rw [this]; have h3' : c < 8 := h3; omega
  · have : widthP 4 = 1 := by decide
    rw [this]; have h3' : c < 16 := h3; omega
theorem start_bd (a b c : Int) : -1 ≤ startP a b c ∧ startP a b c ≤ 127 := by
  unfold startP
  by_cases h : idokB a b c = true
  · rw [if_pos h]
    obtain ⟨h0, h1, h2, h3, h4, h5⟩ := idok_iff.1 h
    have := cw_bd h2 h3 h4 h5
    have := width_pos h2 h3
    omega
  · rw [if_neg h]; omega

theorem s_in (a b c : Int) : spec_l01In.f a b c = some (decide (b ≤ a ∧ a ≤ c)) := by
  unfold spec_l01In.f
  by_cases h : b ≤ a
  · simp [h]
  · simp [h]
theorem i_in (a b c : Int) : impl_within.f a b c = some (decide (b ≤ a ∧ a ≤ c)) := by
  unfold impl_within.f
  by_cases h : b ≤ a
  · simp [h]
  · simp [h]
theorem i_level (b : Int) : impl_isLevel.f b = some (decide (0 ≤ b ∧ b ≤ 4)) := by
  unfold impl_isLevel.f; rw [i_in]; rfl
theorem s_idok (a b c : Int) : spec_IdOk.f a b c = some (idokB a b c) := by
  unfold spec_IdOk.f idokB
  simp only [s_in, Option.bind_some, decide_eq_true_eq]
  by_cases h1 : 0 ≤ a ∧ a ≤ 7
  · rw [if_pos h1]
    by_cases h2 : 0 ≤ b ∧ b ≤ 4
    · rw [if_pos h2, u64_small h2.1 (by omega), if_pos h2.1, shl1 h2.1 h2.2]
      by_cases h3 : c ≥ 0
      · rw [if_pos h3]; congr 1; simp [h1, h2, h3]
      · rw [if_neg h3]; congr 1; simp; omega
    · rw [if_neg h2]; congr 1; simp; omega
  · rw [if_neg h1]; congr 1; simp; omega
theorem i_idok (a b c : Int) : impl_IdOk.f a b c = some (idokB a b c) := by
  unfold impl_IdOk.f idokB
  simp only [i_in, i_level, Option.bind_some, decide_eq_true_eq]
  by_cases h1 : 0 ≤ a ∧ a ≤ 7
  · rw [if_pos h1]
    by_cases h2 : 0 ≤ b ∧ b ≤ 4
    · have hp : (1 : Int) ≤ 2 ^ b.toNat ∧ (2 : Int) ^ b.toNat ≤ 16 := by obtain rfl | rfl | rfl | rfl | rfl := level_cases h2.1 h2.2 <;> decide
      rw [if_pos h2, if_pos h2.1, shl1 h2.1 h2.2, w64 (by omega) (by omega)]
      congr 1; rw [decide_eq_decide]; constructor <;> intro h <;> omega
    · rw [if_neg h2]; congr 1; simp; omega
  · rw [if_neg h1]; congr 1; simp; omega
theorem s_width (b : Int) : spec_WidthOf.f b = some (widthP b) := by
  unfold spec_WidthOf.f widthP
  simp only [s_in, Option.bind_some, decide_eq_true_eq]
  by_cases h2 : 0 ≤ b ∧ b ≤ 4
  · rw [if_pos h2, if_pos h2, u64_small h2.1 (by omega), if_pos h2.1, shr16 h2.1 h2.2]
  · rw [if_neg h2, if_neg h2]
theorem i_width (b : Int) : impl_WidthOf.f b = some (widthP b) := by
  unfold impl_WidthOf.f widthP
  simp only [i_level, Option.bind_some, decide_eq_true_eq]
  by_cases h2 : 0 ≤ b ∧ b ≤ 4
  · rw [if_pos h2, if_pos h2, if_pos h2.1, shr16 h2.1 h2.2]
  · rw [if_neg h2, if_neg h2]
theorem start_wrap {a b c : Int} (h : idokB a b c = true) : wrap64 (wrap64 (a * 16) + wrap64 (c * widthP b)) = a * 16 + c * widthP b := by
  obtain ⟨h0, h1, h2, h3, h4, h5⟩ := idok_iff.1 h
  have h6 := cw_bd h2 h3 h4 h5
  have h7 := width_pos h2 h3
  rw [w64 (n := a * 16) (by omega) (by omega), w64 (n := c * widthP b) (by omega) (by omega), w64 (by omega) (by omega)]
theorem s_start (a b c : Int) : spec_StartOf.f a b c = some (startP a b c) := by
  unfold spec_StartOf.f startP
  simp only [s_idok, s_width, Option.bind_some]
  by_cases h : idokB a b c = true
  · rw [if_pos h, if_pos h, start_wrap h]
  · rw [if_neg h, if_neg h]
theorem i_start (a b c : Int) : impl_StartOf.f a b c = some (startP a b c) := by
  unfold impl_StartOf.f startP
  simp only [i_idok, i_width, Option.bind_some]
  by_cases h : idokB a b c = true
  · rw [if_pos h, if_pos h, start_wrap h]
  · rw [if_neg h, if_neg h]
theorem end_wrap (a b c : Int) : wrap64 (startP a b c + widthP b) = endP a b c := by
  have h1 := start_bd a b c
  have h2 := width_bd b
  rw [w64 (by omega) (by omega)]; rfl
theorem s_end (a b c : Int) : spec_l04End.f a b c = some (endP a b c) := by
  unfold spec_l04End.f
  simp only [s_start, s_width, Option.bind_some, end_wrap]
theorem i_end (a b c : Int) : impl_endOf.f a b c = some (endP a b c) := by
  unfold impl_endOf.f
  simp only [i_start, i_width, Option.bind_some, end_wrap]

/-! lists of cells -/
abbrev Cell := S36
abbrev Mid := List Cell
theorem cell_ext {x y : Cell} : x = y ↔ x.f0 = y.f0 ∧ x.f1 = y.f1 ∧ x.f2 = y.f2 := by
  obtain ⟨a, b, c⟩ := x
  obtain ⟨a', b', c'⟩ := y
  simp
instance : DecidableEq Cell := fun x y => decidable_of_iff (x.f0 = y.f0 ∧ x.f1 = y.f1 ∧ x.f2 = y.f2) cell_ext.symm
theorem rdc (l : Mid) (i : Nat) (h : i < l.length) : rd_T36 l (i : Int) = l[i] := by
  unfold rd_T36; simp [h]
def meshFrom (at_ : Int) : Mid → Option Int
  | [] => some at_
  | x :: xs => if idokB x.f0 x.f1 x.f2 = true ∧ startP x.f0 x.f1 x.f2 = at_ then meshFrom (endP x.f0 x.f1 x.f2) xs else none
def meshFin (R : Int) : Option Int → Bool
  | none => false
  | some a => decide ((1 ≤ R ∧ R ≤ 8) ∧ a = R * 16)
def meshOkB (R : Int) (l : Mid) : Bool := meshFin R (meshFrom 0 l)
theorem meshFin_end (R a : Int) : (if (1 ≤ R ∧ R ≤ 8) then some (a == wrap64 (R * 16)) else some false) = some (meshFin R (some a)) := by
  unfold meshFin
  by_cases h : 1 ≤ R ∧ R ≤ 8
  · rw [if_pos h, w64 (by omega) (by omega)]; congr 1; simp [h]; rfl
  · rw [if_neg h]; congr 1; simp [h]
theorem s_mesh_l0 (R : Int) (l : Mid) (hl : l.length < 4611686018427387904) : ∀ (d i : Nat) (a : Int), i + d = l.length → Ev (fun k => spec_MeshOk.l0 k a (i : Int) R l) (meshFin R (meshFrom a (l.drop i))) := by
  intro d
  induction d with
  | zero =>
    intro i a h
    refine Ev.step (fun k => rfl) ?_
    have h1 : ¬ ((i : Int) < (l.length : Int)) := by omega
    rw [List.drop_eq_nil_of_le (by omega)]
    simp only [spec_MeshOk.l0, h1, if_false, s_in, Option.bind_some, decide_eq_true_eq]
    exact Ev.congr (fun k => meshFin_end R a) (Ev.now _)
  | succ d ih =>
    intro i a h
    refine Ev.step (fun k => rfl) ?_
    have h1 : (i : Int) < (l.length : Int) := by omega
    have h2 : i < l.length := by omega
    have h3 : (0 : Int) ≤ (i : Int) := by omega
    rw [List.drop_eq_getElem_cons h2]
    simp only [spec_MeshOk.l0, h1, h3, if_true, rdc l i h2, s_idok, s_start, s_end, Option.bind_some, wsucc (show i < 4611686018427387904 by omega), meshFrom]
    by_cases h4 : idokB l[i].f0 l[i].f1 l[i].f2 = true
    · by_cases h5 : startP l[i].f0 l[i].f1 l[i].f2 = a
      · simp only [h4, h5, if_true, and_self]
        exact ih (i + 1) _ (by omega)
      · simp only [h4, h5, if_true, if_false, and_false]
        exact Ev.now _
    · simp only [h4, if_false, false_and]
      exact Ev.now _
theorem s_mesh (R : Int) (l : Mid) (hl : l.length < 4611686018427387904) : Ev (fun k => spec_MeshOk.f k R l) (meshOkB R l) := by
  have := s_mesh_l0 R l hl l.length 0 0 (by omega)
  simpa [meshOkB, spec_MeshOk.f] using this
theorem i_mesh_l0 (R : Int) (l : Mid) (hl : l.length < 4611686018427387904) : ∀ (d i : Nat) (a : Int), i + d = l.length → Ev (fun k => impl_MeshOk.l0 k a l (l.length : Int) (i : Int) R l) (meshFin R (meshFrom a (l.drop i))) := by
  intro d
  induction d with
  | zero =>
    intro i a h
    refine Ev.step (fun k => rfl) ?_
    have h1 : ¬ ((i : Int) < (l.length : Int)) := by omega
    rw [List.drop_eq_nil_of_le (by omega)]
    simp only [impl_MeshOk.l0, h1, if_false, i_in, Option.bind_some, decide_eq_true_eq]
    exact Ev.congr (fun k => meshFin_end R a) (Ev.now _)
  | succ d ih =>
    intro i a h
    refine Ev.step (fun k => rfl) ?_
    have h1 : (i : Int) < (l.length : Int) := by omega
    have h2 : i < l.length := by omega
    have h3 : (0 : Int) ≤ (i : Int) := by omega
    rw [List.drop_eq_getElem_cons h2]
    simp only [impl_MeshOk.l0, h1, h3, if_true, rdc l i h2, i_idok, i_start, i_end, Option.bind_some, wsucc (show i < 4611686018427387904 by omega), meshFrom]
    by_cases h4 : idokB l[i].f0 l[i].f1 l[i].f2 = true
    · by_cases h5 : startP l[i].f0 l[i].f1 l[i].f2 = a
      · simp only [h4, h5, if_true, and_self]
        exact ih (i + 1) _ (by omega)
      · simp only [h4, h5, if_true, if_false, and_false]
        exact Ev.now _
    · simp only [h4, if_false, false_and]
      exact Ev.now _
theorem i_mesh (R : Int) (l : Mid) (hl : l.length < 4611686018427387904) : Ev (fun k => impl_MeshOk.f k R l) (meshOkB R l) := by
  have := i_mesh_l0 R l hl l.length 0 0 (by omega)
  simpa [meshOkB, impl_MeshOk.f] using this

/-! the arguments turned into the program's own types -/
def conv (x : S101) : Cell := ⟨x.f0, x.f1, x.f2⟩
theorem rdl (l : List S101) (i : Nat) (h : i < l.length) : rd_T101 l (i : Int) = l[i] := by
  unfold rd_T101; simp [h]
theorem toIdS_l0 (l : List S101) (hl : l.length < 4611686018427387904) : ∀ (d i : Nat), i + d = l.length → Ev (fun k => laws_toIdS.l0 k l ((l.take i).map conv ++ List.replicate d z36) (i : Int)) (l.map conv) := by
  intro d
  induction d with
  | zero =>
    intro i h
    refine Ev.step (fun k => rfl) ?_
    have h1 : ¬ ((i : Int) < (l.length : Int)) := by omega
    simp only [laws_toIdS.l0, h1, if_false, List.replicate_zero, List.append_nil, List.take_of_length_le (show l.length ≤ i by omega)]
    exact Ev.now _
  | succ d ih =>
    intro i h
    refine Ev.step (fun k => rfl) ?_
    have h1 : (i : Int) < (l.length : Int) := by omega
    have h2 : i < l.length := by omega
    have h3 : (0 : Int) ≤ (i : Int) := by omega
    have h4 : (i : Int) < ((((l.take i).map conv ++ List.replicate (d + 1) z36).length : Nat) : Int) := by simp; omega
    have h5 : ((l.take i).map conv ++ List.replicate (d + 1) z36).set ((i : Int)).toNat (conv l[i]) = (l.take (i + 1)).map conv ++ List.replicate d z36 := by
      have hlen : ((l.take i).map conv).length = i := by simp; omega
      rw [Int.toNat_natCast, List.set_append_right _ _ (by omega), hlen, Nat.sub_self, List.replicate_succ, List.set_cons_zero, List.take_succ_eq_append_getElem h2]
      simp only [List.map_append, List.map_cons, List.map_nil, List.append_assoc, List.singleton_append]
    simp only [laws_toIdS.l0, h1, h3, h4, if_true, rdl l i h2, laws_toId.f, Option.bind_some, wsucc (show i < 4611686018427387904 by omega)]
    rw [show (⟨l[i].f0, l[i].f1, l[i].f2⟩ : Cell) = conv l[i] from rfl, h5]
    exact ih (i + 1) (by omega)
theorem toIdS_ev (l : List S101) (hl : l.length ≤ 1048576) : Ev (fun k => laws_toIdS.f k l) (l.map conv) := by
  have h := toIdS_l0 l (by omega) l.length 0 (by omega)
  have h1 : (0 : Int) ≤ (l.length : Int) := by omega
  have h2 : ((l.length : Int)).toNat ≤ 11728124029610 := by omega
  refine Ev.congr (fun k => ?_) h
  simp only [laws_toIdS.f, h1, h2, if_true]
  simp
theorem toMesh_ev (R : Int) (l : List S101) (hl : l.length ≤ 1048576) : Ev (fun k => laws_toMesh.f k R l) (R, l.map conv) := by
  unfold laws_toMesh.f
  refine Ev.bind (toIdS_ev l hl) ?_
  exact Ev.now _
theorem sz_eq (R : Int) (l : List S101) (c : Int) (hl : l.length ≤ 9223372036854775807) (hc0 : 0 ≤ c) (hc : c ≤ 1048576) : laws_szMesh.f R l c = some (if (l.length : Int) ≤ c then c - l.length else -1) := by
  unfold laws_szMesh.f laws_szIdS.f
  rw [w64 (by omega) (by omega)]
  by_cases h : (l.length : Int) ≤ c
  · have h1 : ¬ (c - (l.length : Int) < 0) := by omega
    simp [h, h1]
  · have h1 : c - (l.length : Int) < 0 := by omega
    simp [h, h1]
theorem eqId_iff (x y : Cell) : laws_eqId.f x.f0 x.f1 x.f2 y.f0 y.f1 y.f2 = some (decide (x = y)) := by
  unfold laws_eqId.f
  rw [show decide (x = y) = decide (x.f0 = y.f0 ∧ x.f1 = y.f1 ∧ x.f2 = y.f2) from by rw [decide_eq_decide]; exact cell_ext]
  by_cases h1 : x.f0 = y.f0 <;> by_cases h2 : x.f1 = y.f1 <;> by_cases h3 : x.f2 = y.f2 <;> simp [h1, h2, h3]
theorem eqIdS_l0 (l l' : Mid) (he : l.length = l'.length) (hl : l.length < 4611686018427387904) : ∀ (d i : Nat), i + d = l.length → Ev (fun k => laws_eqIdS.l0 k l l' (i : Int)) (decide (l.drop i = l'.drop i)) := by
  intro d
  induction d with
  | zero =>
    intro i h
    refine Ev.step (fun k => rfl) ?_
    have h1 : ¬ ((i : Int) < (l.length : Int)) := by omega
    have h2 : l.drop i = l'.drop i := by rw [List.drop_eq_nil_of_le (by omega), List.drop_eq_nil_of_le (by omega)]
    simp only [laws_eqIdS.l0, h1, if_false, h2, decide_true]
    exact Ev.now _
  | succ d ih =>
    intro i h
    refine Ev.step (fun k => rfl) ?_
    have h1 : (i : Int) < (l.length : Int) := by omega
    have h1' : (i : Int) < (l'.length : Int) := by omega
    have h2 : i < l.length := by omega
    have h2' : i < l'.length := by omega
    have h3 : (0 : Int) ≤ (i : Int) := by omega
    rw [List.drop_eq_getElem_cons h2, List.drop_eq_getElem_cons h2']
    simp only [laws_eqIdS.l0, h1, h1', h3, if_true, rdc l i h2, rdc l' i h2', eqId_iff, Option.bind_some, wsucc (show i < 4611686018427387904 by omega), decide_eq_true_eq]
    by_cases h4 : l[i] = l'[i]
    · simp only [h4, if_true, List.cons.injEq, true_and]
      exact ih (i + 1) (by omega)
    · simp only [h4, if_false, List.cons.injEq, false_and, decide_false]
      exact Ev.now _
theorem eqIdS_ev (l l' : Mid) (hl : l.length < 4611686018427387904) : Ev (fun k => laws_eqIdS.f k l l') (decide (l = l')) := by
  unfold laws_eqIdS.f
  by_cases h : l.length = l'.length
  · have h' : (l.length : Int) = (l'.length : Int) := by omega
    simp only [h', if_true]
    have := eqIdS_l0 l l' h hl l.length 0 (by omega)
    simpa using this
  · have h' : ¬ (l.length : Int) = (l'.length : Int) := by omega
    have h2 : ¬ l = l' := fun e => h (by rw [e])
    simp only [h', if_false, h2, decide_false]
    exact Ev.now _
theorem eqMesh_ev (R R' : Int) (l l' : Mid) (hl : l.length < 4611686018427387904) : Ev (fun k => laws_eqMesh.f k R l R' l') (decide (R = R' ∧ l = l')) := by
  unfold laws_eqMesh.f
  by_cases h : R = R'
  · simp only [h, if_true, true_and]
    refine Ev.bind (eqIdS_ev l l' hl) ?_
    by_cases h2 : l = l'
    · simp only [h2, decide_true, if_true]; exact Ev.now _
    · simp only [h2, decide_false]; exact Ev.now _
  · simp only [h, if_false, false_and, decide_false]
    exact Ev.now _
theorem eqMesh_refl (R : Int) (l : Mid) (hl : l.length < 4611686018427387904) : Ev (fun k => laws_eqMesh.f k R l R l) true := by
  have := eqMesh_ev R R l l hl
  simpa using this


/-! what a valid mesh's leaves are -/
theorem meshFrom_all : ∀ (l : Mid) (a b : Int), meshFrom a l = some b → ∀ x ∈ l, idokB x.f0 x.f1 x.f2 = true := by
  intro l
  induction l with
  | nil => intro a b _ x hx; cases hx
  | cons y ys ih =>
    intro a b h x hx
    unfold meshFrom at h
    by_cases hy : idokB y.f0 y.f1 y.f2 = true ∧ startP y.f0 y.f1 y.f2 = a
    · rw [if_pos hy] at h
      rcases List.mem_cons.1 hx with rfl | hx
      · exact hy.1
      · exact ih _ _ h x hx
    · rw [if_neg hy] at h; cases h
theorem meshFin_true {R : Int} {o : Option Int} (h : meshFin R o = true) : ∃ a, o = some a ∧ 1 ≤ R ∧ R ≤ 8 ∧ a = R * 16 := by
  cases o with
  | none => cases h
  | some a =>
    have := of_decide_eq_true h
    exact ⟨a, rfl, this.1.1, this.1.2, this.2⟩
theorem meshOk_all {R : Int} {l : Mid} (h : meshOkB R l = true) : ∀ x ∈ l, idokB x.f0 x.f1 x.f2 = true := by
  obtain ⟨a, ha, _⟩ := meshFin_true h
  exact meshFrom_all l 0 a ha
theorem meshOk_lv {R : Int} {l : Mid} (h : meshOkB R l = true) : ∀ x ∈ l, 0 ≤ x.f1 ∧ x.f1 ≤ 4 := fun x hx => by
  have := idok_iff.1 (meshOk_all h x hx)
  omega
theorem drop_two {l : Mid} {i : Nat} (h : i + 1 < l.length) : l.drop i = l[i] :: l[i + 1] :: l.drop (i + 2) := by
  rw [List.drop_eq_getElem_cons (show i < l.length by omega), List.drop_eq_getElem_cons h]
theorem drop_lt {l : Mid} {i : Nat} (h : l.length ≤ i + 1) : l.drop i = [] ∨ ∃ x, l.drop i = [x] := by
  by_cases h1 : i < l.length
  · refine .inr ⟨l[i], ?_⟩
    rw [List.drop_eq_getElem_cons h1, List.drop_eq_nil_of_le h]
  · exact .inl (List.drop_eq_nil_of_le (by omega))
/-! the first leaf whose right neighbour differs too much -/
def firstFrom (i : Nat) : Mid → Int
  | x :: y :: r => if x.f1 - y.f1 > 1 ∨ x.f1 - y.f1 < -1 then (i : Int) else firstFrom (i + 1) (y :: r)
  | _ => -1
def firstUn (l : Mid) : Int := firstFrom 0 l
theorem firstFrom_small {l : Mid} {i : Nat} (h : l.length ≤ i + 1) : firstFrom i (l.drop i) = -1 := by
  rcases drop_lt h with e | ⟨x, e⟩ <;> rw [e] <;> rfl
def Lv (l : Mid) : Prop := ∀ x ∈ l, 0 ≤ x.f1 ∧ x.f1 ≤ 4
theorem Lv.at {l : Mid} (h : Lv l) {i : Nat} (hi : i < l.length) : 0 ≤ l[i].f1 ∧ l[i].f1 ≤ 4 := h _ (List.getElem_mem hi)
theorem s_first_l0 (R : Int) (l : Mid) (hl : l.length < 4611686018427387904) (hv : Lv l) : ∀ (d i : Nat), l.length ≤ i + 1 + d → i ≤ l.length → Ev (fun k => spec_l05First.l0 k (i : Int) R l) (firstFrom i (l.drop i)) := by
  intro d
  induction d with
  | zero =>
    intro i h hi
    refine Ev.step (fun k => rfl) ?_
    have h1 : ¬ (((i + 1 : Nat) : Int) < (l.length : Int)) := by omega
    rw [firstFrom_small (by omega)]
    simp only [spec_l05First.l0, wsucc (show i < 4611686018427387904 by omega), h1, if_false]
    exact Ev.now _
  | succ d ih =>
    intro i h hi
    by_cases hlt : i + 1 < l.length
    · refine Ev.step (fun k => rfl) ?_
      have h1 : ((i + 1 : Nat) : Int) < (l.length : Int) := by omega
      have h2 : (i : Int) < (l.length : Int) := by omega
      have h3 : (0 : Int) ≤ (i : Int) := by omega
      have h4 : (0 : Int) ≤ ((i + 1 : Nat) : Int) := by omega
      have v1 := hv.at (show i < l.length by omega)
      have v2 := hv.at hlt
      have hn := ih (i + 1) (by omega) (by omega)
      rw [List.drop_eq_getElem_cons hlt] at hn
      rw [drop_two hlt]
      simp only [spec_l05First.l0, wsucc (show i < 4611686018427387904 by omega), h1, h2, h3, h4, if_true, rdc l i (by omega), rdc l (i + 1) hlt, firstFrom]
      rw [w64 (by omega) (by omega)]
      by_cases c1 : l[i].f1 - l[i + 1].f1 > 1
      · simp only [c1, true_or, if_true]; exact Ev.now _
      · by_cases c2 : l[i].f1 - l[i + 1].f1 < -1
        · simp only [c1, c2, or_true, if_true, if_false]; exact Ev.now _
        · simp only [c1, c2, or_self, if_false]; exact hn
    · refine Ev.step (fun k => rfl) ?_
      have h1 : ¬ (((i + 1 : Nat) : Int) < (l.length : Int)) := by omega
      rw [firstFrom_small (by omega)]
      simp only [spec_l05First.l0, wsucc (show i < 4611686018427387904 by omega), h1, if_false]
      exact Ev.now _
theorem s_first (R : Int) (l : Mid) (hl : l.length < 4611686018427387904) (hv : Lv l) : Ev (fun k => spec_l05First.f k R l) (firstUn l) := by
  have := s_first_l0 R l hl hv l.length 0 (by omega) (by omega)
  simpa [firstUn, spec_l05First.f] using this
theorem abs_big {d : Int} (h0 : -4 ≤ d) (h1 : d ≤ 4) : (mx d (wrap64 (-d)) > 1) ↔ (d > 1 ∨ d < -1) := by
  rw [w64 (by omega) (by omega)]; unfold mx; split <;> omega
theorem i_first_l0 (R : Int) (l : Mid) (hl : l.length < 4611686018427387904) (hv : Lv l) : ∀ (d i : Nat), l.length ≤ i + 1 + d → i ≤ l.length → Ev (fun k => impl_Mesh_unbalanced.l0 k ((l.length : Int) - 1) (i : Int) R l) (firstFrom i (l.drop i)) := by
  intro d
  induction d with
  | zero =>
    intro i h hi
    refine Ev.step (fun k => rfl) ?_
    have h1 : ¬ ((i : Int) < (l.length : Int) - 1) := by omega
    rw [firstFrom_small (by omega)]
    simp only [impl_Mesh_unbalanced.l0, h1, if_false]
    exact Ev.now _
  | succ d ih =>
    intro i h hi
    by_cases hlt : i + 1 < l.length
    · refine Ev.step (fun k => rfl) ?_
      have h0 : (i : Int) < (l.length : Int) - 1 := by omega
      have h1 : ((i + 1 : Nat) : Int) < (l.length : Int) := by omega
      have h2 : (i : Int) < (l.length : Int) := by omega
      have h3 : (0 : Int) ≤ (i : Int) := by omega
      have h4 : (0 : Int) ≤ ((i + 1 : Nat) : Int) := by omega
      have v1 := hv.at (show i < l.length by omega)
      have v2 := hv.at hlt
      have hn := ih (i + 1) (by omega) (by omega)
      rw [List.drop_eq_getElem_cons hlt] at hn
      rw [drop_two hlt]
      simp only [impl_Mesh_unbalanced.l0, wsucc (show i < 4611686018427387904 by omega), h0, h1, h2, h3, h4, if_true, rdc l i (by omega), rdc l (i + 1) hlt, firstFrom, impl_absolute.f, Option.bind_some]
      rw [w64 (n := l[i].f1 - l[i + 1].f1) (by omega) (by omega)]
      simp only [abs_big (show -4 ≤ l[i].f1 - l[i + 1].f1 by omega) (by omega)]
      by_cases c1 : l[i].f1 - l[i + 1].f1 > 1 ∨ l[i].f1 - l[i + 1].f1 < -1
      · simp only [c1, if_true]; exact Ev.now _
      · simp only [c1, if_false]; exact hn
    · refine Ev.step (fun k => rfl) ?_
      have h1 : ¬ ((i : Int) < (l.length : Int) - 1) := by omega
      rw [firstFrom_small (by omega)]
      simp only [impl_Mesh_unbalanced.l0, h1, if_false]
      exact Ev.now _
theorem i_first (R : Int) (l : Mid) (hl : l.length < 4611686018427387904) (hv : Lv l) : Ev (fun k => impl_Mesh_unbalanced.f k R l) (firstUn l) := by
  have := i_first_l0 R l hl hv l.length 0 (by omega) (by omega)
  simpa [firstUn, impl_Mesh_unbalanced.f, wlen1 hl] using this
def balB (R : Int) (l : Mid) : Bool := if meshOkB R l = true then decide (firstUn l < 0) else false
theorem s_bal (R : Int) (l : Mid) (hl : l.length < 4611686018427387904) : Ev (fun k => spec_IsBalanced.f k R l) (balB R l) := by
  unfold spec_IsBalanced.f balB
  refine Ev.bind (s_mesh R l hl) ?_
  by_cases h : meshOkB R l = true
  · simp only [h, if_true]
    refine Ev.bind (s_first R l hl (meshOk_lv h)) ?_
    exact Ev.now _
  · simp only [h, if_false]; exact Ev.now _
theorem i_bal (R : Int) (l : Mid) (hl : l.length < 4611686018427387904) : Ev (fun k => impl_IsBalanced.f k R l) (balB R l) := by
  unfold impl_IsBalanced.f balB
  refine Ev.bind (i_mesh R l hl) ?_
  by_cases h : meshOkB R l = true
  · simp only [h, if_true]
    refine Ev.bind (i_first R l hl (meshOk_lv h)) ?_
    exact Ev.now _
  · simp only [h, if_false]; exact Ev.now _
/-! reads at an index -/
theorem i_has (R : Int) (l : Mid) (i : Int) (hl : l.length < 4611686018427387904) : impl_Mesh_has.f R l i = some (decide (0 ≤ i ∧ i ≤ (l.length : Int) - 1)) := by
  unfold impl_Mesh_has.f
  rw [i_in, wlen1 hl]; rfl
/-! the deepest level; how many faces have a level -/
/-! one cell within another -/
/-! parents, children, siblings -/
def parentP (a b c : Int) : Int × Int × Int × Bool := if idokB a b c = true ∧ b ≠ 0 then (a, b - 1, c / 2, true) else (0, 0, 0, false)
theorem half_wrap {a b c : Int} (h : idokB a b c = true) : wrap64 (b - 1) = b - 1 ∧ wrap64 (Int.tdiv c 2) = c / 2 := by
  obtain ⟨h0, h1, h2, h3, h4, h5⟩ := idok_iff.1 h
  have h6 : (2 : Int) ^ b.toNat ≤ 16 := by obtain rfl | rfl | rfl | rfl | rfl := level_cases h2 h3 <;> decide
  refine ⟨w64 (by omega) (by omega), ?_⟩
  rw [Int.tdiv_eq_ediv_of_nonneg h4, w64 (by omega) (by omega)]
theorem s_parent (a b c : Int) : spec_ParentOf.f a b c = some (parentP a b c) := by
  unfold spec_ParentOf.f parentP
  simp only [s_idok, Option.bind_some]
  by_cases h : idokB a b c = true
  · by_cases h1 : b = 0
    · simp [h, h1]
    · simp [h, h1, (half_wrap h).1, (half_wrap h).2]
  · simp [h]
theorem i_parent (a b c : Int) : impl_ParentOf.f a b c = some (parentP a b c) := by
  unfold impl_ParentOf.f parentP
  simp only [i_idok, Option.bind_some]
  by_cases h : idokB a b c = true
  · by_cases h1 : b = 0
    · simp [h, h1]
    · simp [h, h1, (half_wrap h).1, (half_wrap h).2]
  · simp [h]
def siblingB (a b c a' b' c' : Int) : Bool := decide (idokB a b c = true ∧ idokB a' b' c' = true ∧ a = a' ∧ b = b' ∧ c % 2 = 0 ∧ c' = c + 1)
theorem even_mod {c : Int} (h : 0 ≤ c) : Int.tmod c 2 = c % 2 := Int.tmod_eq_emod_of_nonneg h
theorem idx_bd {a b c : Int} (h : idokB a b c = true) : 0 ≤ c ∧ c ≤ 15 := by
  obtain ⟨h0, h1, h2, h3, h4, h5⟩ := idok_iff.1 h
  have h6 : (2 : Int) ^ b.toNat ≤ 16 := by obtain rfl | rfl | rfl | rfl | rfl := level_cases h2 h3 <;> decide
  omega
theorem s_sib (a b c a' b' c' : Int) : spec_IsSibling.f a b c a' b' c' = some (siblingB a b c a' b' c') := by
  unfold spec_IsSibling.f siblingB
  simp only [s_idok, Option.bind_some]
  by_cases h : idokB a b c = true
  · have hc := idx_bd h
    rw [if_pos h]
    by_cases h' : idokB a' b' c' = true
    · rw [if_pos h']
      by_cases h1 : a = a'
      · rw [if_pos h1]
        by_cases h2 : b = b'
        · rw [if_pos h2, even_mod hc.1]
          by_cases h3 : c % 2 = 0
          · rw [if_pos h3, w64 (n := c + 1) (by omega) (by omega)]
            congr 1; rw [Bool.eq_iff_iff]; simp only [beq_iff_eq, decide_eq_true_eq]
            exact ⟨fun e => ⟨h, h', h1, h2, h3, e⟩, fun p => p.2.2.2.2.2⟩
          · rw [if_neg h3]; congr 1; exact (decide_eq_false fun p => h3 p.2.2.2.2.1).symm
        · rw [if_neg h2]; congr 1; exact (decide_eq_false fun p => h2 p.2.2.2.1).symm
      · rw [if_neg h1]; congr 1; exact (decide_eq_false fun p => h1 p.2.2.1).symm
    · rw [if_neg h']; congr 1; exact (decide_eq_false fun p => h' p.2.1).symm
  · rw [if_neg h]; congr 1; exact (decide_eq_false fun p => h p.1).symm
theorem i_sib (a b c a' b' c' : Int) : impl_IsSibling.f a b c a' b' c' = some (siblingB a b c a' b' c') := by
  unfold impl_IsSibling.f siblingB
  simp only [i_parent, Option.bind_some]
  have key : ∀ p : idokB a b c = true ∧ idokB a' b' c' = true ∧ a = a' ∧ b = b' ∧ c % 2 = 0 ∧ c' = c + 1, b ≠ 0 := by
    rintro ⟨h, h', _, e, _, e2⟩ hb
    have e1 := (idok_iff.1 h').2.2.2.2.2
    have hc := idx_bd h
    rw [← e, hb] at e1
    have : (2 : Int) ^ (0 : Int).toNat = 1 := rfl
    omega
  by_cases hA : idokB a b c = true ∧ b ≠ 0
  · by_cases hB : idokB a' b' c' = true ∧ b' ≠ 0
    · rw [show parentP a b c = (a, b - 1, c / 2, true) from if_pos hA, show parentP a' b' c' = (a', b' - 1, c' / 2, true) from if_pos hB]
      have hc := idx_bd hA.1
      simp only [if_true]
      by_cases h4 : a = a' ∧ b = b' ∧ c / 2 = c' / 2
      · have h5 : (a == a' && (b - 1 == b' - 1 && c / 2 == c' / 2)) = true := by simp [h4]
        rw [if_pos h5, even_mod hc.1]
        by_cases h3 : c % 2 = 0
        · rw [if_pos h3, w64 (n := c + 1) (by omega) (by omega)]
          congr 1; rw [Bool.eq_iff_iff]; simp only [beq_iff_eq, decide_eq_true_eq]
          exact ⟨fun e => ⟨hA.1, hB.1, h4.1, h4.2.1, h3, e⟩, fun p => p.2.2.2.2.2⟩
        · rw [if_neg h3]; congr 1; exact (decide_eq_false fun p => h3 p.2.2.2.2.1).symm
      · have h5 : ¬ (a == a' && (b - 1 == b' - 1 && c / 2 == c' / 2)) = true := by
          intro h5
          simp only [Bool.and_eq_true, beq_iff_eq] at h5
          exact h4 ⟨h5.1, by omega, h5.2.2⟩
        rw [if_neg h5]; congr 1
        exact (decide_eq_false fun p => h4 ⟨p.2.2.1, p.2.2.2.1, by omega⟩).symm
    · rw [show parentP a b c = (a, b - 1, c / 2, true) from if_pos hA, show parentP a' b' c' = (0, 0, 0, false) from if_neg hB]
      simp only [if_true, Bool.false_eq_true, if_false]
      congr 1
      exact (decide_eq_false fun p => hB ⟨p.2.1, by rw [← p.2.2.2.1]; exact hA.2⟩).symm
  · rw [show parentP a b c = (0, 0, 0, false) from if_neg hA]
    simp only [Bool.false_eq_true, if_false]
    congr 1
    exact (decide_eq_false fun p => hA ⟨p.1, key p⟩).symm
/-! may a pair be coarsened -/
def coB (l : Mid) (i : Int) : Bool := if siblingB (rd_T36 l i).f0 (rd_T36 l i).f1 (rd_T36 l i).f2 (rd_T36 l (i + 1)).f0 (rd_T36 l (i + 1)).f1 (rd_T36 l (i + 1)).f2 = true then (if i ≠ 0 ∧ (rd_T36 l (i - 1)).f1 > (rd_T36 l i).f1 then false else (if i + 2 < (l.length : Int) then decide ((rd_T36 l (i + 2)).f1 ≤ (rd_T36 l i).f1) else true)) else false
def mayCoB (R : Int) (l : Mid) (i : Int) : Bool := if meshOkB R l = true then (if 0 ≤ i ∧ i ≤ (l.length : Int) - 2 then coB l i else false) else false
theorem s_may0 (R : Int) (l : Mid) (i : Int) (hl : l.length < 4611686018427387904) (h0 : 0 ≤ i) (h1 : i ≤ (l.length : Int) - 2) : spec_l06May.f R l i = some (coB l i) := by
  unfold spec_l06May.f coB
  rw [w64 (n := i + 1) (by omega) (by omega), w64 (n := i + 2) (by omega) (by omega), w64 (n := i - 1) (by omega) (by omega), if_pos h0, if_pos (by omega), if_pos (by omega), if_pos (by omega), s_sib, Option.bind_some]
  by_cases hs : siblingB (rd_T36 l i).f0 (rd_T36 l i).f1 (rd_T36 l i).f2 (rd_T36 l (i + 1)).f0 (rd_T36 l (i + 1)).f1 (rd_T36 l (i + 1)).f2 = true
  · rw [if_pos hs, if_pos hs]
    have right : (if i + 2 ≥ (l.length : Int) then some true else (if 0 ≤ i + 2 then (if i + 2 < (l.length : Int) then some (decide ((rd_T36 l (i + 2)).f1 ≤ (rd_T36 l i).f1)) else none) else none)) = some (if i + 2 < (l.length : Int) then decide ((rd_T36 l (i + 2)).f1 ≤ (rd_T36 l i).f1) else true) := by
      by_cases hr : i + 2 < (l.length : Int)
      · rw [if_neg (by omega), if_pos (by omega), if_pos hr, if_pos hr]
      · rw [if_pos (by omega), if_neg hr]
    rw [right]
    by_cases hz : i = 0
    · rw [if_pos hz, if_neg (fun h : i ≠ 0 ∧ (rd_T36 l (i - 1)).f1 > (rd_T36 l i).f1 => h.1 hz)]
    · rw [if_neg hz, if_pos (by omega), if_pos (by omega)]
      by_cases hg : (rd_T36 l (i - 1)).f1 > (rd_T36 l i).f1
      · rw [if_neg (by omega), if_pos ⟨hz, hg⟩]
      · rw [if_pos (by omega), if_neg (fun h : i ≠ 0 ∧ (rd_T36 l (i - 1)).f1 > (rd_T36 l i).f1 => hg h.2)]
  · rw [if_neg hs, if_neg hs]
theorem s_mayCo (R : Int) (l : Mid) (i : Int) (hl : l.length < 4611686018427387904) : Ev (fun k => spec_MayCoarsen.f k R l i) (mayCoB R l i) := by
  unfold spec_MayCoarsen.f mayCoB
  refine Ev.bind (s_mesh R l hl) ?_
  by_cases h : meshOkB R l = true
  · simp only [h, if_true, s_in, Option.bind_some, decide_eq_true_eq, w64 (n := (l.length : Int) - 2) (by omega) (by omega)]
    by_cases h2 : 0 ≤ i ∧ i ≤ (l.length : Int) - 2
    · rw [if_pos h2, s_may0 R l i hl h2.1 h2.2]
      simp only [h2, and_self, if_true, Option.bind_some]; exact Ev.now _
    · simp only [h2, if_false]; exact Ev.now _
  · simp only [h, if_false]; exact Ev.now _
theorem i_may0 (R : Int) (l : Mid) (i : Int) (hl : l.length < 4611686018427387904) (h0 : 0 ≤ i) (h1 : i ≤ (l.length : Int) - 2) : Ev (fun k => impl_Mesh_mayCoarsen.f k R l i) (coB l i) := by
  unfold impl_Mesh_mayCoarsen.f coB
  simp only [i_has R l i hl, i_has R l _ hl, Option.bind_some, w64 (n := i + 1) (by omega) (by omega)]
  have q1 : i ≤ (l.length : Int) - 1 := by omega
  have q2 : i + 1 ≤ (l.length : Int) - 1 := by omega
  have q3 : i < (l.length : Int) := by omega
  have q4 : i + 1 < (l.length : Int) := by omega
  have q5 : 0 ≤ i + 1 := by omega
  simp only [decide_eq_true_eq, h0, q1, q2, q3, q4, q5, and_self, if_true, i_sib, Option.bind_some]
  refine ⟨1, fun k hk => ?_⟩
  obtain ⟨k, rfl⟩ : ∃ j, k = j + 1 := ⟨k - 1, by omega⟩
  show impl_Mesh_mayCoarsen.j0 (k + 1) i _ R l = _
  rw [impl_Mesh_mayCoarsen.j0]
  by_cases hs : siblingB (rd_T36 l i).f0 (rd_T36 l i).f1 (rd_T36 l i).f2 (rd_T36 l (i + 1)).f0 (rd_T36 l (i + 1)).f1 (rd_T36 l (i + 1)).f2 = true
  · have hn : ¬ ((!siblingB (rd_T36 l i).f0 (rd_T36 l i).f1 (rd_T36 l i).f2 (rd_T36 l (i + 1)).f0 (rd_T36 l (i + 1)).f1 (rd_T36 l (i + 1)).f2) = true) := by rw [hs]; decide
    rw [if_neg hn, if_pos hs, if_pos h0, if_pos (by omega)]
    simp only [w64 (n := i + 2) (by omega) (by omega), w64 (n := i - 1) (by omega) (by omega), i_has R l _ hl, Option.bind_some, decide_eq_true_eq]
    have right : (if 0 ≤ i + 2 ∧ i + 2 ≤ (l.length : Int) - 1 then (if 0 ≤ i + 2 then (if i + 2 < (l.length : Int) then some (!(decide ((rd_T36 l (i + 2)).f1 > (rd_T36 l i).f1))) else none) else none) else some (!false)) = some (if i + 2 < (l.length : Int) then decide ((rd_T36 l (i + 2)).f1 ≤ (rd_T36 l i).f1) else true) := by
      by_cases hr : i + 2 < (l.length : Int)
      · rw [if_pos (by omega), if_pos (by omega), if_pos hr, if_pos hr]
        congr 1; rw [Bool.eq_iff_iff]; simp
      · rw [if_neg (by omega), if_neg hr]; rfl
    rw [right]
    by_cases hz : i = 0
    · rw [if_neg (by omega), if_neg (fun h : i ≠ 0 ∧ (rd_T36 l (i - 1)).f1 > (rd_T36 l i).f1 => h.1 hz)]
    · rw [if_pos (by omega), if_pos (by omega), if_pos (by omega)]
      by_cases hg : (rd_T36 l (i - 1)).f1 > (rd_T36 l i).f1
      · rw [if_pos hg, if_pos ⟨hz, hg⟩]
      · rw [if_neg hg, if_neg (fun h : i ≠ 0 ∧ (rd_T36 l (i - 1)).f1 > (rd_T36 l i).f1 => hg h.2)]
  · have hs' : siblingB (rd_T36 l i).f0 (rd_T36 l i).f1 (rd_T36 l i).f2 (rd_T36 l (i + 1)).f0 (rd_T36 l (i + 1)).f1 (rd_T36 l (i + 1)).f2 = false := by simpa using hs
    rw [hs', Bool.not_false, if_pos rfl, if_neg (by decide)]
theorem i_mayCo (R : Int) (l : Mid) (i : Int) (hl : l.length < 4611686018427387904) : Ev (fun k => impl_MayCoarsen.f k R l i) (mayCoB R l i) := by
  unfold impl_MayCoarsen.f mayCoB
  refine Ev.bind (i_mesh R l hl) ?_
  by_cases h : meshOkB R l = true
  · simp only [h, if_true, i_has R l i hl, Option.bind_some, decide_eq_true_eq]
    by_cases h2 : 0 ≤ i ∧ i ≤ (l.length : Int) - 2
    · rw [if_pos h2]
      have h3 : i ≤ (l.length : Int) - 1 := by omega
      simp only [ge_iff_le, h2.1, h3, and_self, if_true]
      refine Ev.bind (i_may0 R l i hl h2.1 h2.2) ?_
      exact Ev.now _
    · rw [if_neg h2]
      by_cases h0 : 0 ≤ i
      · by_cases h3 : i ≤ (l.length : Int) - 1
        · simp only [ge_iff_le, h0, h3, and_self, if_true]
          refine Ev.bind (a := false) ?_ (Ev.now _)
          unfold impl_Mesh_mayCoarsen.f
          simp only [i_has R l i hl, i_has R l _ hl, Option.bind_some, w64 (n := i + 1) (by omega) (by omega), decide_eq_true_eq]
          have h4 : ¬ (0 ≤ i + 1 ∧ i + 1 ≤ (l.length : Int) - 1) := by omega
          have h5 : 0 ≤ i ∧ i ≤ (l.length : Int) - 1 := ⟨h0, h3⟩
          simp only [h4, h5, and_self, if_true, if_false]
          refine ⟨1, fun k hk => ?_⟩
          obtain ⟨k, rfl⟩ : ∃ j, k = j + 1 := ⟨k - 1, by omega⟩
          unfold impl_Mesh_mayCoarsen.j0
          rfl
        · simp only [ge_iff_le, h0, h3, and_false, if_true, if_false]; exact Ev.now _
      · simp only [ge_iff_le, h0, if_false]; exact Ev.now _
  · simp only [h, if_false]; exact Ev.now _

/-! quotients -/
/-! hexadecimal digits -/
/-! two meshes alike -/
/-! clamping -/
/-! meshes of one level -/
/-! marks -/
def markL (k : Int) : Mid → Mid
  | [] => []
  | _ :: r => ⟨k, k + 1, k + 2⟩ :: markL (k + 3) r
theorem rd_mid (pre : Mid) (x : Cell) (r : Mid) : rd_T36 (pre ++ x :: r) (pre.length : Int) = x := by
  rw [rdc _ pre.length (by simp)]; simp
theorem set_mid (pre : Mid) (x y : Cell) (r : Mid) : (pre ++ x :: r).set ((pre.length : Int)).toNat y = pre ++ y :: r := by
  rw [Int.toNat_natCast, List.set_append_right _ _ (Nat.le_refl _)]; simp
theorem mark_l0 : ∀ (rest pre : Mid) (kk : Int), pre.length + rest.length ≤ 1000000000 → 0 ≤ kk → kk + 3 * rest.length ≤ 4611686018427387904 → Ev (fun k => laws_markIdS.l0 k (pre ++ rest) kk (pre.length : Int)) (kk + 3 * rest.length, pre ++ markL kk rest) := by
  intro rest
  induction rest with
  | nil =>
    intro pre kk h h0 h1
    refine Ev.step (fun k => rfl) ?_
    have h2 : ¬ ((pre.length : Int) < ((pre ++ ([] : Mid)).length : Int)) := by simp
    simp only [laws_markIdS.l0, h2, if_false]
    simpa [markL] using Ev.now (kk, pre)
  | cons x r ih =>
    intro pre kk h h0 h1
    refine Ev.step (fun k => rfl) ?_
    have h2 : (pre.length : Int) < ((pre ++ x :: r).length : Int) := by simp; omega
    have h3 : (0 : Int) ≤ (pre.length : Int) := by omega
    rw [List.length_cons] at h h1
    simp only [laws_markIdS.l0, h2, h3, if_true, Option.bind_some, rd_mid, set_mid]
    rw [w64 (n := kk + 1) (by omega) (by omega), w64 (n := kk + 1 + 1) (by omega) (by omega), w64 (n := kk + 1 + 1 + 1) (by omega) (by omega), wsucc (show pre.length < 4611686018427387904 by omega)]
    have := ih (pre ++ [⟨kk, kk + 1, kk + 1 + 1⟩]) (kk + 1 + 1 + 1) (by simp; omega) (by omega) (by omega)
    rw [List.append_assoc, List.append_assoc] at this
    simp only [List.singleton_append, List.length_append, List.length_singleton] at this
    simp only [markL]
    rw [show kk + 1 + 1 = kk + 2 by omega, show kk + 2 + 1 = kk + 3 by omega] at this ⊢
    rw [show kk + 3 * (((x :: r).length : Nat) : Int) = kk + 3 + 3 * (r.length : Int) by simp; omega]
    exact this
theorem mark_ev (l : Mid) (kk : Int) (h : l.length ≤ 1000000000) (h0 : 0 ≤ kk) (h1 : kk ≤ 1000000000000) : Ev (fun k => laws_markIdS.f k l kk) (kk + 3 * l.length, markL kk l) := by
  have := mark_l0 l [] kk (by simpa using h) h0 (by omega)
  simpa [laws_markIdS.f] using this
theorem held_l0 : ∀ (rest pre : Mid) (kk : Int), pre.length + rest.length ≤ 1000000000 → 0 ≤ kk → kk + 3 * rest.length ≤ 4611686018427387904 → Ev (fun k => laws_heldIdS.l0 k (pre ++ markL kk rest) kk (pre.length : Int)) (kk + 3 * rest.length) := by
  intro rest
  induction rest with
  | nil =>
    intro pre kk h h0 h1
    refine Ev.step (fun k => rfl) ?_
    have h2 : ¬ ((pre.length : Int) < ((pre ++ markL kk ([] : Mid)).length : Int)) := by simp [markL]
    simp only [laws_heldIdS.l0, h2, if_false]
    simpa using Ev.now kk
  | cons x r ih =>
    intro pre kk h h0 h1
    refine Ev.step (fun k => rfl) ?_
    simp only [markL]
    have h2 : (pre.length : Int) < ((pre ++ (⟨kk, kk + 1, kk + 2⟩ : Cell) :: markL (kk + 3) r).length : Int) := by simp; omega
    have h3 : (0 : Int) ≤ (pre.length : Int) := by omega
    rw [List.length_cons] at h h1
    have e1 : wrap64 (kk + 1) = kk + 1 := w64 (by omega) (by omega)
    have e2 : wrap64 (kk + 1 + 1) = kk + 2 := by rw [w64 (by omega) (by omega)]; omega
    have e3 : wrap64 (kk + 2 + 1) = kk + 3 := by rw [w64 (by omega) (by omega)]; omega
    simp only [laws_heldIdS.l0, h2, h3, if_true, rd_mid, e1, e2, e3, wsucc (show pre.length < 4611686018427387904 by omega)]
    have := ih (pre ++ [⟨kk, kk + 1, kk + 2⟩]) (kk + 3) (by simp; omega) (by omega) (by omega)
    rw [List.append_assoc] at this
    simp only [List.singleton_append, List.length_append, List.length_singleton] at this
    rw [show kk + 3 * (((x :: r).length : Nat) : Int) = kk + 3 + 3 * (r.length : Int) by simp; omega]
    exact this
theorem held_ev (l : Mid) (kk : Int) (h : l.length ≤ 1000000000) (h0 : 0 ≤ kk) (h1 : kk ≤ 1000000000000) : Ev (fun k => laws_heldIdS.f k (markL kk l) kk) (kk + 3 * l.length) := by
  have := held_l0 l [] kk (by simpa using h) h0 (by omega)
  simpa [laws_heldIdS.f] using this
theorem markMesh_ev (R : Int) (l : Mid) (kk : Int) (h : l.length ≤ 1000000000) (h0 : 0 ≤ kk) (h1 : kk ≤ 1000000000000) : Ev (fun k => laws_markMesh.f k R l kk) (kk + 3 * l.length, markL kk l) := by
  unfold laws_markMesh.f
  refine Ev.bind (mark_ev l kk h h0 h1) ?_
  exact Ev.now _
theorem heldMesh_ev (R : Int) (l : Mid) (kk : Int) (h : l.length ≤ 1000000000) (h0 : 0 ≤ kk) (h1 : kk ≤ 1000000000000) : Ev (fun k => laws_heldMesh.f k R (markL kk l) kk) (kk + 3 * l.length) := by
  unfold laws_heldMesh.f
  refine Ev.bind (held_ev l kk h h0 h1) ?_
  have h2 : ¬ (kk + 3 * (l.length : Int) < 0) := by omega
  simp only [h2, if_false]
  exact Ev.now _


theorem rdi (l : List Int) (i : Nat) (h : i < l.length) : rd l (i : Int) = l[i] := by unfold rd; simp [h]
/-! states: copies, sizes, sums -/
theorem szInt_eq (l : List Int) (n : Int) (hl : l.length ≤ 9223372036854775807) (h0 : 0 ≤ n) (h1 : n ≤ 1048576) : laws_szIntS.f l n = some (if (l.length : Int) ≤ n then n - l.length else -1) := by
  unfold laws_szIntS.f
  rw [w64 (n := n - (l.length : Int)) (by omega) (by omega)]
  by_cases h : (l.length : Int) ≤ n
  · rw [if_neg (by omega), if_pos h]
  · rw [if_pos (by omega), if_neg h]
theorem toInt_l0 (l : List Int) (hl : l.length ≤ 1048576) : ∀ (d i : Nat) (acc : List Int), i + d = l.length → acc.length = l.length → acc.take i = l.take i → Ev (fun k => laws_toIntS.l0 k l acc (i : Int)) l := by
  intro d
  induction d with
  | zero =>
    intro i acc h ha ht
    refine Ev.step (fun k => rfl) ?_
    have h1 : ¬ ((i : Int) < (l.length : Int)) := by omega
    simp only [laws_toIntS.l0, h1, if_false]
    rw [List.take_of_length_le (by omega), List.take_of_length_le (by omega)] at ht
    rw [ht]; exact Ev.now _
  | succ d ih =>
    intro i acc h ha ht
    refine Ev.step (fun k => rfl) ?_
    have h1 : (i : Int) < (l.length : Int) := by omega
    have h2 : i < l.length := by omega
    have h3 : (0 : Int) ≤ (i : Int) := by omega
    have h4 : (i : Int) < (acc.length : Int) := by omega
    simp only [laws_toIntS.l0, h1, h3, h4, if_true, rdi l i h2, wsucc (show i < 4611686018427387904 by omega), Int.toNat_natCast]
    refine ih (i + 1) _ (by omega) (by rw [List.length_set]; exact ha) ?_
    rw [List.take_succ_eq_append_getElem (by rw [List.length_set]; omega), List.take_succ_eq_append_getElem h2, List.getElem_set_self, List.take_set_of_le (Nat.le_refl i), ht]
theorem toInt_ev (l : List Int) (hl : l.length ≤ 1048576) : Ev (fun k => laws_toIntS.f k l) l := by
  unfold laws_toIntS.f
  have h0 : (0 : Int) ≤ (l.length : Int) := by omega
  have h1 : ((l.length : Int)).toNat ≤ 35184372088832 := by omega
  simp only [h0, h1, if_true]
  exact toInt_l0 l hl l.length 0 _ (by omega) (by simp) rfl
theorem eqInt_l0 (l : List Int) (hl : l.length ≤ 1048576) : ∀ (d i : Nat), i + d = l.length → Ev (fun k => laws_eqIntS.l0 k l l (i : Int)) true := by
  intro d
  induction d with
  | zero =>
    intro i h
    refine Ev.step (fun k => rfl) ?_
    have h1 : ¬ ((i : Int) < (l.length : Int)) := by omega
    simp only [laws_eqIntS.l0, h1, if_false]; exact Ev.now _
  | succ d ih =>
    intro i h
    refine Ev.step (fun k => rfl) ?_
    have h1 : (i : Int) < (l.length : Int) := by omega
    have h3 : (0 : Int) ≤ (i : Int) := by omega
    simp only [laws_eqIntS.l0, h1, h3, if_true, wsucc (show i < 4611686018427387904 by omega)]
    exact ih (i + 1) (by omega)
theorem eqInt_refl (l : List Int) (hl : l.length ≤ 1048576) : Ev (fun k => laws_eqIntS.f k l l) true := by
  unfold laws_eqIntS.f
  simp only [if_true]
  exact eqInt_l0 l hl l.length 0 (by omega)
def sumW (a : Int) : List Int → Int
  | [] => a
  | x :: r => sumW (wrap64 (a + x)) r
theorem s_sum_l0 (l : List Int) (hl : l.length ≤ 1048576) : ∀ (d i : Nat) (a : Int), i + d = l.length → Ev (fun k => spec_l07Sum.l0 k l a (i : Int)) (sumW a (l.drop i)) := by
  intro d
  induction d with
  | zero =>
    intro i a h
    refine Ev.step (fun k => rfl) ?_
    have h1 : ¬ ((i : Int) < (l.length : Int)) := by omega
    rw [List.drop_eq_nil_of_le (by omega)]
    simp only [spec_l07Sum.l0, h1, if_false]; exact Ev.now _
  | succ d ih =>
    intro i a h
    refine Ev.step (fun k => rfl) ?_
    have h1 : (i : Int) < (l.length : Int) := by omega
    have h2 : i < l.length := by omega
    have h3 : (0 : Int) ≤ (i : Int) := by omega
    rw [List.drop_eq_getElem_cons h2]
    simp only [spec_l07Sum.l0, h1, h3, if_true, rdi l i h2, wsucc (show i < 4611686018427387904 by omega), sumW]
    exact ih (i + 1) _ (by omega)
theorem s_sum (l : List Int) (hl : l.length ≤ 1048576) : Ev (fun k => spec_l07Sum.f k l) (sumW 0 l) := s_sum_l0 l hl l.length 0 0 (by omega)
theorem i_sum_l0 (l : List Int) (hl : l.length ≤ 1048576) : ∀ (d i : Nat) (a : Int), i + d = l.length → Ev (fun k => impl_sum.l0 k a l (l.length : Int) (i : Int)) (sumW a (l.drop i)) := by
  intro d
  induction d with
  | zero =>
    intro i a h
    refine Ev.step (fun k => rfl) ?_
    have h1 : ¬ ((i : Int) < (l.length : Int)) := by omega
    rw [List.drop_eq_nil_of_le (by omega)]
    simp only [impl_sum.l0, h1, if_false]; exact Ev.now _
  | succ d ih =>
    intro i a h
    refine Ev.step (fun k => rfl) ?_
    have h1 : (i : Int) < (l.length : Int) := by omega
    have h2 : i < l.length := by omega
    have h3 : (0 : Int) ≤ (i : Int) := by omega
    rw [List.drop_eq_getElem_cons h2]
    simp only [impl_sum.l0, h1, h3, if_true, rdi l i h2, wsucc (show i < 4611686018427387904 by omega), sumW]
    exact ih (i + 1) _ (by omega)
theorem i_sum (l : List Int) (hl : l.length ≤ 1048576) : Ev (fun k => impl_sum.f k l) (sumW 0 l) := i_sum_l0 l hl l.length 0 0 (by omega)
def cellsOk : List Int → List Int → Bool
  | x :: xs, y :: ys => if 0 ≤ x ∧ x ≤ 10000000 then (if 0 ≤ y ∧ y ≤ wrap64 (1000 * x) then cellsOk xs ys else false) else false
  | _, _ => true
def bedsOk (l : List Int) : Bool := l.all fun b => decide (0 ≤ b ∧ b ≤ 1000000)
def stTail (m t b : List Int) : Bool := if bedsOk b = true then (if cellsOk m t = true then decide (sumW 0 m ≤ 10000000) else false) else false
def stOkB (R : Int) (l : Mid) (m t b : List Int) : Bool := if balB R l = true then (if m.length = l.length ∧ t.length = l.length ∧ (b.length : Int) = R then stTail m t b else false) else false
theorem s_st_l1 (R : Int) (l : Mid) (m t b : List Int) (hm : m.length ≤ 1048576) (hb : b.length ≤ 1048576) : ∀ (d i : Nat), i + d = b.length → Ev (fun k => spec_StateOk.l1 k (i : Int) R l m t b) (if bedsOk (b.drop i) = true then decide (sumW 0 m ≤ 10000000) else false) := by
  intro d
  induction d with
  | zero =>
    intro i h
    refine Ev.step (fun k => rfl) ?_
    have h1 : ¬ ((i : Int) < (b.length : Int)) := by omega
    rw [List.drop_eq_nil_of_le (by omega)]
    simp only [spec_StateOk.l1, h1, if_false]
    refine Ev.bind (s_sum m hm) ?_
    exact Ev.now _
  | succ d ih =>
    intro i h
    refine Ev.step (fun k => rfl) ?_
    have h1 : (i : Int) < (b.length : Int) := by omega
    have h2 : i < b.length := by omega
    have h3 : (0 : Int) ≤ (i : Int) := by omega
    rw [List.drop_eq_getElem_cons h2]
    simp only [spec_StateOk.l1, h1, h3, if_true, rdi b i h2, s_in, Option.bind_some, decide_eq_true_eq, wsucc (show i < 4611686018427387904 by omega)]
    by_cases h4 : 0 ≤ b[i] ∧ b[i] ≤ 1000000
    · have e : bedsOk (b[i] :: b.drop (i + 1)) = bedsOk (b.drop (i + 1)) := by unfold bedsOk; rw [List.all_cons, decide_eq_true h4, Bool.true_and]
      rw [e]
      simp only [h4, and_self, if_true]
      exact ih (i + 1) (by omega)
    · have e : bedsOk (b[i] :: b.drop (i + 1)) = false := by unfold bedsOk; rw [List.all_cons, decide_eq_false h4, Bool.false_and]
      rw [e]
      simp only [h4, if_false, Bool.false_eq_true]
      exact Ev.now _
theorem s_st_l0 (R : Int) (l : Mid) (m t b : List Int) (hm : m.length ≤ 1048576) (ht : t.length = m.length) (hb : b.length ≤ 1048576) : ∀ (d i : Nat), i + d = m.length → Ev (fun k => spec_StateOk.l0 k (i : Int) R l m t b) (if cellsOk (m.drop i) (t.drop i) = true then (if bedsOk b = true then decide (sumW 0 m ≤ 10000000) else false) else false) := by
  intro d
  induction d with
  | zero =>
    intro i h
    refine Ev.step (fun k => rfl) ?_
    have h1 : ¬ ((i : Int) < (m.length : Int)) := by omega
    rw [List.drop_eq_nil_of_le (show m.length ≤ i by omega)]
    simp only [spec_StateOk.l0, h1, if_false, cellsOk, if_true]
    exact s_st_l1 R l m t b hm hb b.length 0 (by omega)
  | succ d ih =>
    intro i h
    refine Ev.step (fun k => rfl) ?_
    have h1 : (i : Int) < (m.length : Int) := by omega
    have h2 : i < m.length := by omega
    have h3 : (0 : Int) ≤ (i : Int) := by omega
    have h5 : i < t.length := by omega
    have h6 : (i : Int) < (t.length : Int) := by omega
    rw [List.drop_eq_getElem_cons h2, List.drop_eq_getElem_cons h5]
    simp only [spec_StateOk.l0, h1, h3, h6, if_true, rdi m i h2, rdi t i h5, s_in, Option.bind_some, decide_eq_true_eq, wsucc (show i < 4611686018427387904 by omega), cellsOk]
    by_cases h4 : 0 ≤ m[i] ∧ m[i] ≤ 10000000
    · by_cases h7 : 0 ≤ t[i] ∧ t[i] ≤ wrap64 (1000 * m[i])
      · simp only [h4, h7, and_self, if_true]
        exact ih (i + 1) (by omega)
      · simp only [h4, h7, and_self, if_true, if_false, Bool.false_eq_true]
        exact Ev.now _
    · simp only [h4, if_false, Bool.false_eq_true]
      exact Ev.now _
theorem s_stj (R : Int) (l : Mid) (m t b : List Int) : Ev (fun k => spec_StateOk.j0 k true R l m t b) false := by
  refine Ev.step (fun k => rfl) ?_
  simp only [spec_StateOk.j0, if_true]; exact Ev.now _
theorem s_st (R : Int) (l : Mid) (m t b : List Int) (hl : l.length ≤ 1048576) (hm : m.length ≤ 1048576) (hb : b.length ≤ 1048576) : Ev (fun k => spec_StateOk.f k R l m t b) (stOkB R l m t b) := by
  unfold spec_StateOk.f stOkB
  refine Ev.bind (s_bal R l (by omega)) ?_
  by_cases h : balB R l = true
  · rw [if_pos h]
    by_cases h1 : m.length = l.length
    · have z1 : (m.length : Int) = (l.length : Int) := by omega
      by_cases h2 : t.length = m.length
      · have z2 : (t.length : Int) = (m.length : Int) := by omega
        simp only [eq_true h, eq_true z1, eq_true z2, if_true]
        refine Ev.step (fun k => rfl) ?_
        by_cases h3 : (b.length : Int) = R
        · rw [if_pos ⟨h1, by omega, h3⟩]
          have e : ((b.length : Int) != R) = false := by simp [h3]
          simp only [spec_StateOk.j0, e, Bool.false_eq_true, if_false]
          have := s_st_l0 R l m t b hm h2 hb m.length 0 (by omega)
          unfold stTail
          rw [List.drop_zero, List.drop_zero] at this
          cases hc : cellsOk m t <;> cases hd : bedsOk b <;> simp only [hc, hd, if_true, if_false, Bool.false_eq_true] at this ⊢ <;> exact this
        · rw [if_neg (fun p => h3 p.2.2)]
          have e : ((b.length : Int) != R) = true := by simp [h3]
          simp only [spec_StateOk.j0, e, if_true]; exact Ev.now _
      · have z2 : ¬ (t.length : Int) = (m.length : Int) := by omega
        rw [if_neg (fun p => h2 (by omega))]
        simp only [eq_true h, eq_true z1, eq_false z2, if_true, if_false]
        exact s_stj R l m t b
    · have z1 : ¬ (m.length : Int) = (l.length : Int) := by omega
      rw [if_neg (fun p => h1 p.1)]
      simp only [eq_true h, eq_false z1, if_true, if_false]
      exact s_stj R l m t b
  · rw [if_neg h]
    simp only [eq_false h, if_false]
    exact s_stj R l m t b
theorem any_beds (b : List Int) : b.any slices_ContainsFunc_int_int.p = !(bedsOk b) := by
  unfold bedsOk
  induction b with
  | nil => rfl
  | cons x r ih => rw [List.any_cons, List.all_cons, ih, Bool.not_and]; rfl
theorem i_st_l0 (R : Int) (l : Mid) (m t b : List Int) (hm : m.length ≤ 1048576) (ht : t.length = m.length) : ∀ (d i : Nat), i + d = m.length → Ev (fun k => impl_State_hasCells.l0 k m (m.length : Int) (i : Int) R l m t b) (if cellsOk (m.drop i) (t.drop i) = true then decide (sumW 0 m ≤ 10000000) else false) := by
  intro d
  induction d with
  | zero =>
    intro i h
    refine Ev.step (fun k => rfl) ?_
    have h1 : ¬ ((i : Int) < (m.length : Int)) := by omega
    rw [List.drop_eq_nil_of_le (show m.length ≤ i by omega)]
    simp only [impl_State_hasCells.l0, h1, if_false, cellsOk, if_true]
    refine Ev.bind (i_sum m hm) ?_
    exact Ev.now _
  | succ d ih =>
    intro i h
    refine Ev.step (fun k => rfl) ?_
    have h1 : (i : Int) < (m.length : Int) := by omega
    have h2 : i < m.length := by omega
    have h3 : (0 : Int) ≤ (i : Int) := by omega
    have h5 : i < t.length := by omega
    have h6 : (i : Int) < (t.length : Int) := by omega
    rw [List.drop_eq_getElem_cons h2, List.drop_eq_getElem_cons h5]
    simp only [impl_State_hasCells.l0, h1, h3, h6, if_true, rdi m i h2, rdi t i h5, i_in, Option.bind_some, decide_eq_true_eq, wsucc (show i < 4611686018427387904 by omega), cellsOk]
    by_cases h4 : 0 ≤ m[i] ∧ m[i] ≤ 10000000
    · by_cases h7 : 0 ≤ t[i] ∧ t[i] ≤ wrap64 (1000 * m[i])
      · simp only [h4, h7, and_self, if_true]
        exact ih (i + 1) (by omega)
      · simp only [h4, h7, and_self, if_true, if_false, Bool.false_eq_true]
        exact Ev.now _
    · simp only [h4, if_false, Bool.false_eq_true]
      exact Ev.now _
theorem i_stj (R : Int) (l : Mid) (m t b : List Int) : Ev (fun k => impl_State_hasCells.j0 k true R l m t b) false := by
  refine Ev.step (fun k => rfl) ?_
  simp only [impl_State_hasCells.j0, if_true]; exact Ev.now _
theorem i_st (R : Int) (l : Mid) (m t b : List Int) (hl : l.length ≤ 1048576) (hm : m.length ≤ 1048576) (hb : b.length ≤ 1048576) : Ev (fun k => impl_StateOk.f k R l m t b) (stOkB R l m t b) := by
  unfold impl_StateOk.f stOkB
  refine Ev.bind (i_bal R l (by omega)) ?_
  by_cases h : balB R l = true
  · rw [if_pos h]
    simp only [eq_true h, if_true]
    refine Ev.bind (a := if m.length = l.length ∧ t.length = l.length ∧ (b.length : Int) = R then stTail m t b else false) ?_ (Ev.now _)
    unfold impl_State_hasCells.f
    by_cases h1 : m.length = l.length
    · have z1 : (m.length : Int) = (l.length : Int) := by omega
      by_cases h2 : t.length = l.length
      · have z2 : (t.length : Int) = (l.length : Int) := by omega
        by_cases h3 : (b.length : Int) = R
        · rw [if_pos ⟨h1, h2, h3⟩]
          simp only [eq_true z1, eq_true z2, eq_true h3, if_true, slices_ContainsFunc_int_int.f, Option.bind_some, any_beds]
          unfold stTail
          cases hd : bedsOk b
          · simp only [Bool.not_false, Bool.false_eq_true, if_false]; exact i_stj R l m t b
          · simp only [Bool.not_true, if_true]
            refine Ev.step (fun k => rfl) ?_
            simp only [impl_State_hasCells.j0, Bool.false_eq_true, if_false]
            have := i_st_l0 R l m t b hm (by omega) m.length 0 (by omega)
            rw [List.drop_zero, List.drop_zero] at this
            cases hc : cellsOk m t <;> simp only [hc, if_true, if_false, Bool.false_eq_true] at this ⊢ <;> exact this
        · rw [if_neg (fun p => h3 p.2.2)]
          simp only [eq_true z1, eq_true z2, eq_false h3, if_true, if_false]; exact i_stj R l m t b
      · have z2 : ¬ (t.length : Int) = (l.length : Int) := by omega
        rw [if_neg (fun p => h2 p.2.1)]
        simp only [eq_true z1, eq_false z2, if_true, if_false]; exact i_stj R l m t b
    · have z1 : ¬ (m.length : Int) = (l.length : Int) := by omega
      rw [if_neg (fun p => h1 p.1)]
      simp only [eq_false z1, if_false]; exact i_stj R l m t b
  · rw [if_neg h]
    simp only [eq_false h, if_false]; exact Ev.now _
theorem szState_ex (R : Int) (l : List S101) (m t b : List Int) (hl : l.length ≤ 9223372036854775807) (hm : m.length ≤ 9223372036854775807) (ht : t.length ≤ 9223372036854775807) (hb : b.length ≤ 9223372036854775807) : ∃ r, laws_szState.f R l m t b 1048576 = some r ∧ (0 ≤ r → l.length + m.length + t.length + b.length ≤ 1048576) := by
  unfold laws_szState.f
  rw [sz_eq R l 1048576 hl (by omega) (by omega), Option.bind_some]
  by_cases h1 : (l.length : Int) ≤ 1048576
  · rw [if_pos h1, if_neg (by omega), szInt_eq m _ hm (by omega) (by omega), Option.bind_some]
    by_cases h2 : (m.length : Int) ≤ 1048576 - l.length
    · rw [if_pos h2, if_neg (by omega), szInt_eq t _ ht (by omega) (by omega), Option.bind_some]
      by_cases h3 : (t.length : Int) ≤ 1048576 - l.length - m.length
      · rw [if_pos h3, if_neg (by omega), szInt_eq b _ hb (by omega) (by omega), Option.bind_some]
        by_cases h4 : (b.length : Int) ≤ 1048576 - l.length - m.length - t.length
        · rw [if_pos h4, if_neg (by omega)]
          exact ⟨_, rfl, fun _ => by omega⟩
        · rw [if_neg h4, if_pos (by omega)]
          exact ⟨_, rfl, fun h => by omega⟩
      · rw [if_neg h3, if_pos (by omega)]
        exact ⟨_, rfl, fun h => by omega⟩
    · rw [if_neg h2, if_pos (by omega)]
      exact ⟨_, rfl, fun h => by omega⟩
  · rw [if_neg h1, if_pos (by omega)]
    exact ⟨_, rfl, fun h => by omega⟩
theorem toState_ev (R : Int) (l : List S101) (m t b : List Int) (hl : l.length ≤ 1048576) (hm : m.length ≤ 1048576) (ht : t.length ≤ 1048576) (hb : b.length ≤ 1048576) : Ev (fun k => laws_toState.f k R l m t b) (R, l.map conv, m, t, b) := by
  unfold laws_toState.f
  refine Ev.bind (toMesh_ev R l (by omega)) ?_
  refine Ev.bind (toInt_ev m hm) ?_
  refine Ev.bind (toInt_ev t ht) ?_
  refine Ev.bind (toInt_ev b hb) ?_
  exact Ev.now _

theorem s_copy (R : Int) (l : Mid) (hl : l.length ≤ 4194304) : spec_l04Copy.f R l = some (R, l) := by
  unfold spec_l04Copy.f
  simp only [Option.bind_some, List.length_nil, List.nil_append]
  rw [if_pos (by omega)]
theorem i_copy (R : Int) (l : Mid) (hl : l.length ≤ 4194304) : impl_copyMesh.f R l = some (R, l) := by
  unfold impl_copyMesh.f impl_Id_109.f
  rw [if_pos (by omega)]
  rfl
theorem meshFrom_len : ∀ (l : Mid) (a b : Int), meshFrom a l = some b → a + (l.length : Int) ≤ b
  | [], a, b, h => by
    have : a = b := by simpa [meshFrom] using h
    simp; omega
  | x :: r, a, b, h => by
    unfold meshFrom at h
    split at h
    · rename_i hx
      have := meshFrom_len r _ b h
      obtain ⟨h1, h2, h3, h4, _, _⟩ := idok_iff.1 hx.1
      have hw := (width_pos h3 h4).1
      unfold endP at this
      rw [hx.2] at this
      simp only [List.length_cons]
      omega
    · cases h
theorem meshOk_from {R : Int} {l : Mid} : meshOkB R l = true ↔ meshFrom 0 l = some (R * 16) ∧ 1 ≤ R ∧ R ≤ 8 := by
  constructor
  · intro h
    obtain ⟨a, h1, h2, h3, rfl⟩ := meshFin_true h
    exact ⟨h1, h2, h3⟩
  · rintro ⟨h1, h2, h3⟩
    unfold meshOkB
    rw [h1]
    simp [meshFin, h2, h3]
theorem meshOk_len {R : Int} {l : Mid} (h : meshOkB R l = true) : (l.length : Int) ≤ R * 16 ∧ 1 ≤ R ∧ R ≤ 8 := by
  obtain ⟨h1, h2, h3⟩ := meshOk_from.1 h
  have := meshFrom_len l 0 _ h1
  exact ⟨by omega, h2, h3⟩
def pcell (x : Cell) : Cell := ⟨(parentP x.f0 x.f1 x.f2).1, (parentP x.f0 x.f1 x.f2).2.1, (parentP x.f0 x.f1 x.f2).2.2.1⟩
def mergeP (l : Mid) (i : Nat) : Mid := match l[i]? with | some x => l.take i ++ [pcell x] ++ l.drop (i + 2) | none => l
theorem mergeP_at (l : Mid) (i : Nat) (h : i < l.length) : mergeP l i = l.take i ++ [pcell l[i]] ++ l.drop (i + 2) := by
  unfold mergeP
  rw [List.getElem?_eq_getElem h]
theorem mergeP_length (l : Mid) (i : Nat) (h : i + 2 ≤ l.length) : (mergeP l i).length + 1 = l.length := by
  rw [mergeP_at l i (by omega)]
  simp
  omega
theorem wsucc2 {i : Nat} (h : i < 4611686018427387904) : wrap64 ((i : Int) + 2) = ((i + 2 : Nat) : Int) := by rw [w64 (by omega) (by omega)]; omega
theorem mayCo_at {R : Int} {l : Mid} {i : Int} (h : mayCoB R l i = true) : ∃ n : Nat, i = n ∧ n + 2 ≤ l.length ∧ meshOkB R l = true ∧ coB l n = true := by
  unfold mayCoB at h
  split at h
  · rename_i hm
    split at h
    · rename_i hi
      obtain ⟨n, rfl⟩ := Int.eq_ofNat_of_zero_le hi.1
      exact ⟨n, rfl, by omega, hm, h⟩
    · cases h
  · cases h
theorem s_merge (R : Int) (l : Mid) (i : Nat) (hi : i + 2 ≤ l.length) (hl : l.length ≤ 4194304) : spec_l06Merge.f R l (i : Int) = some (R, mergeP l i) := by
  unfold spec_l06Merge.f
  rw [if_pos (by omega), if_pos (by omega), rdc l i (by omega), s_parent]
  simp only [Option.bind_some, List.length_nil, List.nil_append, Int.toNat_natCast, wsucc2 (show i < 4611686018427387904 by omega)]
  rw [if_pos (by omega), if_pos (by rw [List.length_take]; omega), if_pos (by rw [List.length_take]; omega), if_pos (by omega), if_pos (by omega), if_pos (by simp; omega), mergeP_at l i (by omega)]
  rfl
theorem i_coarsen (l : Mid) (i : Nat) (hi : i + 2 ≤ l.length) (hl : l.length ≤ 4194304) : impl_Mesh_coarsen.f l (i : Int) = some (mergeP l i) := by
  unfold impl_Mesh_coarsen.f
  rw [if_pos (by omega), Int.toNat_natCast, List.getElem?_eq_getElem (by omega)]
  simp only [i_parent, Option.bind_some]
  rw [if_pos (by omega), if_pos (by omega), mergeP_at l i (by omega)]
  rfl


end Go.Proofs.Ytbkkehjhfgocfaa.CoreFnExactCoarsenState
