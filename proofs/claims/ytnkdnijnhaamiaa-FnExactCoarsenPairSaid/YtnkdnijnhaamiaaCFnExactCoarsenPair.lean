/- What the printed functions beneath FnExactCoarsenPair compute, in plain words on numbers and lists; no condition of its own. -/
import Derived.Test.YtnkdnijnhaamiaaPFnExactCoarsenPairx9
set_option linter.unusedVariables false
set_option linter.unusedSimpArgs false
namespace Go.Proofs.Ytnkdnijnhaamiaa.CoreFnExactCoarsenPair
open Go.RowKit Go.Proofs.Ytnkdnijnhaamiaa.PFnExactCoarsenPair Go.Proofs.YtnkdnijnhaamiaaW.PrintWords Go.Proofs.YtnkdnijnhaamiaaW.PrintLast Go.Proofs.YtnkdnijnhaamiaaW.PrintMore

theorem w64 {n : Int} (h : -9223372036854775808 ≤ n) (h' : n ≤ 9223372036854775807) : wrap64 n = n := by unfold wrap64; omega
theorem wsucc {i : Nat} (h : i < 4611686018427387904) : wrap64 ((i : Int) + 1) = ((i + 1 : Nat) : Int) := by rw [w64 (by omega) (by omega)]; omega
theorem wlen1 {n : Nat} (h : n < 4611686018427387904) : wrap64 ((n : Int) - 1) = (n : Int) - 1 := w64 (by omega) (by omega)
theorem level_cases {b : Int} (h0 : 0 ≤ b) (h1 : b ≤ 4) : b = 0 ∨ b = 1 ∨ b = 2 ∨ b = 3 ∨ b = 4 := by omega
theorem u64_small {b : Int} (h0 : 0 ≤ b) (h1 : b ≤ 9223372036854775807) : IntKind.u64.wrap b = b := by
  rw [IntKind.wrap_u64]; omega
theorem shl1 {b : Int} (h0 : 0 ≤ b) (h1 : b ≤ 4) : shl .i64 1 b = 2 ^ b.toNat := by
  obtain rfl | rfl | rfl | rfl | rfl := level_cases h0 h1 <;> rfl
theorem shr16 {b : Int} (h0 : 0 ≤ b) (h1 : b ≤ 4) : shr .i64 16 b = 16 / 2 ^ b.toNat := by
  obtain rfl | rfl | rfl | rfl | rfl := level_cases h0 h1 <;> rfl

/-! cells -/
def idokB (a b c : Int) : Bool := decide (0 ≤ a ∧ a ≤ 7 ∧ 0 ≤ b ∧ b ≤ 4 ∧ 0 ≤ c ∧ c < 2 ^ b.toNat)
def widthP (b : Int) : Int := if 0 ≤ b ∧ b ≤ 4 then 16 / 2 ^ b.toNat else 0
def startP (a b c : Int) : Int := if idokB a b c = true then a * 16 + c * widthP b else -1
def endP (a b c : Int) : Int := startP a b c + widthP b
theorem idok_iff {a b c : Int} : idokB a b c = true ↔ (0 ≤ a ∧ a ≤ 7 ∧ 0 ≤ b ∧ b ≤ 4 ∧ 0 ≤ c ∧ c < 2 ^ b.toNat) := by unfold idokB; exact decide_eq_true_iff
theorem width_pos {b : Int} (h0 : 0 ≤ b) (h1 : b ≤ 4) : 1 ≤ widthP b ∧ widthP b ≤ 16 ∧ widthP b * 2 ^ b.toNat = 16 := by
  obtain rfl | rfl | rfl | rfl | rfl := level_cases h0 h1 <;> decide
theorem width_bd (b : Int) : 0 ≤ widthP b ∧ widthP b ≤ 16 := by
  by_cases h : 0 ≤ b ∧ b ≤ 4
  · have := width_pos h.1 h.2; omega
  · unfold widthP; rw [if_neg h]; omega
theorem cw_bd {b c : Int} (h0 : 0 ≤ b) (h1 : b ≤ 4) (h2 : 0 ≤ c) (h3 : c < 2 ^ b.toNat) : 0 ≤ c * widthP b ∧ c * widthP b + widthP b ≤ 16 := by
  obtain rfl | rfl | rfl | rfl | rfl := level_cases h0 h1
  · have : widthP 0 = 16 := by decide
    rw [this]; have h3' : c < 1 := h3; omega
  · have : widthP 1 = 8 := by decide
    rw [this]; have h3' : c < 2 := h3; omega
  · have : widthP 2 = 4 := by decide
    rw [this]; have h3' : c < 4 := h3; omega
  · have : widthP 3 = 2 := by decide
    rw [this]; have h3' : c < 8 := h3; omega
  · have : widthP 4 = 1 := by decide
    rw [this]; have h3' : c < 16 := h3; omega
theorem start_bd (a b c : Int) : -1 ≤ startP a b c ∧ startP a b c ≤ 127 := by
  unfold startP
  by_cases h : idokB a b c = true
  · rw [if_pos h]
    obtain ⟨h0, h1, h2, h3, h4, h5⟩ := idok_iff.1 h
    have := cw_bd h2 h3 h4 h5
    have := width_pos h2 h3
    omega
  · rw [if_neg h]; omega

theorem s_in (a b c : Int) : spec_l01In.f a b c = some (decide (b ≤ a ∧ a ≤ c)) := by
  unfold spec_l01In.f
  by_cases h : b ≤ a
  · simp [h]
  · simp [h]
theorem i_in (a b c : Int) : impl_within.f a b c = some (decide (b ≤ a ∧ a ≤ c)) := by
  unfold impl_within.f
  by_cases h : b ≤ a
  · simp [h]
  · simp [h]
theorem i_level (b : Int) : impl_isLevel.f b = some (decide (0 ≤ b ∧ b ≤ 4)) := by
  unfold impl_isLevel.f; rw [i_in]; rfl
theorem s_idok (a b c : Int) : spec_IdOk.f a b c = some (idokB a b c) := by
  unfold spec_IdOk.f idokB
  simp only [s_in, Option.bind_some, decide_eq_true_eq]
  by_cases h1 : 0 ≤ a ∧ a ≤ 7
  · rw [if_pos h1]
    by_cases h2 : 0 ≤ b ∧ b ≤ 4
    · rw [if_pos h2, u64_small h2.1 (by omega), if_pos h2.1, shl1 h2.1 h2.2]
      by_cases h3 : c ≥ 0
      · rw [if_pos h3]; congr 1; simp [h1, h2, h3]
      · rw [if_neg h3]; congr 1; simp; omega
    · rw [if_neg h2]; congr 1; simp; omega
  · rw [if_neg h1]; congr 1; simp; omega
theorem i_idok (a b c : Int) : impl_IdOk.f a b c = some (idokB a b c) := by
  unfold impl_IdOk.f idokB
  simp only [i_in, i_level, Option.bind_some, decide_eq_true_eq]
  by_cases h1 : 0 ≤ a ∧ a ≤ 7
  · rw [if_pos h1]
    by_cases h2 : 0 ≤ b ∧ b ≤ 4
    · have hp : (1 : Int) ≤ 2 ^ b.toNat ∧ (2 : Int) ^ b.toNat ≤ 16 := by obtain rfl | rfl | rfl | rfl | rfl := level_cases h2.1 h2.2 <;> decide
      rw [if_pos h2, if_pos h2.1, shl1 h2.1 h2.2, w64 (by omega) (by omega)]
      congr 1; rw [decide_eq_decide]; constructor <;> intro h <;> omega
    · rw [if_neg h2]; congr 1; simp; omega
  · rw [if_neg h1]; congr 1; simp; omega
theorem s_width (b : Int) : spec_WidthOf.f b = some (widthP b) := by
  unfold spec_WidthOf.f widthP
  simp only [s_in, Option.bind_some, decide_eq_true_eq]
  by_cases h2 : 0 ≤ b ∧ b ≤ 4
  · rw [if_pos h2, if_pos h2, u64_small h2.1 (by omega), if_pos h2.1, shr16 h2.1 h2.2]
  · rw [if_neg h2, if_neg h2]
theorem i_width (b : Int) : impl_WidthOf.f b = some (widthP b) := by
  unfold impl_WidthOf.f widthP
  simp only [i_level, Option.bind_some, decide_eq_true_eq]
  by_cases h2 : 0 ≤ b ∧ b ≤ 4
  · rw [if_pos h2, if_pos h2, if_pos h2.1, shr16 h2.1 h2.2]
  · rw [if_neg h2, if_neg h2]
theorem start_wrap {a b c : Int} (h : idokB a b c = true) : wrap64 (wrap64 (a * 16) + wrap64 (c * widthP b)) = a * 16 + c * widthP b := by
  obtain ⟨h0, h1, h2, h3, h4, h5⟩ := idok_iff.1 h
  have h6 := cw_bd h2 h3 h4 h5
  have h7 := width_pos h2 h3
  rw [w64 (n := a * 16) (by omega) (by omega), w64 (n := c * widthP b) (by omega) (by omega), w64 (by omega) (by omega)]
theorem s_start (a b c : Int) : spec_StartOf.f a b c = some (startP a b c) := by
  unfold spec_StartOf.f startP
  simp only [s_idok, s_width, Option.bind_some]
  by_cases h : idokB a b c = true
  · rw [if_pos h, if_pos h, start_wrap h]
  · rw [if_neg h, if_neg h]
theorem i_start (a b c : Int) : impl_StartOf.f a b c = some (startP a b c) := by
  unfold impl_StartOf.f startP
  simp only [i_idok, i_width, Option.bind_some]
  by_cases h : idokB a b c = true
  · rw [if_pos h, if_pos h, start_wrap h]
  · rw [if_neg h, if_neg h]
theorem end_wrap (a b c : Int) : wrap64 (startP a b c + widthP b) = endP a b c := by
  have h1 := start_bd a b c
  have h2 := width_bd b
  rw [w64 (by omega) (by omega)]; rfl
theorem s_end (a b c : Int) : spec_l04End.f a b c = some (endP a b c) := by
  unfold spec_l04End.f
  simp only [s_start, s_width, Option.bind_some, end_wrap]
theorem i_end (a b c : Int) : impl_endOf.f a b c = some (endP a b c) := by
  unfold impl_endOf.f
  simp only [i_start, i_width, Option.bind_some, end_wrap]

/-! lists of cells -/
abbrev Cell := S41
abbrev Mid := List Cell
theorem cell_ext {x y : Cell} : x = y ↔ x.f0 = y.f0 ∧ x.f1 = y.f1 ∧ x.f2 = y.f2 := by
  obtain ⟨a, b, c⟩ := x
  obtain ⟨a', b', c'⟩ := y
  simp
instance : DecidableEq Cell := fun x y => decidable_of_iff (x.f0 = y.f0 ∧ x.f1 = y.f1 ∧ x.f2 = y.f2) cell_ext.symm
theorem rdc (l : Mid) (i : Nat) (h : i < l.length) : rd_T41 l (i : Int) = l[i] := by
  unfold rd_T41; simp [h]
def meshFrom (at_ : Int) : Mid → Option Int
  | [] => some at_
  | x :: xs => if idokB x.f0 x.f1 x.f2 = true ∧ startP x.f0 x.f1 x.f2 = at_ then meshFrom (endP x.f0 x.f1 x.f2) xs else none
def meshFin (R : Int) : Option Int → Bool
  | none => false
  | some a => decide ((1 ≤ R ∧ R ≤ 8) ∧ a = R * 16)
def meshOkB (R : Int) (l : Mid) : Bool := meshFin R (meshFrom 0 l)
theorem meshFin_end (R a : Int) : (if (1 ≤ R ∧ R ≤ 8) then some (a == wrap64 (R * 16)) else some false) = some (meshFin R (some a)) := by
  unfold meshFin
  by_cases h : 1 ≤ R ∧ R ≤ 8
  · rw [if_pos h, w64 (by omega) (by omega)]; congr 1; simp [h]; rfl
  · rw [if_neg h]; congr 1; simp [h]
theorem s_mesh_l0 (R : Int) (l : Mid) (hl : l.length < 4611686018427387904) : ∀ (d i : Nat) (a : Int), i + d = l.length → Ev (fun k => spec_MeshOk.l0 k a (i : Int) R l) (meshFin R (meshFrom a (l.drop i))) := by
  intro d
  induction d with
  | zero =>
    intro i a h
    refine Ev.step (fun k => rfl) ?_
    have h1 : ¬ ((i : Int) < (l.length : Int)) := by omega
    rw [List.drop_eq_nil_of_le (by omega)]
    simp only [spec_MeshOk.l0, h1, if_false, s_in, Option.bind_some, decide_eq_true_eq]
    exact Ev.congr (fun k => meshFin_end R a) (Ev.now _)
  | succ d ih =>
    intro i a h
    refine Ev.step (fun k => rfl) ?_
    have h1 : (i : Int) < (l.length : Int) := by omega
    have h2 : i < l.length := by omega
    have h3 : (0 : Int) ≤ (i : Int) := by omega
    rw [List.drop_eq_getElem_cons h2]
    simp only [spec_MeshOk.l0, h1, h3, if_true, rdc l i h2, s_idok, s_start, s_end, Option.bind_some, wsucc (show i < 4611686018427387904 by omega), meshFrom]
    by_cases h4 : idokB l[i].f0 l[i].f1 l[i].f2 = true
    · by_cases h5 : startP l[i].f0 l[i].f1 l[i].f2 = a
      · simp only [h4, h5, if_true, and_self]
        exact ih (i + 1) _ (by omega)
      · simp only [h4, h5, if_true, if_false, and_false]
        exact Ev.now _
    · simp only [h4, if_false, false_and]
      exact Ev.now _
theorem s_mesh (R : Int) (l : Mid) (hl : l.length < 4611686018427387904) : Ev (fun k => spec_MeshOk.f k R l) (meshOkB R l) := by
  have := s_mesh_l0 R l hl l.length 0 0 (by omega)
  simpa [meshOkB, spec_MeshOk.f] using this
theorem i_mesh_l0 (R : Int) (l : Mid) (hl : l.length < 4611686018427387904) : ∀ (d i : Nat) (a : Int), i + d = l.length → Ev (fun k => impl_MeshOk.l0 k a l (l.length : Int) (i : Int) R l) (meshFin R (meshFrom a (l.drop i))) := by
  intro d
  induction d with
  | zero =>
    intro i a h
    refine Ev.step (fun k => rfl) ?_
    have h1 : ¬ ((i : Int) < (l.length : Int)) := by omega
    rw [List.drop_eq_nil_of_le (by omega)]
    simp only [impl_MeshOk.l0, h1, if_false, i_in, Option.bind_some, decide_eq_true_eq]
    exact Ev.congr (fun k => meshFin_end R a) (Ev.now _)
  | succ d ih =>
    intro i a h
    refine Ev.step (fun k => rfl) ?_
    have h1 : (i : Int) < (l.length : Int) := by omega
    have h2 : i < l.length := by omega
    have h3 : (0 : Int) ≤ (i : Int) := by omega
    rw [List.drop_eq_getElem_cons h2]
    simp only [impl_MeshOk.l0, h1, h3, if_true, rdc l i h2, i_idok, i_start, i_end, Option.bind_some, wsucc (show i < 4611686018427387904 by omega), meshFrom]
    by_cases h4 : idokB l[i].f0 l[i].f1 l[i].f2 = true
    · by_cases h5 : startP l[i].f0 l[i].f1 l[i].f2 = a
      · simp only [h4, h5, if_true, and_self]
        exact ih (i + 1) _ (by omega)
      · simp only [h4, h5, if_true, if_false, and_false]
        exact Ev.now _
    · simp only [h4, if_false, false_and]
      exact Ev.now _
theorem i_mesh (R : Int) (l : Mid) (hl : l.length < 4611686018427387904) : Ev (fun k => impl_MeshOk.f k R l) (meshOkB R l) := by
  have := i_mesh_l0 R l hl l.length 0 0 (by omega)
  simpa [meshOkB, impl_MeshOk.f] using this

/-! the arguments turned into the program's own types -/
def conv (x : S65) : Cell := ⟨x.f0, x.f1, x.f2⟩
theorem rdl (l : List S65) (i : Nat) (h : i < l.length) : rd_T65 l (i : Int) = l[i] := by
  unfold rd_T65; simp [h]
theorem toIdS_l0 (l : List S65) (hl : l.length < 4611686018427387904) : ∀ (d i : Nat), i + d = l.length → Ev (fun k => laws_toIdS.l0 k l ((l.take i).map conv ++ List.replicate d z41) (i : Int)) (l.map conv) := by
  intro d
  induction d with
  | zero =>
    intro i h
    refine Ev.step (fun k => rfl) ?_
    have h1 : ¬ ((i : Int) < (l.length : Int)) := by omega
    simp only [laws_toIdS.l0, h1, if_false, List.replicate_zero, List.append_nil, List.take_of_length_le (show l.length ≤ i by omega)]
    exact Ev.now _
  | succ d ih =>
    intro i h
    refine Ev.step (fun k => rfl) ?_
    have h1 : (i : Int) < (l.length : Int) := by omega
    have h2 : i < l.length := by omega
    have h3 : (0 : Int) ≤ (i : Int) := by omega
    have h4 : (i : Int) < ((((l.take i).map conv ++ List.replicate (d + 1) z41).length : Nat) : Int) := by simp; omega
    have h5 : ((l.take i).map conv ++ List.replicate (d + 1) z41).set ((i : Int)).toNat (conv l[i]) = (l.take (i + 1)).map conv ++ List.replicate d z41 := by
      have hlen : ((l.take i).map conv).length = i := by simp; omega
      rw [Int.toNat_natCast, List.set_append_right _ _ (by omega), hlen, Nat.sub_self, List.replicate_succ, List.set_cons_zero, List.take_succ_eq_append_getElem h2]
      simp only [List.map_append, List.map_cons, List.map_nil, List.append_assoc, List.singleton_append]
    simp only [laws_toIdS.l0, h1, h3, h4, if_true, rdl l i h2, laws_toId.f, Option.bind_some, wsucc (show i < 4611686018427387904 by omega)]
    rw [show (⟨l[i].f0, l[i].f1, l[i].f2⟩ : Cell) = conv l[i] from rfl, h5]
    exact ih (i + 1) (by omega)
theorem toIdS_ev (l : List S65) (hl : l.length ≤ 1048576) : Ev (fun k => laws_toIdS.f k l) (l.map conv) := by
  have h := toIdS_l0 l (by omega) l.length 0 (by omega)
  have h1 : (0 : Int) ≤ (l.length : Int) := by omega
  have h2 : ((l.length : Int)).toNat ≤ 11728124029610 := by omega
  refine Ev.congr (fun k => ?_) h
  simp only [laws_toIdS.f, h1, h2, if_true]
  simp
theorem toMesh_ev (R : Int) (l : List S65) (hl : l.length ≤ 1048576) : Ev (fun k => laws_toMesh.f k R l) (R, l.map conv) := by
  unfold laws_toMesh.f
  refine Ev.bind (toIdS_ev l hl) ?_
  exact Ev.now _
theorem sz_eq (R : Int) (l : List S65) (c : Int) (hl : l.length ≤ 9223372036854775807) (hc0 : 0 ≤ c) (hc : c ≤ 1048576) : laws_szMesh.f R l c = some (if (l.length : Int) ≤ c then c - l.length else -1) := by
  unfold laws_szMesh.f laws_szIdS.f
  rw [w64 (by omega) (by omega)]
  by_cases h : (l.length : Int) ≤ c
  · have h1 : ¬ (c - (l.length : Int) < 0) := by omega
    simp [h, h1]
  · have h1 : c - (l.length : Int) < 0 := by omega
    simp [h, h1]
theorem eqId_iff (x y : Cell) : laws_eqId.f x.f0 x.f1 x.f2 y.f0 y.f1 y.f2 = some (decide (x = y)) := by
  unfold laws_eqId.f
  rw [show decide (x = y) = decide (x.f0 = y.f0 ∧ x.f1 = y.f1 ∧ x.f2 = y.f2) from by rw [decide_eq_decide]; exact cell_ext]
  by_cases h1 : x.f0 = y.f0 <;> by_cases h2 : x.f1 = y.f1 <;> by_cases h3 : x.f2 = y.f2 <;> simp [h1, h2, h3]
theorem eqIdS_l0 (l l' : Mid) (he : l.length = l'.length) (hl : l.length < 4611686018427387904) : ∀ (d i : Nat), i + d = l.length → Ev (fun k => laws_eqIdS.l0 k l l' (i : Int)) (decide (l.drop i = l'.drop i)) := by
  intro d
  induction d with
  | zero =>
    intro i h
    refine Ev.step (fun k => rfl) ?_
    have h1 : ¬ ((i : Int) < (l.length : Int)) := by omega
    have h2 : l.drop i = l'.drop i := by rw [List.drop_eq_nil_of_le (by omega), List.drop_eq_nil_of_le (by omega)]
    simp only [laws_eqIdS.l0, h1, if_false, h2, decide_true]
    exact Ev.now _
  | succ d ih =>
    intro i h
    refine Ev.step (fun k => rfl) ?_
    have h1 : (i : Int) < (l.length : Int) := by omega
    have h1' : (i : Int) < (l'.length : Int) := by omega
    have h2 : i < l.length := by omega
    have h2' : i < l'.length := by omega
    have h3 : (0 : Int) ≤ (i : Int) := by omega
    rw [List.drop_eq_getElem_cons h2, List.drop_eq_getElem_cons h2']
    simp only [laws_eqIdS.l0, h1, h1', h3, if_true, rdc l i h2, rdc l' i h2', eqId_iff, Option.bind_some, wsucc (show i < 4611686018427387904 by omega), decide_eq_true_eq]
    by_cases h4 : l[i] = l'[i]
    · simp only [h4, if_true, List.cons.injEq, true_and]
      exact ih (i + 1) (by omega)
    · simp only [h4, if_false, List.cons.injEq, false_and, decide_false]
      exact Ev.now _
theorem eqIdS_ev (l l' : Mid) (hl : l.length < 4611686018427387904) : Ev (fun k => laws_eqIdS.f k l l') (decide (l = l')) := by
  unfold laws_eqIdS.f
  by_cases h : l.length = l'.length
  · have h' : (l.length : Int) = (l'.length : Int) := by omega
    simp only [h', if_true]
    have := eqIdS_l0 l l' h hl l.length 0 (by omega)
    simpa using this
  · have h' : ¬ (l.length : Int) = (l'.length : Int) := by omega
    have h2 : ¬ l = l' := fun e => h (by rw [e])
    simp only [h', if_false, h2, decide_false]
    exact Ev.now _
theorem eqMesh_ev (R R' : Int) (l l' : Mid) (hl : l.length < 4611686018427387904) : Ev (fun k => laws_eqMesh.f k R l R' l') (decide (R = R' ∧ l = l')) := by
  unfold laws_eqMesh.f
  by_cases h : R = R'
  · simp only [h, if_true, true_and]
    refine Ev.bind (eqIdS_ev l l' hl) ?_
    by_cases h2 : l = l'
    · simp only [h2, decide_true, if_true]; exact Ev.now _
    · simp only [h2, decide_false]; exact Ev.now _
  · simp only [h, if_false, false_and, decide_false]
    exact Ev.now _
theorem eqMesh_refl (R : Int) (l : Mid) (hl : l.length < 4611686018427387904) : Ev (fun k => laws_eqMesh.f k R l R l) true := by
  have := eqMesh_ev R R l l hl
  simpa using this


/-! what a valid mesh's leaves are -/
theorem meshFrom_all : ∀ (l : Mid) (a b : Int), meshFrom a l = some b → ∀ x ∈ l, idokB x.f0 x.f1 x.f2 = true := by
  intro l
  induction l with
  | nil => intro a b _ x hx; cases hx
  | cons y ys ih =>
    intro a b h x hx
    unfold meshFrom at h
    by_cases hy : idokB y.f0 y.f1 y.f2 = true ∧ startP y.f0 y.f1 y.f2 = a
    · rw [if_pos hy] at h
      rcases List.mem_cons.1 hx with rfl | hx
      · exact hy.1
      · exact ih _ _ h x hx
    · rw [if_neg hy] at h; cases h
theorem meshFin_true {R : Int} {o : Option Int} (h : meshFin R o = true) : ∃ a, o = some a ∧ 1 ≤ R ∧ R ≤ 8 ∧ a = R * 16 := by
  cases o with
  | none => cases h
  | some a =>
    have := of_decide_eq_true h
    exact ⟨a, rfl, this.1.1, this.1.2, this.2⟩
theorem meshOk_all {R : Int} {l : Mid} (h : meshOkB R l = true) : ∀ x ∈ l, idokB x.f0 x.f1 x.f2 = true := by
  obtain ⟨a, ha, _⟩ := meshFin_true h
  exact meshFrom_all l 0 a ha
theorem meshOk_lv {R : Int} {l : Mid} (h : meshOkB R l = true) : ∀ x ∈ l, 0 ≤ x.f1 ∧ x.f1 ≤ 4 := fun x hx => by
  have := idok_iff.1 (meshOk_all h x hx)
  omega
theorem meshOk_ne {R : Int} {l : Mid} (h : meshOkB R l = true) : l ≠ [] := by
  rintro rfl
  obtain ⟨a, ha, h1, h2, h3⟩ := meshFin_true h
  have : some (0 : Int) = some a := ha
  have := Option.some.inj this
  omega
theorem drop_two {l : Mid} {i : Nat} (h : i + 1 < l.length) : l.drop i = l[i] :: l[i + 1] :: l.drop (i + 2) := by
  rw [List.drop_eq_getElem_cons (show i < l.length by omega), List.drop_eq_getElem_cons h]
theorem drop_lt {l : Mid} {i : Nat} (h : l.length ≤ i + 1) : l.drop i = [] ∨ ∃ x, l.drop i = [x] := by
  by_cases h1 : i < l.length
  · refine .inr ⟨l[i], ?_⟩
    rw [List.drop_eq_getElem_cons h1, List.drop_eq_nil_of_le h]
  · exact .inl (List.drop_eq_nil_of_le (by omega))
/-! the first leaf whose right neighbour differs too much -/
def firstFrom (i : Nat) : Mid → Int
  | x :: y :: r => if x.f1 - y.f1 > 1 ∨ x.f1 - y.f1 < -1 then (i : Int) else firstFrom (i + 1) (y :: r)
  | _ => -1
def firstUn (l : Mid) : Int := firstFrom 0 l
theorem firstFrom_small {l : Mid} {i : Nat} (h : l.length ≤ i + 1) : firstFrom i (l.drop i) = -1 := by
  rcases drop_lt h with e | ⟨x, e⟩ <;> rw [e] <;> rfl
def Lv (l : Mid) : Prop := ∀ x ∈ l, 0 ≤ x.f1 ∧ x.f1 ≤ 4
theorem Lv.at {l : Mid} (h : Lv l) {i : Nat} (hi : i < l.length) : 0 ≤ l[i].f1 ∧ l[i].f1 ≤ 4 := h _ (List.getElem_mem hi)
/-! reads at an index -/
def mayRefB (R : Int) (l : Mid) (i : Int) : Bool := if meshOkB R l = true then (if 0 ≤ i ∧ i ≤ (l.length : Int) - 1 then decide ((rd_T41 l i).f1 < 4) else false) else false
theorem i_has (R : Int) (l : Mid) (i : Int) (hl : l.length < 4611686018427387904) : impl_Mesh_has.f R l i = some (decide (0 ≤ i ∧ i ≤ (l.length : Int) - 1)) := by
  unfold impl_Mesh_has.f
  rw [i_in, wlen1 hl]; rfl
def faceB (R : Int) (l : Mid) (i : Int) : Int := if meshOkB R l = true then (if 0 ≤ i ∧ i ≤ (l.length : Int) - 2 then mx (rd_T41 l i).f1 (rd_T41 l (i + 1)).f1 else -1) else -1
/-! the deepest level; how many faces have a level -/
def deepGo (m : Int) (l : Mid) : Int := l.foldl (fun m x => mx m x.f1) m
def deepB (R : Int) (l : Mid) : Int := if meshOkB R l = true then deepGo 0 l else -1
theorem deep_start {l : Mid} (hn : l ≠ []) (hv : Lv l) : deepGo (-1) l = deepGo 0 l := by
  cases l with
  | nil => exact absurd rfl hn
  | cons x xs =>
    have := hv x (List.mem_cons_self ..)
    unfold deepGo
    rw [List.foldl_cons, List.foldl_cons]
    congr 1
    unfold mx
    split <;> split <;> omega
def countFrom (lv c : Int) : Mid → Int
  | x :: y :: r => countFrom lv (if mx x.f1 y.f1 = lv then c + 1 else c) (y :: r)
  | _ => c
def countB (R : Int) (l : Mid) (lv : Int) : Int := if meshOkB R l = true then countFrom lv 0 l else 0
theorem countFrom_small {l : Mid} {i : Nat} (lv c : Int) (h : l.length ≤ i + 1) : countFrom lv c (l.drop i) = c := by
  rcases drop_lt h with e | ⟨x, e⟩ <;> rw [e] <;> rfl
theorem rdc1 (l : Mid) (i : Nat) (h : i + 1 < l.length) : rd_T41 l ((i : Int) + 1) = l[i + 1] := by
  have := rdc l (i + 1) h
  rw [← this]; congr 1

/-! one cell within another -/
def containsB (a b c a' b' c' : Int) : Bool := decide (idokB a b c = true ∧ idokB a' b' c' = true ∧ a = a' ∧ b ≤ b' ∧ c' / 2 ^ (b' - b).toNat = c)
theorem diff_wrap {b b' : Int} (h0 : 0 ≤ b) (h1 : b ≤ 4) (h2 : 0 ≤ b') (h3 : b' ≤ 4) : wrap64 (b' - b) = b' - b := w64 (by omega) (by omega)
theorem shr_small' {c d : Int} (h0 : 0 ≤ d) (h1 : d ≤ 4) : shr .i64 c d = c / 2 ^ d.toNat := by
  unfold shr
  rw [Nat.min_eq_left (show d.toNat ≤ IntKind.bits .i64 by have : IntKind.bits .i64 = 64 := rfl; omega)]

/-! parents, children, siblings -/
def parentP (a b c : Int) : Int × Int × Int × Bool := if idokB a b c = true ∧ b ≠ 0 then (a, b - 1, c / 2, true) else (0, 0, 0, false)
theorem half_wrap {a b c : Int} (h : idokB a b c = true) : wrap64 (b - 1) = b - 1 ∧ wrap64 (Int.tdiv c 2) = c / 2 := by
  obtain ⟨h0, h1, h2, h3, h4, h5⟩ := idok_iff.1 h
  have h6 : (2 : Int) ^ b.toNat ≤ 16 := by obtain rfl | rfl | rfl | rfl | rfl := level_cases h2 h3 <;> decide
  refine ⟨w64 (by omega) (by omega), ?_⟩
  rw [Int.tdiv_eq_ediv_of_nonneg h4, w64 (by omega) (by omega)]
theorem s_parent (a b c : Int) : spec_ParentOf.f a b c = some (parentP a b c) := by
  unfold spec_ParentOf.f parentP
  simp only [s_idok, Option.bind_some]
  by_cases h : idokB a b c = true
  · by_cases h1 : b = 0
    · simp [h, h1]
    · simp [h, h1, (half_wrap h).1, (half_wrap h).2]
  · simp [h]
theorem i_parent (a b c : Int) : impl_ParentOf.f a b c = some (parentP a b c) := by
  unfold impl_ParentOf.f parentP
  simp only [i_idok, Option.bind_some]
  by_cases h : idokB a b c = true
  · by_cases h1 : b = 0
    · simp [h, h1]
    · simp [h, h1, (half_wrap h).1, (half_wrap h).2]
  · simp [h]
def childP (a b c s : Int) : Int × Int × Int × Bool := if idokB a b c = true ∧ b ≠ 4 ∧ 0 ≤ s ∧ s ≤ 1 then (a, b + 1, 2 * c + s, true) else (0, 0, 0, false)
theorem child_wrap {a b c s : Int} (h : idokB a b c = true) (hs : 0 ≤ s ∧ s ≤ 1) : wrap64 (b + 1) = b + 1 ∧ wrap64 (wrap64 (2 * c) + s) = 2 * c + s := by
  obtain ⟨h0, h1, h2, h3, h4, h5⟩ := idok_iff.1 h
  have h6 : (2 : Int) ^ b.toNat ≤ 16 := by obtain rfl | rfl | rfl | rfl | rfl := level_cases h2 h3 <;> decide
  refine ⟨w64 (by omega) (by omega), ?_⟩
  rw [w64 (n := 2 * c) (by omega) (by omega), w64 (by omega) (by omega)]
def siblingB (a b c a' b' c' : Int) : Bool := decide (idokB a b c = true ∧ idokB a' b' c' = true ∧ a = a' ∧ b = b' ∧ c % 2 = 0 ∧ c' = c + 1)
theorem even_mod {c : Int} (h : 0 ≤ c) : Int.tmod c 2 = c % 2 := Int.tmod_eq_emod_of_nonneg h
theorem idx_bd {a b c : Int} (h : idokB a b c = true) : 0 ≤ c ∧ c ≤ 15 := by
  obtain ⟨h0, h1, h2, h3, h4, h5⟩ := idok_iff.1 h
  have h6 : (2 : Int) ^ b.toNat ≤ 16 := by obtain rfl | rfl | rfl | rfl | rfl := level_cases h2 h3 <;> decide
  omega
theorem s_sib (a b c a' b' c' : Int) : spec_IsSibling.f a b c a' b' c' = some (siblingB a b c a' b' c') := by
  unfold spec_IsSibling.f siblingB
  simp only [s_idok, Option.bind_some]
  by_cases h : idokB a b c = true
  · have hc := idx_bd h
    rw [if_pos h]
    by_cases h' : idokB a' b' c' = true
    · rw [if_pos h']
      by_cases h1 : a = a'
      · rw [if_pos h1]
        by_cases h2 : b = b'
        · rw [if_pos h2, even_mod hc.1]
          by_cases h3 : c % 2 = 0
          · rw [if_pos h3, w64 (n := c + 1) (by omega) (by omega)]
            congr 1; rw [Bool.eq_iff_iff]; simp only [beq_iff_eq, decide_eq_true_eq]
            exact ⟨fun e => ⟨h, h', h1, h2, h3, e⟩, fun p => p.2.2.2.2.2⟩
          · rw [if_neg h3]; congr 1; exact (decide_eq_false fun p => h3 p.2.2.2.2.1).symm
        · rw [if_neg h2]; congr 1; exact (decide_eq_false fun p => h2 p.2.2.2.1).symm
      · rw [if_neg h1]; congr 1; exact (decide_eq_false fun p => h1 p.2.2.1).symm
    · rw [if_neg h']; congr 1; exact (decide_eq_false fun p => h' p.2.1).symm
  · rw [if_neg h]; congr 1; exact (decide_eq_false fun p => h p.1).symm
theorem i_sib (a b c a' b' c' : Int) : impl_IsSibling.f a b c a' b' c' = some (siblingB a b c a' b' c') := by
  unfold impl_IsSibling.f siblingB
  simp only [i_parent, Option.bind_some]
  have key : ∀ p : idokB a b c = true ∧ idokB a' b' c' = true ∧ a = a' ∧ b = b' ∧ c % 2 = 0 ∧ c' = c + 1, b ≠ 0 := by
    rintro ⟨h, h', _, e, _, e2⟩ hb
    have e1 := (idok_iff.1 h').2.2.2.2.2
    have hc := idx_bd h
    rw [← e, hb] at e1
    have : (2 : Int) ^ (0 : Int).toNat = 1 := rfl
    omega
  by_cases hA : idokB a b c = true ∧ b ≠ 0
  · by_cases hB : idokB a' b' c' = true ∧ b' ≠ 0
    · rw [show parentP a b c = (a, b - 1, c / 2, true) from if_pos hA, show parentP a' b' c' = (a', b' - 1, c' / 2, true) from if_pos hB]
      have hc := idx_bd hA.1
      simp only [if_true]
      by_cases h4 : a = a' ∧ b = b' ∧ c / 2 = c' / 2
      · have h5 : (a == a' && (b - 1 == b' - 1 && c / 2 == c' / 2)) = true := by simp [h4]
        rw [if_pos h5, even_mod hc.1]
        by_cases h3 : c % 2 = 0
        · rw [if_pos h3, w64 (n := c + 1) (by omega) (by omega)]
          congr 1; rw [Bool.eq_iff_iff]; simp only [beq_iff_eq, decide_eq_true_eq]
          exact ⟨fun e => ⟨hA.1, hB.1, h4.1, h4.2.1, h3, e⟩, fun p => p.2.2.2.2.2⟩
        · rw [if_neg h3]; congr 1; exact (decide_eq_false fun p => h3 p.2.2.2.2.1).symm
      · have h5 : ¬ (a == a' && (b - 1 == b' - 1 && c / 2 == c' / 2)) = true := by
          intro h5
          simp only [Bool.and_eq_true, beq_iff_eq] at h5
          exact h4 ⟨h5.1, by omega, h5.2.2⟩
        rw [if_neg h5]; congr 1
        exact (decide_eq_false fun p => h4 ⟨p.2.2.1, p.2.2.2.1, by omega⟩).symm
    · rw [show parentP a b c = (a, b - 1, c / 2, true) from if_pos hA, show parentP a' b' c' = (0, 0, 0, false) from if_neg hB]
      simp only [if_true, Bool.false_eq_true, if_false]
      congr 1
      exact (decide_eq_false fun p => hB ⟨p.2.1, by rw [← p.2.2.2.1]; exact hA.2⟩).symm
  · rw [show parentP a b c = (0, 0, 0, false) from if_neg hA]
    simp only [Bool.false_eq_true, if_false]
    congr 1
    exact (decide_eq_false fun p => hA ⟨p.1, key p⟩).symm
/-! may a pair be coarsened -/
def coB (l : Mid) (i : Int) : Bool := if siblingB (rd_T41 l i).f0 (rd_T41 l i).f1 (rd_T41 l i).f2 (rd_T41 l (i + 1)).f0 (rd_T41 l (i + 1)).f1 (rd_T41 l (i + 1)).f2 = true then (if i ≠ 0 ∧ (rd_T41 l (i - 1)).f1 > (rd_T41 l i).f1 then false else (if i + 2 < (l.length : Int) then decide ((rd_T41 l (i + 2)).f1 ≤ (rd_T41 l i).f1) else true)) else false
def mayCoB (R : Int) (l : Mid) (i : Int) : Bool := if meshOkB R l = true then (if 0 ≤ i ∧ i ≤ (l.length : Int) - 2 then coB l i else false) else false
theorem s_may0 (R : Int) (l : Mid) (i : Int) (hl : l.length < 4611686018427387904) (h0 : 0 ≤ i) (h1 : i ≤ (l.length : Int) - 2) : spec_l06May.f R l i = some (coB l i) := by
  unfold spec_l06May.f coB
  rw [w64 (n := i + 1) (by omega) (by omega), w64 (n := i + 2) (by omega) (by omega), w64 (n := i - 1) (by omega) (by omega), if_pos h0, if_pos (by omega), if_pos (by omega), if_pos (by omega), s_sib, Option.bind_some]
  by_cases hs : siblingB (rd_T41 l i).f0 (rd_T41 l i).f1 (rd_T41 l i).f2 (rd_T41 l (i + 1)).f0 (rd_T41 l (i + 1)).f1 (rd_T41 l (i + 1)).f2 = true
  · rw [if_pos hs, if_pos hs]
    have right : (if i + 2 ≥ (l.length : Int) then some true else (if 0 ≤ i + 2 then (if i + 2 < (l.length : Int) then some (decide ((rd_T41 l (i + 2)).f1 ≤ (rd_T41 l i).f1)) else none) else none)) = some (if i + 2 < (l.length : Int) then decide ((rd_T41 l (i + 2)).f1 ≤ (rd_T41 l i).f1) else true) := by
      by_cases hr : i + 2 < (l.length : Int)
      · rw [if_neg (by omega), if_pos (by omega), if_pos hr, if_pos hr]
      · rw [if_pos (by omega), if_neg hr]
    rw [right]
    by_cases hz : i = 0
    · rw [if_pos hz, if_neg (fun h : i ≠ 0 ∧ (rd_T41 l (i - 1)).f1 > (rd_T41 l i).f1 => h.1 hz)]
    · rw [if_neg hz, if_pos (by omega), if_pos (by omega)]
      by_cases hg : (rd_T41 l (i - 1)).f1 > (rd_T41 l i).f1
      · rw [if_neg (by omega), if_pos ⟨hz, hg⟩]
      · rw [if_pos (by omega), if_neg (fun h : i ≠ 0 ∧ (rd_T41 l (i - 1)).f1 > (rd_T41 l i).f1 => hg h.2)]
  · rw [if_neg hs, if_neg hs]
theorem s_mayCo (R : Int) (l : Mid) (i : Int) (hl : l.length < 4611686018427387904) : Ev (fun k => spec_MayCoarsen.f k R l i) (mayCoB R l i) := by
  unfold spec_MayCoarsen.f mayCoB
  refine Ev.bind (s_mesh R l hl) ?_
  by_cases h : meshOkB R l = true
  · simp only [h, if_true, s_in, Option.bind_some, decide_eq_true_eq, w64 (n := (l.length : Int) - 2) (by omega) (by omega)]
    by_cases h2 : 0 ≤ i ∧ i ≤ (l.length : Int) - 2
    · rw [if_pos h2, s_may0 R l i hl h2.1 h2.2]
      simp only [h2, and_self, if_true, Option.bind_some]; exact Ev.now _
    · simp only [h2, if_false]; exact Ev.now _
  · simp only [h, if_false]; exact Ev.now _
theorem i_may0 (R : Int) (l : Mid) (i : Int) (hl : l.length < 4611686018427387904) (h0 : 0 ≤ i) (h1 : i ≤ (l.length : Int) - 2) : Ev (fun k => impl_Mesh_mayCoarsen.f k R l i) (coB l i) := by
  unfold impl_Mesh_mayCoarsen.f coB
  simp only [i_has R l i hl, i_has R l _ hl, Option.bind_some, w64 (n := i + 1) (by omega) (by omega)]
  have q1 : i ≤ (l.length : Int) - 1 := by omega
  have q2 : i + 1 ≤ (l.length : Int) - 1 := by omega
  have q3 : i < (l.length : Int) := by omega
  have q4 : i + 1 < (l.length : Int) := by omega
  have q5 : 0 ≤ i + 1 := by omega
  simp only [decide_eq_true_eq, h0, q1, q2, q3, q4, q5, and_self, if_true, i_sib, Option.bind_some]
  refine ⟨1, fun k hk => ?_⟩
  obtain ⟨k, rfl⟩ : ∃ j, k = j + 1 := ⟨k - 1, by omega⟩
  show impl_Mesh_mayCoarsen.j0 (k + 1) i _ R l = _
  rw [impl_Mesh_mayCoarsen.j0]
  by_cases hs : siblingB (rd_T41 l i).f0 (rd_T41 l i).f1 (rd_T41 l i).f2 (rd_T41 l (i + 1)).f0 (rd_T41 l (i + 1)).f1 (rd_T41 l (i + 1)).f2 = true
  · have hn : ¬ ((!siblingB (rd_T41 l i).f0 (rd_T41 l i).f1 (rd_T41 l i).f2 (rd_T41 l (i + 1)).f0 (rd_T41 l (i + 1)).f1 (rd_T41 l (i + 1)).f2) = true) := by rw [hs]; decide
    rw [if_neg hn, if_pos hs, if_pos h0, if_pos (by omega)]
    simp only [w64 (n := i + 2) (by omega) (by omega), w64 (n := i - 1) (by omega) (by omega), i_has R l _ hl, Option.bind_some, decide_eq_true_eq]
    have right : (if 0 ≤ i + 2 ∧ i + 2 ≤ (l.length : Int) - 1 then (if 0 ≤ i + 2 then (if i + 2 < (l.length : Int) then some (!(decide ((rd_T41 l (i + 2)).f1 > (rd_T41 l i).f1))) else none) else none) else some (!false)) = some (if i + 2 < (l.length : Int) then decide ((rd_T41 l (i + 2)).f1 ≤ (rd_T41 l i).f1) else true) := by
      by_cases hr : i + 2 < (l.length : Int)
      · rw [if_pos (by omega), if_pos (by omega), if_pos hr, if_pos hr]
        congr 1; rw [Bool.eq_iff_iff]; simp
      · rw [if_neg (by omega), if_neg hr]; rfl
    rw [right]
    by_cases hz : i = 0
    · rw [if_neg (by omega), if_neg (fun h : i ≠ 0 ∧ (rd_T41 l (i - 1)).f1 > (rd_T41 l i).f1 => h.1 hz)]
    · rw [if_pos (by omega), if_pos (by omega), if_pos (by omega)]
      by_cases hg : (rd_T41 l (i - 1)).f1 > (rd_T41 l i).f1
      · rw [if_pos hg, if_pos ⟨hz, hg⟩]
      · rw [if_neg hg, if_neg (fun h : i ≠ 0 ∧ (rd_T41 l (i - 1)).f1 > (rd_T41 l i).f1 => hg h.2)]
  · have hs' : siblingB (rd_T41 l i).f0 (rd_T41 l i).f1 (rd_T41 l i).f2 (rd_T41 l (i + 1)).f0 (rd_T41 l (i + 1)).f1 (rd_T41 l (i + 1)).f2 = false := by simpa using hs
    rw [hs', Bool.not_false, if_pos rfl, if_neg (by decide)]
theorem i_mayCo (R : Int) (l : Mid) (i : Int) (hl : l.length < 4611686018427387904) : Ev (fun k => impl_MayCoarsen.f k R l i) (mayCoB R l i) := by
  unfold impl_MayCoarsen.f mayCoB
  refine Ev.bind (i_mesh R l hl) ?_
  by_cases h : meshOkB R l = true
  · simp only [h, if_true, i_has R l i hl, Option.bind_some, decide_eq_true_eq]
    by_cases h2 : 0 ≤ i ∧ i ≤ (l.length : Int) - 2
    · rw [if_pos h2]
      have h3 : i ≤ (l.length : Int) - 1 := by omega
      simp only [ge_iff_le, h2.1, h3, and_self, if_true]
      refine Ev.bind (i_may0 R l i hl h2.1 h2.2) ?_
      exact Ev.now _
    · rw [if_neg h2]
      by_cases h0 : 0 ≤ i
      · by_cases h3 : i ≤ (l.length : Int) - 1
        · simp only [ge_iff_le, h0, h3, and_self, if_true]
          refine Ev.bind (a := false) ?_ (Ev.now _)
          unfold impl_Mesh_mayCoarsen.f
          simp only [i_has R l i hl, i_has R l _ hl, Option.bind_some, w64 (n := i + 1) (by omega) (by omega), decide_eq_true_eq]
          have h4 : ¬ (0 ≤ i + 1 ∧ i + 1 ≤ (l.length : Int) - 1) := by omega
          have h5 : 0 ≤ i ∧ i ≤ (l.length : Int) - 1 := ⟨h0, h3⟩
          simp only [h4, h5, and_self, if_true, if_false]
          refine ⟨1, fun k hk => ?_⟩
          obtain ⟨k, rfl⟩ : ∃ j, k = j + 1 := ⟨k - 1, by omega⟩
          unfold impl_Mesh_mayCoarsen.j0
          rfl
        · simp only [ge_iff_le, h0, h3, and_false, if_true, if_false]; exact Ev.now _
      · simp only [ge_iff_le, h0, if_false]; exact Ev.now _
  · simp only [h, if_false]; exact Ev.now _

/-! quotients -/
def divFloorP (a b : Int) : Int := if b ≤ 0 then 0 else if Int.tmod a b < 0 then wrap64 (wrap64 (Int.tdiv a b) - 1) else wrap64 (Int.tdiv a b)



/-! hexadecimal digits -/
def HEXD : ByteArray := ⟨#[48, 49, 50, 51, 52, 53, 54, 55, 56, 57, 97, 98, 99, 100, 101, 102]⟩
def figP (x : Int) : Int := if x < 10 then 48 + x else 87 + x
theorem fig_bt : ∀ n : Fin 16, bt HEXD (n.val : Int) = figP (n.val : Int) := by decide
theorem fig_at {x : Int} (h0 : 0 ≤ x) (h1 : x < 16) : bt HEXD x = figP x := by
  have := fig_bt ⟨x.toNat, by omega⟩
  simp only at this
  rwa [Int.toNat_of_nonneg h0] at this

def hexFrom (s : ByteArray) : Nat → List Int
  | 0 => []
  | n + 1 => hexFrom s n ++ [figP (bt s n / 16), figP (bt s n % 16)]
theorem hexFrom_length (s : ByteArray) : ∀ n, (hexFrom s n).length = 2 * n := by
  intro n
  induction n with
  | zero => rfl
  | succ n ih => simp [hexFrom, ih]; omega
def hexP (s : ByteArray) : ByteArray := strOfNums (hexFrom s s.size)

/-! two meshes alike -/
theorem ne3 (y z : Cell) : (!(y.f0 == z.f0) || (!(y.f1 == z.f1) || !(y.f2 == z.f2))) = !decide (y = z) := by
  rw [show decide (y = z) = decide (y.f0 = z.f0 ∧ y.f1 = z.f1 ∧ y.f2 = z.f2) from by rw [decide_eq_decide]; exact cell_ext]
  by_cases h1 : y.f0 = z.f0 <;> by_cases h2 : y.f1 = z.f1 <;> by_cases h3 : y.f2 = z.f2 <;> simp [h1, h2, h3]

/-! clamping -/
def clampP (n a b : Int) : Int := if b < a then a else if n < a then a else if b < n then b else n



/-! meshes of one level -/
def tailrow (r lv : Int) : Nat → Nat → Mid
  | _, 0 => []
  | i, d + 1 => ⟨r, lv, (i : Int)⟩ :: tailrow r lv (i + 1) d
def rowsFrom (lv : Int) (n : Nat) : Nat → Nat → Mid
  | _, 0 => []
  | r, d + 1 => tailrow (r : Int) lv 0 n ++ rowsFrom lv n (r + 1) d
def meshNewP (R lv : Int) : Int × Mid × Bool := if (1 ≤ R ∧ R ≤ 8) ∧ (0 ≤ lv ∧ lv ≤ 4) then (R, rowsFrom lv (2 ^ lv.toNat) 0 R.toNat, true) else (0, [], false)
theorem tailrow_length (r lv : Int) : ∀ d i, (tailrow r lv i d).length = d := by
  intro d
  induction d with
  | zero => intro i; rfl
  | succ d ih => intro i; simp [tailrow, ih]
theorem pow_lv {lv : Int} (h0 : 0 ≤ lv) (h1 : lv ≤ 4) : 1 ≤ 2 ^ lv.toNat ∧ 2 ^ lv.toNat ≤ 16 ∧ ((2 ^ lv.toNat : Nat) : Int) = 2 ^ lv.toNat := by
  obtain rfl | rfl | rfl | rfl | rfl := level_cases h0 h1 <;> decide
theorem rowsFrom_length (lv : Int) (n : Nat) : ∀ d r, (rowsFrom lv n r d).length = n * d := by
  intro d
  induction d with
  | zero => intro r; rfl
  | succ d ih => intro r; simp [rowsFrom, ih, tailrow_length, Nat.mul_succ]; omega
theorem meshNewP_len (R lv : Int) : (meshNewP R lv).2.1.length ≤ 128 := by
  unfold meshNewP
  by_cases h : (1 ≤ R ∧ R ≤ 8) ∧ (0 ≤ lv ∧ lv ≤ 4)
  · rw [if_pos h]
    simp only [rowsFrom_length]
    obtain ⟨p1, p2, p3⟩ := pow_lv h.2.1 h.2.2
    have : 2 ^ lv.toNat * R.toNat ≤ 16 * 8 := Nat.mul_le_mul p2 (by omega)
    omega
  · rw [if_neg h]; simp

/-! marks -/
def markL (k : Int) : Mid → Mid
  | [] => []
  | _ :: r => ⟨k, k + 1, k + 2⟩ :: markL (k + 3) r
theorem markL_length : ∀ (l : Mid) (k : Int), (markL k l).length = l.length := by
  intro l
  induction l with
  | nil => intro k; rfl
  | cons x r ih => intro k; simp [markL, ih]
theorem rd_mid (pre : Mid) (x : Cell) (r : Mid) : rd_T41 (pre ++ x :: r) (pre.length : Int) = x := by
  rw [rdc _ pre.length (by simp)]; simp
theorem set_mid (pre : Mid) (x y : Cell) (r : Mid) : (pre ++ x :: r).set ((pre.length : Int)).toNat y = pre ++ y :: r := by
  rw [Int.toNat_natCast, List.set_append_right _ _ (Nat.le_refl _)]; simp
theorem mark_l0 : ∀ (rest pre : Mid) (kk : Int), pre.length + rest.length ≤ 1000000000 → 0 ≤ kk → kk + 3 * rest.length ≤ 4611686018427387904 → Ev (fun k => laws_markIdS.l0 k (pre ++ rest) kk (pre.length : Int)) (kk + 3 * rest.length, pre ++ markL kk rest) := by
  intro rest
  induction rest with
  | nil =>
    intro pre kk h h0 h1
    refine Ev.step (fun k => rfl) ?_
    have h2 : ¬ ((pre.length : Int) < ((pre ++ ([] : Mid)).length : Int)) := by simp
    simp only [laws_markIdS.l0, h2, if_false]
    simpa [markL] using Ev.now (kk, pre)
  | cons x r ih =>
    intro pre kk h h0 h1
    refine Ev.step (fun k => rfl) ?_
    have h2 : (pre.length : Int) < ((pre ++ x :: r).length : Int) := by simp; omega
    have h3 : (0 : Int) ≤ (pre.length : Int) := by omega
    rw [List.length_cons] at h h1
    simp only [laws_markIdS.l0, h2, h3, if_true, Option.bind_some, rd_mid, set_mid]
    rw [w64 (n := kk + 1) (by omega) (by omega), w64 (n := kk + 1 + 1) (by omega) (by omega), w64 (n := kk + 1 + 1 + 1) (by omega) (by omega), wsucc (show pre.length < 4611686018427387904 by omega)]
    have := ih (pre ++ [⟨kk, kk + 1, kk + 1 + 1⟩]) (kk + 1 + 1 + 1) (by simp; omega) (by omega) (by omega)
    rw [List.append_assoc, List.append_assoc] at this
    simp only [List.singleton_append, List.length_append, List.length_singleton] at this
    simp only [markL]
    rw [show kk + 1 + 1 = kk + 2 by omega, show kk + 2 + 1 = kk + 3 by omega] at this ⊢
    rw [show kk + 3 * (((x :: r).length : Nat) : Int) = kk + 3 + 3 * (r.length : Int) by simp; omega]
    exact this
theorem mark_ev (l : Mid) (kk : Int) (h : l.length ≤ 1000000000) (h0 : 0 ≤ kk) (h1 : kk ≤ 1000000000000) : Ev (fun k => laws_markIdS.f k l kk) (kk + 3 * l.length, markL kk l) := by
  have := mark_l0 l [] kk (by simpa using h) h0 (by omega)
  simpa [laws_markIdS.f] using this
theorem held_l0 : ∀ (rest pre : Mid) (kk : Int), pre.length + rest.length ≤ 1000000000 → 0 ≤ kk → kk + 3 * rest.length ≤ 4611686018427387904 → Ev (fun k => laws_heldIdS.l0 k (pre ++ markL kk rest) kk (pre.length : Int)) (kk + 3 * rest.length) := by
  intro rest
  induction rest with
  | nil =>
    intro pre kk h h0 h1
    refine Ev.step (fun k => rfl) ?_
    have h2 : ¬ ((pre.length : Int) < ((pre ++ markL kk ([] : Mid)).length : Int)) := by simp [markL]
    simp only [laws_heldIdS.l0, h2, if_false]
    simpa using Ev.now kk
  | cons x r ih =>
    intro pre kk h h0 h1
    refine Ev.step (fun k => rfl) ?_
    simp only [markL]
    have h2 : (pre.length : Int) < ((pre ++ (⟨kk, kk + 1, kk + 2⟩ : Cell) :: markL (kk + 3) r).length : Int) := by simp; omega
    have h3 : (0 : Int) ≤ (pre.length : Int) := by omega
    rw [List.length_cons] at h h1
    have e1 : wrap64 (kk + 1) = kk + 1 := w64 (by omega) (by omega)
    have e2 : wrap64 (kk + 1 + 1) = kk + 2 := by rw [w64 (by omega) (by omega)]; omega
    have e3 : wrap64 (kk + 2 + 1) = kk + 3 := by rw [w64 (by omega) (by omega)]; omega
    simp only [laws_heldIdS.l0, h2, h3, if_true, rd_mid, e1, e2, e3, wsucc (show pre.length < 4611686018427387904 by omega)]
    have := ih (pre ++ [⟨kk, kk + 1, kk + 2⟩]) (kk + 3) (by simp; omega) (by omega) (by omega)
    rw [List.append_assoc] at this
    simp only [List.singleton_append, List.length_append, List.length_singleton] at this
    rw [show kk + 3 * (((x :: r).length : Nat) : Int) = kk + 3 + 3 * (r.length : Int) by simp; omega]
    exact this
theorem held_ev (l : Mid) (kk : Int) (h : l.length ≤ 1000000000) (h0 : 0 ≤ kk) (h1 : kk ≤ 1000000000000) : Ev (fun k => laws_heldIdS.f k (markL kk l) kk) (kk + 3 * l.length) := by
  have := held_l0 l [] kk (by simpa using h) h0 (by omega)
  simpa [laws_heldIdS.f] using this
theorem markMesh_ev (R : Int) (l : Mid) (kk : Int) (h : l.length ≤ 1000000000) (h0 : 0 ≤ kk) (h1 : kk ≤ 1000000000000) : Ev (fun k => laws_markMesh.f k R l kk) (kk + 3 * l.length, markL kk l) := by
  unfold laws_markMesh.f
  refine Ev.bind (mark_ev l kk h h0 h1) ?_
  exact Ev.now _
theorem heldMesh_ev (R : Int) (l : Mid) (kk : Int) (h : l.length ≤ 1000000000) (h0 : 0 ≤ kk) (h1 : kk ≤ 1000000000000) : Ev (fun k => laws_heldMesh.f k R (markL kk l) kk) (kk + 3 * l.length) := by
  unfold laws_heldMesh.f
  refine Ev.bind (held_ev l kk h h0 h1) ?_
  have h2 : ¬ (kk + 3 * (l.length : Int) < 0) := by omega
  simp only [h2, if_false]
  exact Ev.now _


def EMPTY : ByteArray := ⟨#[]⟩
theorem w2 {i : Nat} (h : i < 4611686018427387904) : wrap64 ((i : Int) + 2) = ((i + 2 : Nat) : Int) := by rw [w64 (by omega) (by omega)]; omega

theorem s_copy (R : Int) (l : Mid) (hl : l.length ≤ 4194304) : spec_l04Copy.f R l = some (R, l) := by
  unfold spec_l04Copy.f
  simp only [Option.bind_some, List.length_nil, List.nil_append]
  rw [if_pos (by omega)]
theorem i_copy (R : Int) (l : Mid) (hl : l.length ≤ 4194304) : impl_copyMesh.f R l = some (R, l) := by
  unfold impl_copyMesh.f impl_Id_74.f
  rw [if_pos (by omega)]
  rfl

def pcell (x : Cell) : Cell := ⟨(parentP x.f0 x.f1 x.f2).1, (parentP x.f0 x.f1 x.f2).2.1, (parentP x.f0 x.f1 x.f2).2.2.1⟩
def mergeP (l : Mid) (i : Nat) : Mid := match l[i]? with | some x => l.take i ++ [pcell x] ++ l.drop (i + 2) | none => l
theorem mergeP_at (l : Mid) (i : Nat) (h : i < l.length) : mergeP l i = l.take i ++ [pcell l[i]] ++ l.drop (i + 2) := by
  unfold mergeP
  rw [List.getElem?_eq_getElem h]
theorem mergeP_length (l : Mid) (i : Nat) (h : i + 2 ≤ l.length) : (mergeP l i).length + 1 = l.length := by
  rw [mergeP_at l i (by omega)]
  simp
  omega
theorem wsucc2 {i : Nat} (h : i < 4611686018427387904) : wrap64 ((i : Int) + 2) = ((i + 2 : Nat) : Int) := by rw [w64 (by omega) (by omega)]; omega
theorem s_merge (R : Int) (l : Mid) (i : Nat) (hi : i + 2 ≤ l.length) (hl : l.length ≤ 4194304) : spec_l06Merge.f R l (i : Int) = some (R, mergeP l i) := by
  unfold spec_l06Merge.f
  rw [if_pos (by omega), if_pos (by omega), rdc l i (by omega), s_parent]
  simp only [Option.bind_some, List.length_nil, List.nil_append, Int.toNat_natCast, wsucc2 (show i < 4611686018427387904 by omega)]
  rw [if_pos (by omega), if_pos (by rw [List.length_take]; omega), if_pos (by rw [List.length_take]; omega), if_pos (by omega), if_pos (by omega), if_pos (by simp; omega), mergeP_at l i (by omega)]
  rfl
theorem i_coarsen (l : Mid) (i : Nat) (hi : i + 2 ≤ l.length) (hl : l.length ≤ 4194304) : impl_Mesh_coarsen.f l (i : Int) = some (mergeP l i) := by
  unfold impl_Mesh_coarsen.f
  rw [if_pos (by omega), Int.toNat_natCast, List.getElem?_eq_getElem (by omega)]
  simp only [i_parent, Option.bind_some]
  rw [if_pos (by omega), if_pos (by omega), mergeP_at l i (by omega)]
  rfl
def coP (R : Int) (l : Mid) (i : Int) : Int × Mid × Bool := if mayCoB R l i = true then (R, mergeP l i.toNat, true) else (R, l, false)
theorem mayCo_at {R : Int} {l : Mid} {i : Int} (h : mayCoB R l i = true) : ∃ n : Nat, i = n ∧ n + 2 ≤ l.length ∧ meshOkB R l = true ∧ coB l n = true := by
  unfold mayCoB at h
  split at h
  · rename_i hm
    split at h
    · rename_i hi
      obtain ⟨n, rfl⟩ := Int.eq_ofNat_of_zero_le hi.1
      exact ⟨n, rfl, by omega, hm, h⟩
    · cases h
  · cases h
theorem coP_length (R : Int) (l : Mid) (i : Int) : (coP R l i).2.1.length ≤ l.length := by
  unfold coP
  split
  · rename_i h
    obtain ⟨n, rfl, hn, _⟩ := mayCo_at h
    have := mergeP_length l n hn
    show (mergeP l (n : Int).toNat).length ≤ _
    rw [Int.toNat_natCast]; omega
  · exact Nat.le_refl _
theorem s_coarsenPair (R : Int) (l : Mid) (i : Int) (hl : l.length ≤ 4194304) : Ev (fun k => spec_CoarsenPair.f k R l i) (coP R l i) := by
  unfold spec_CoarsenPair.f coP
  refine Ev.bind (s_mayCo R l i (by omega)) ?_
  by_cases h : mayCoB R l i = true
  · obtain ⟨n, rfl, hn, _⟩ := mayCo_at h
    simp only [h, if_true, s_merge R l n hn hl, Option.bind_some, Int.toNat_natCast]
    exact Ev.now _
  · simp only [h, if_false, s_copy R l hl, Option.bind_some, Bool.false_eq_true]
    exact Ev.now _
theorem i_coarsenPair (R : Int) (l : Mid) (i : Int) (hl : l.length ≤ 4194304) : Ev (fun k => impl_CoarsenPair.f k R l i) (coP R l i) := by
  unfold impl_CoarsenPair.f coP
  simp only [i_copy R l hl, Option.bind_some]
  refine Ev.bind (i_mayCo R l i (by omega)) ?_
  by_cases h : mayCoB R l i = true
  · obtain ⟨n, rfl, hn, _⟩ := mayCo_at h
    simp only [h, if_true, i_coarsen l n hn hl, Option.bind_some, Int.toNat_natCast]
    exact Ev.now _
  · simp only [h, if_false, Bool.false_eq_true]
    exact Ev.now _

end Go.Proofs.Ytnkdnijnhaamiaa.CoreFnExactCoarsenPair
