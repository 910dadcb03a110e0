/- What the printed functions beneath FnMeshTexts compute, in plain words on numbers and lists; no condition of its own. -/
import Derived.Test.YtpjmlgcpeebkdaaDoorPFnMeshTextsx6
set_option linter.unusedVariables false
set_option linter.unusedSimpArgs false
namespace Go.Proofs.YtpjmlgcpeebkdaaDoor.CoreFnMeshTexts
open Go.RowKit Go.Proofs.YtpjmlgcpeebkdaaDoor.PFnMeshTexts Go.Proofs.YtpjmlgcpeebkdaaDoorW.PrintWords Go.Proofs.YtpjmlgcpeebkdaaDoorW.PrintLast Go.Proofs.YtpjmlgcpeebkdaaDoorW.PrintMore

theorem w64 {n : Int} (h : -9223372036854775808 ≤ n) (h' : n ≤ 9223372036854775807) : wrap64 n = n := by unfold wrap64; omega
theorem wsucc {i : Nat} (h : i < 4611686018427387904) : wrap64 ((i : Int) + 1) = ((i + 1 : Nat) : Int) := by rw [w64 (by omega) (by omega)]; omega
theorem wlen1 {n : Nat} (h : n < 4611686018427387904) : wrap64 ((n : Int) - 1) = (n : Int) - 1 := w64 (by omega) (by omega)
theorem level_cases {b : Int} (h0 : 0 ≤ b) (h1 : b ≤ 4) : b = 0 ∨ b = 1 ∨ b = 2 ∨ b = 3 ∨ b = 4 := by omega
theorem u64_small {b : Int} (h0 : 0 ≤ b) (h1 : b ≤ 9223372036854775807) : IntKind.u64.wrap b = b := by
  rw [IntKind.wrap_u64]; omega
theorem shl1 {b : Int} (h0 : 0 ≤ b) (h1 : b ≤ 4) : shl .i64 1 b = 2 ^ b.toNat := by
  obtain rfl | rfl | rfl | rfl | rfl := level_cases h0 h1 <;> rfl
theorem shr16 {b : Int} (h0 : 0 ≤ b) (h1 : b ≤ 4) : shr .i64 16 b = 16 / 2 ^ b.toNat := by
  obtain rfl | rfl | rfl | rfl | rfl := level_cases h0 h1 <;> rfl

/-! cells -/
def idokB (a b c : Int) : Bool := decide (0 ≤ a ∧ a ≤ 7 ∧ 0 ≤ b ∧ b ≤ 4 ∧ 0 ≤ c ∧ c < 2 ^ b.toNat)
def widthP (b : Int) : Int := if 0 ≤ b ∧ b ≤ 4 then 16 / 2 ^ b.toNat else 0
def startP (a b c : Int) : Int := if idokB a b c = true then a * 16 + c * widthP b else -1
def endP (a b c : Int) : Int := startP a b c + widthP b
theorem idok_iff {a b c : Int} : idokB a b c = true ↔ (0 ≤ a ∧ a ≤ 7 ∧ 0 ≤ b ∧ b ≤ 4 ∧ 0 ≤ c ∧ c < 2 ^ b.toNat) := by unfold idokB; exact decide_eq_true_iff
theorem width_pos {b : Int} (h0 : 0 ≤ b) (h1 : b ≤ 4) : 1 ≤ widthP b ∧ widthP b ≤ 16 ∧ widthP b * 2 ^ b.toNat = 16 := by
  obtain rfl | rfl | rfl | rfl | rfl := level_cases h0 h1 <;> decide
theorem width_bd (b : Int) : 0 ≤ widthP b ∧ widthP b ≤ 16 := by
  by_cases h : 0 ≤ b ∧ b ≤ 4
  · have := width_pos h.1 h.2; omega
  · unfold widthP; rw [if_neg h]; omega
theorem cw_bd {b c : Int} (h0 : 0 ≤ b) (h1 : b ≤ 4) (h2 : 0 ≤ c) (h3 : c < 2 ^ b.toNat) : 0 ≤ c * widthP b ∧ c * widthP b + widthP b ≤ 16 := by
  obtain rfl | rfl | rfl | rfl | rfl := level_cases h0 h1
  · have : widthP 0 = 16 := by decide
    rw [this]; have h3' : c < 1 := h3; omega
  · have : widthP 1 = 8 := by decide
    rw [this]; have h3' : c < 2 := h3; omega
  · have : widthP 2 = 4 := by decide
    rw [this]; have h3' : c < 4 := h3; omega
  · have : widthP 3 = 2 := by decide
    rw [this]; have h3' : c < 8 := h3; omega
  · have : widthP 4 = 1 := by decide
    rw [this]; have h3' : c < 16 := h3; omega
theorem start_bd (a b c : Int) : -1 ≤ startP a b c ∧ startP a b c ≤ 127 := by
  unfold startP
  by_cases h : idokB a b c = true
  · rw [if_pos h]
    obtain ⟨h0, h1, h2, h3, h4, h5⟩ := idok_iff.1 h
    have := cw_bd h2 h3 h4 h5
    have := width_pos h2 h3
    omega
  · rw [if_neg h]; omega

theorem s_in (a b c : Int) : spec_l01In.f a b c = some (decide (b ≤ a ∧ a ≤ c)) := by
  unfold spec_l01In.f
  by_cases h : b ≤ a
  · simp [h]
  · simp [h]
theorem i_in (a b c : Int) : impl_within.f a b c = some (decide (b ≤ a ∧ a ≤ c)) := by
  unfold impl_within.f
  by_cases h : b ≤ a
  · simp [h]
  · simp [h]
theorem i_level (b : Int) : impl_isLevel.f b = some (decide (0 ≤ b ∧ b ≤ 4)) := by
  unfold impl_isLevel.f; rw [i_in]; rfl
theorem s_idok (a b c : Int) : spec_IdOk.f a b c = some (idokB a b c) := by
  unfold spec_IdOk.f idokB
  simp only [s_in, Option.bind_some, decide_eq_true_eq]
  by_cases h1 : 0 ≤ a ∧ a ≤ 7
  · rw [if_pos h1]
    by_cases h2 : 0 ≤ b ∧ b ≤ 4
    · rw [if_pos h2, u64_small h2.1 (by omega), if_pos h2.1, shl1 h2.1 h2.2]
      by_cases h3 : c ≥ 0
      · rw [if_pos h3]; congr 1; simp [h1, h2, h3]
      · rw [if_neg h3]; congr 1; simp; omega
    · rw [if_neg h2]; congr 1; simp; omega
  · rw [if_neg h1]; congr 1; simp; omega
theorem i_idok (a b c : Int) : impl_IdOk.f a b c = some (idokB a b c) := by
  unfold impl_IdOk.f idokB
  simp only [i_in, i_level, Option.bind_some, decide_eq_true_eq]
  by_cases h1 : 0 ≤ a ∧ a ≤ 7
  · rw [if_pos h1]
    by_cases h2 : 0 ≤ b ∧ b ≤ 4
    · have hp : (1 : Int) ≤ 2 ^ b.toNat ∧ (2 : Int) ^ b.toNat ≤ 16 := by obtain rfl | rfl | rfl | rfl | rfl := level_cases h2.1 h2.2 <;> decide
      rw [if_pos h2, if_pos h2.1, shl1 h2.1 h2.2, w64 (by omega) (by omega)]
      congr 1; rw [decide_eq_decide]; constructor <;> intro h <;> omega
    · rw [if_neg h2]; congr 1; simp; omega
  · rw [if_neg h1]; congr 1; simp; omega
theorem i_width (b : Int) : impl_WidthOf.f b = some (widthP b) := by
  unfold impl_WidthOf.f widthP
  simp only [i_level, Option.bind_some, decide_eq_true_eq]
  by_cases h2 : 0 ≤ b ∧ b ≤ 4
  · rw [if_pos h2, if_pos h2, if_pos h2.1, shr16 h2.1 h2.2]
  · rw [if_neg h2, if_neg h2]
theorem start_wrap {a b c : Int} (h : idokB a b c = true) : wrap64 (wrap64 (a * 16) + wrap64 (c * widthP b)) = a * 16 + c * widthP b := by
  obtain ⟨h0, h1, h2, h3, h4, h5⟩ := idok_iff.1 h
  have h6 := cw_bd h2 h3 h4 h5
  have h7 := width_pos h2 h3
  rw [w64 (n := a * 16) (by omega) (by omega), w64 (n := c * widthP b) (by omega) (by omega), w64 (by omega) (by omega)]
theorem i_start (a b c : Int) : impl_StartOf.f a b c = some (startP a b c) := by
  unfold impl_StartOf.f startP
  simp only [i_idok, i_width, Option.bind_some]
  by_cases h : idokB a b c = true
  · rw [if_pos h, if_pos h, start_wrap h]
  · rw [if_neg h, if_neg h]
theorem end_wrap (a b c : Int) : wrap64 (startP a b c + widthP b) = endP a b c := by
  have h1 := start_bd a b c
  have h2 := width_bd b
  rw [w64 (by omega) (by omega)]; rfl
theorem i_end (a b c : Int) : impl_endOf.f a b c = some (endP a b c) := by
  unfold impl_endOf.f
  simp only [i_start, i_width, Option.bind_some, end_wrap]

/-! lists of cells -/
abbrev Cell := S69
abbrev Mid := List Cell
theorem cell_ext {x y : Cell} : x = y ↔ x.f0 = y.f0 ∧ x.f1 = y.f1 ∧ x.f2 = y.f2 := by
  obtain ⟨a, b, c⟩ := x
  obtain ⟨a', b', c'⟩ := y
  simp
instance : DecidableEq Cell := fun x y => decidable_of_iff (x.f0 = y.f0 ∧ x.f1 = y.f1 ∧ x.f2 = y.f2) cell_ext.symm
theorem rdc (l : Mid) (i : Nat) (h : i < l.length) : rd_T69 l (i : Int) = l[i] := by
  unfold rd_T69; simp [h]
def meshFrom (at_ : Int) : Mid → Option Int
  | [] => some at_
  | x :: xs => if idokB x.f0 x.f1 x.f2 = true ∧ startP x.f0 x.f1 x.f2 = at_ then meshFrom (endP x.f0 x.f1 x.f2) xs else none
def meshFin (R : Int) : Option Int → Bool
  | none => false
  | some a => decide ((1 ≤ R ∧ R ≤ 8) ∧ a = R * 16)
def meshOkB (R : Int) (l : Mid) : Bool := meshFin R (meshFrom 0 l)
theorem meshFin_end (R a : Int) : (if (1 ≤ R ∧ R ≤ 8) then some (a == wrap64 (R * 16)) else some false) = some (meshFin R (some a)) := by
  unfold meshFin
  by_cases h : 1 ≤ R ∧ R ≤ 8
  · rw [if_pos h, w64 (by omega) (by omega)]; congr 1; simp [h]; rfl
  · rw [if_neg h]; congr 1; simp [h]
theorem i_mesh_l0 (R : Int) (l : Mid) (hl : l.length < 4611686018427387904) : ∀ (d i : Nat) (a : Int), i + d = l.length → Ev (fun k => impl_MeshOk.l0 k a l (l.length : Int) (i : Int) R l) (meshFin R (meshFrom a (l.drop i))) := by
  intro d
  induction d with
  | zero =>
    intro i a h
    refine Ev.step (fun k => rfl) ?_
    have h1 : ¬ ((i : Int) < (l.length : Int)) := by omega
    rw [List.drop_eq_nil_of_le (by omega)]
    simp only [impl_MeshOk.l0, h1, if_false, i_in, Option.bind_some, decide_eq_true_eq]
    exact Ev.congr (fun k => meshFin_end R a) (Ev.now _)
  | succ d ih =>
    intro i a h
    refine Ev.step (fun k => rfl) ?_
    have h1 : (i : Int) < (l.length : Int) := by omega
    have h2 : i < l.length := by omega
    have h3 : (0 : Int) ≤ (i : Int) := by omega
    rw [List.drop_eq_getElem_cons h2]
    simp only [impl_MeshOk.l0, h1, h3, if_true, rdc l i h2, i_idok, i_start, i_end, Option.bind_some, wsucc (show i < 4611686018427387904 by omega), meshFrom]
    by_cases h4 : idokB l[i].f0 l[i].f1 l[i].f2 = true
    · by_cases h5 : startP l[i].f0 l[i].f1 l[i].f2 = a
      · simp only [h4, h5, if_true, and_self]
        exact ih (i + 1) _ (by omega)
      · simp only [h4, h5, if_true, if_false, and_false]
        exact Ev.now _
    · simp only [h4, if_false, false_and]
      exact Ev.now _
theorem i_mesh (R : Int) (l : Mid) (hl : l.length < 4611686018427387904) : Ev (fun k => impl_MeshOk.f k R l) (meshOkB R l) := by
  have := i_mesh_l0 R l hl l.length 0 0 (by omega)
  simpa [meshOkB, impl_MeshOk.f] using this


/-! what a valid mesh's leaves are -/
theorem meshFrom_all : ∀ (l : Mid) (a b : Int), meshFrom a l = some b → ∀ x ∈ l, idokB x.f0 x.f1 x.f2 = true := by
  intro l
  induction l with
  | nil => intro a b _ x hx; cases hx
  | cons y ys ih =>
    intro a b h x hx
    unfold meshFrom at h
    by_cases hy : idokB y.f0 y.f1 y.f2 = true ∧ startP y.f0 y.f1 y.f2 = a
    · rw [if_pos hy] at h
      rcases List.mem_cons.1 hx with rfl | hx
      · exact hy.1
      · exact ih _ _ h x hx
    · rw [if_neg hy] at h; cases h
theorem meshFin_true {R : Int} {o : Option Int} (h : meshFin R o = true) : ∃ a, o = some a ∧ 1 ≤ R ∧ R ≤ 8 ∧ a = R * 16 := by
  cases o with
  | none => cases h
  | some a =>
    have := of_decide_eq_true h
    exact ⟨a, rfl, this.1.1, this.1.2, this.2⟩
theorem meshOk_all {R : Int} {l : Mid} (h : meshOkB R l = true) : ∀ x ∈ l, idokB x.f0 x.f1 x.f2 = true := by
  obtain ⟨a, ha, _⟩ := meshFin_true h
  exact meshFrom_all l 0 a ha
theorem meshOk_lv {R : Int} {l : Mid} (h : meshOkB R l = true) : ∀ x ∈ l, 0 ≤ x.f1 ∧ x.f1 ≤ 4 := fun x hx => by
  have := idok_iff.1 (meshOk_all h x hx)
  omega
theorem meshOk_ne {R : Int} {l : Mid} (h : meshOkB R l = true) : l ≠ [] := by
  rintro rfl
  obtain ⟨a, ha, h1, h2, h3⟩ := meshFin_true h
  have : some (0 : Int) = some a := ha
  have := Option.some.inj this
  omega
theorem drop_two {l : Mid} {i : Nat} (h : i + 1 < l.length) : l.drop i = l[i] :: l[i + 1] :: l.drop (i + 2) := by
  rw [List.drop_eq_getElem_cons (show i < l.length by omega), List.drop_eq_getElem_cons h]
theorem drop_lt {l : Mid} {i : Nat} (h : l.length ≤ i + 1) : l.drop i = [] ∨ ∃ x, l.drop i = [x] := by
  by_cases h1 : i < l.length
  · refine .inr ⟨l[i], ?_⟩
    rw [List.drop_eq_getElem_cons h1, List.drop_eq_nil_of_le h]
  · exact .inl (List.drop_eq_nil_of_le (by omega))
/-! the first leaf whose right neighbour differs too much -/
def firstFrom (i : Nat) : Mid → Int
  | x :: y :: r => if x.f1 - y.f1 > 1 ∨ x.f1 - y.f1 < -1 then (i : Int) else firstFrom (i + 1) (y :: r)
  | _ => -1
def firstUn (l : Mid) : Int := firstFrom 0 l
theorem firstFrom_small {l : Mid} {i : Nat} (h : l.length ≤ i + 1) : firstFrom i (l.drop i) = -1 := by
  rcases drop_lt h with e | ⟨x, e⟩ <;> rw [e] <;> rfl
def Lv (l : Mid) : Prop := ∀ x ∈ l, 0 ≤ x.f1 ∧ x.f1 ≤ 4
theorem Lv.at {l : Mid} (h : Lv l) {i : Nat} (hi : i < l.length) : 0 ≤ l[i].f1 ∧ l[i].f1 ≤ 4 := h _ (List.getElem_mem hi)
/-! reads at an index -/
def mayRefB (R : Int) (l : Mid) (i : Int) : Bool := if meshOkB R l = true then (if 0 ≤ i ∧ i ≤ (l.length : Int) - 1 then decide ((rd_T69 l i).f1 < 4) else false) else false
def faceB (R : Int) (l : Mid) (i : Int) : Int := if meshOkB R l = true then (if 0 ≤ i ∧ i ≤ (l.length : Int) - 2 then mx (rd_T69 l i).f1 (rd_T69 l (i + 1)).f1 else -1) else -1
/-! the deepest level; how many faces have a level -/
def deepGo (m : Int) (l : Mid) : Int := l.foldl (fun m x => mx m x.f1) m
def deepB (R : Int) (l : Mid) : Int := if meshOkB R l = true then deepGo 0 l else -1
theorem deep_start {l : Mid} (hn : l ≠ []) (hv : Lv l) : deepGo (-1) l = deepGo 0 l := by
  cases l with
  | nil => exact absurd rfl hn
  | cons x xs =>
    have := hv x (List.mem_cons_self ..)
    unfold deepGo
    rw [List.foldl_cons, List.foldl_cons]
    congr 1
    unfold mx
    split <;> split <;> omega
def countFrom (lv c : Int) : Mid → Int
  | x :: y :: r => countFrom lv (if mx x.f1 y.f1 = lv then c + 1 else c) (y :: r)
  | _ => c
def countB (R : Int) (l : Mid) (lv : Int) : Int := if meshOkB R l = true then countFrom lv 0 l else 0
theorem countFrom_small {l : Mid} {i : Nat} (lv c : Int) (h : l.length ≤ i + 1) : countFrom lv c (l.drop i) = c := by
  rcases drop_lt h with e | ⟨x, e⟩ <;> rw [e] <;> rfl
theorem rdc1 (l : Mid) (i : Nat) (h : i + 1 < l.length) : rd_T69 l ((i : Int) + 1) = l[i + 1] := by
  have := rdc l (i + 1) h
  rw [← this]; congr 1
theorem i_deep_l0 (l : Mid) (hl : l.length < 4611686018427387904) : ∀ (d i : Nat) (m : Int), i + d = l.length → Ev (fun k => impl_DeepestLevel.l0 k m l (l.length : Int) (i : Int)) (deepGo m (l.drop i)) := by
  intro d
  induction d with
  | zero =>
    intro i m h
    refine Ev.step (fun k => rfl) ?_
    have h1 : ¬ ((i : Int) < (l.length : Int)) := by omega
    rw [List.drop_eq_nil_of_le (by omega)]
    simp only [impl_DeepestLevel.l0, h1, if_false]
    exact Ev.now _
  | succ d ih =>
    intro i m h
    refine Ev.step (fun k => rfl) ?_
    have h1 : (i : Int) < (l.length : Int) := by omega
    have h2 : i < l.length := by omega
    have h3 : (0 : Int) ≤ (i : Int) := by omega
    rw [List.drop_eq_getElem_cons h2]
    simp only [impl_DeepestLevel.l0, h1, h3, if_true, rdc l i h2, wsucc (show i < 4611686018427387904 by omega)]
    exact ih (i + 1) _ (by omega)
theorem i_deep (R : Int) (l : Mid) (hl : l.length < 4611686018427387904) : Ev (fun k => impl_DeepestLevel.f k R l) (deepB R l) := by
  unfold impl_DeepestLevel.f deepB
  refine Ev.bind (i_mesh R l hl) ?_
  by_cases ho : meshOkB R l = true
  · have := i_deep_l0 l hl l.length 0 0 (by omega)
    rw [List.drop_zero] at this
    simpa [ho] using this
  · simp only [ho, if_false]; exact Ev.now _

/-! one cell within another -/
def containsB (a b c a' b' c' : Int) : Bool := decide (idokB a b c = true ∧ idokB a' b' c' = true ∧ a = a' ∧ b ≤ b' ∧ c' / 2 ^ (b' - b).toNat = c)
theorem diff_wrap {b b' : Int} (h0 : 0 ≤ b) (h1 : b ≤ 4) (h2 : 0 ≤ b') (h3 : b' ≤ 4) : wrap64 (b' - b) = b' - b := w64 (by omega) (by omega)
theorem shr_small' {c d : Int} (h0 : 0 ≤ d) (h1 : d ≤ 4) : shr .i64 c d = c / 2 ^ d.toNat := by
  unfold shr
  rw [Nat.min_eq_left (show d.toNat ≤ IntKind.bits .i64 by have : IntKind.bits .i64 = 64 := rfl; omega)]
theorem contains_iff {a b c a' b' c' : Int} (h : idokB a b c = true) (h' : idokB a' b' c' = true) : containsB a b c a' b' c' = decide (startP a b c ≤ startP a' b' c' ∧ startP a' b' c' + widthP b' ≤ startP a b c + widthP b) := by
  unfold containsB startP
  rw [if_pos h, if_pos h', decide_eq_decide]
  obtain ⟨h0, h1, h2, h3, h4, h5⟩ := idok_iff.1 h
  obtain ⟨g0, g1, g2, g3, g4, g5⟩ := idok_iff.1 h'
  have w0 : widthP 0 = 16 := by decide
  have w1 : widthP 1 = 8 := by decide
  have w2 : widthP 2 = 4 := by decide
  have w3 : widthP 3 = 2 := by decide
  have w4 : widthP 4 = 1 := by decide
  have p0 : (2 : Int) ^ (0 : Int).toNat = 1 := rfl
  have p1 : (2 : Int) ^ (1 : Int).toNat = 2 := rfl
  have p2 : (2 : Int) ^ (2 : Int).toNat = 4 := rfl
  have p3 : (2 : Int) ^ (3 : Int).toNat = 8 := rfl
  have p4 : (2 : Int) ^ (4 : Int).toNat = 16 := rfl
  simp only [h, h', true_and]
  obtain rfl | rfl | rfl | rfl | rfl := level_cases h2 h3 <;> obtain rfl | rfl | rfl | rfl | rfl := level_cases g2 g3 <;> simp only [w0, w1, w2, w3, w4, p0, p1, p2, p3, p4, Int.sub_self, Int.reduceSub, Int.reduceLE, true_and, false_and, and_false, false_iff, not_and, Int.ediv_one] at * <;> omega

/-! parents, children, siblings -/
def parentP (a b c : Int) : Int × Int × Int × Bool := if idokB a b c = true ∧ b ≠ 0 then (a, b - 1, c / 2, true) else (0, 0, 0, false)
theorem half_wrap {a b c : Int} (h : idokB a b c = true) : wrap64 (b - 1) = b - 1 ∧ wrap64 (Int.tdiv c 2) = c / 2 := by
  obtain ⟨h0, h1, h2, h3, h4, h5⟩ := idok_iff.1 h
  have h6 : (2 : Int) ^ b.toNat ≤ 16 := by obtain rfl | rfl | rfl | rfl | rfl := level_cases h2 h3 <;> decide
  refine ⟨w64 (by omega) (by omega), ?_⟩
  rw [Int.tdiv_eq_ediv_of_nonneg h4, w64 (by omega) (by omega)]
def childP (a b c s : Int) : Int × Int × Int × Bool := if idokB a b c = true ∧ b ≠ 4 ∧ 0 ≤ s ∧ s ≤ 1 then (a, b + 1, 2 * c + s, true) else (0, 0, 0, false)
theorem child_wrap {a b c s : Int} (h : idokB a b c = true) (hs : 0 ≤ s ∧ s ≤ 1) : wrap64 (b + 1) = b + 1 ∧ wrap64 (wrap64 (2 * c) + s) = 2 * c + s := by
  obtain ⟨h0, h1, h2, h3, h4, h5⟩ := idok_iff.1 h
  have h6 : (2 : Int) ^ b.toNat ≤ 16 := by obtain rfl | rfl | rfl | rfl | rfl := level_cases h2 h3 <;> decide
  refine ⟨w64 (by omega) (by omega), ?_⟩
  rw [w64 (n := 2 * c) (by omega) (by omega), w64 (by omega) (by omega)]
theorem child_key {a b c : Int} (h : idokB a b c = true) (hb : b ≠ 4) (s : Int) (s0 : 0 ≤ s) (s1 : s ≤ 1) : idokB a (b + 1) (2 * c + s) = true ∧ startP a (b + 1) (2 * c + s) = startP a b c + s * widthP (b + 1) ∧ widthP b = 2 * widthP (b + 1) := by
  have hs := h
  obtain ⟨h0, h1, h2, h3, h4, h5⟩ := idok_iff.1 h
  have key : idokB a (b + 1) (2 * c + s) = true ∧ widthP b = 2 * widthP (b + 1) := by
    obtain rfl | rfl | rfl | rfl | rfl := level_cases h2 h3
    · exact ⟨idok_iff.2 ⟨h0, h1, by omega, by omega, by omega, by change c < 1 at h5; change 2 * c + s < 2; omega⟩, by decide⟩
    · exact ⟨idok_iff.2 ⟨h0, h1, by omega, by omega, by omega, by change c < 2 at h5; change 2 * c + s < 4; omega⟩, by decide⟩
    · exact ⟨idok_iff.2 ⟨h0, h1, by omega, by omega, by omega, by change c < 4 at h5; change 2 * c + s < 8; omega⟩, by decide⟩
    · exact ⟨idok_iff.2 ⟨h0, h1, by omega, by omega, by omega, by change c < 8 at h5; change 2 * c + s < 16; omega⟩, by decide⟩
    · exact absurd rfl hb
  refine ⟨key.1, ?_, key.2⟩
  unfold startP
  rw [if_pos key.1, if_pos hs, key.2, Int.add_mul, Int.mul_comm 2 c, Int.mul_assoc]
  omega
theorem s_child (a b c s : Int) : spec_ChildOf.f a b c s = some (childP a b c s) := by
  unfold spec_ChildOf.f childP
  simp only [s_idok, s_in, Option.bind_some, decide_eq_true_eq]
  by_cases h : idokB a b c = true
  · by_cases h1 : b = 4
    · simp [h, h1]
    · by_cases h2 : 0 ≤ s ∧ s ≤ 1
      · simp [h, h1, h2, (child_wrap h h2).1, (child_wrap h h2).2]
      · simp [h, h1, h2]
  · simp [h]
def siblingB (a b c a' b' c' : Int) : Bool := decide (idokB a b c = true ∧ idokB a' b' c' = true ∧ a = a' ∧ b = b' ∧ c % 2 = 0 ∧ c' = c + 1)
theorem even_mod {c : Int} (h : 0 ≤ c) : Int.tmod c 2 = c % 2 := Int.tmod_eq_emod_of_nonneg h
theorem idx_bd {a b c : Int} (h : idokB a b c = true) : 0 ≤ c ∧ c ≤ 15 := by
  obtain ⟨h0, h1, h2, h3, h4, h5⟩ := idok_iff.1 h
  have h6 : (2 : Int) ^ b.toNat ≤ 16 := by obtain rfl | rfl | rfl | rfl | rfl := level_cases h2 h3 <;> decide
  omega
/-! may a pair be coarsened -/
def coB (l : Mid) (i : Int) : Bool := if siblingB (rd_T69 l i).f0 (rd_T69 l i).f1 (rd_T69 l i).f2 (rd_T69 l (i + 1)).f0 (rd_T69 l (i + 1)).f1 (rd_T69 l (i + 1)).f2 = true then (if i ≠ 0 ∧ (rd_T69 l (i - 1)).f1 > (rd_T69 l i).f1 then false else (if i + 2 < (l.length : Int) then decide ((rd_T69 l (i + 2)).f1 ≤ (rd_T69 l i).f1) else true)) else false
def mayCoB (R : Int) (l : Mid) (i : Int) : Bool := if meshOkB R l = true then (if 0 ≤ i ∧ i ≤ (l.length : Int) - 2 then coB l i else false) else false

/-! quotients -/
def divFloorP (a b : Int) : Int := if b ≤ 0 then 0 else if Int.tmod a b < 0 then wrap64 (wrap64 (Int.tdiv a b) - 1) else wrap64 (Int.tdiv a b)


/-! draws: a cursor (place i, number h) over the bytes l -/
theorem and_mask (x : Int) (m : Nat) (hm : m ≤ 9223372036854775807) : 0 ≤ Go.bits .and .i64 x (m : Int) ∧ Go.bits .and .i64 x (m : Int) ≤ m := by
  have h : ∃ a : Nat, Go.bits .and .i64 x (m : Int) = IntKind.i64.wrap ((a &&& m : Nat) : Int) := by
    refine ⟨(BitVec.ofInt 64 x).toNat, ?_⟩
    have hb : m % 18446744073709551616 = m := Nat.mod_eq_of_lt (by omega)
    show IntKind.i64.wrap (((BitVec.ofInt 64 x &&& BitVec.ofInt 64 (m : Int)).toNat : Nat) : Int) = _
    rw [BitVec.toNat_and, show (BitVec.ofInt 64 (m : Int)).toNat = m from by rw [BitVec.ofInt_natCast, BitVec.toNat_ofNat]; exact hb]
  obtain ⟨a, ha⟩ := h
  have h2 : a &&& m ≤ m := Nat.and_le_right
  rw [ha, IntKind.wrap_i64]
  omega
theorem and255 (x : Int) : 0 ≤ Go.bits .and .i64 x 255 ∧ Go.bits .and .i64 x 255 ≤ 255 := and_mask x 255 (by omega)
theorem s_byte (l : List Int) (i h : Int) (hl : l.length ≤ 9223372036854775806) (hi : 0 ≤ i) : ∃ r i' h', spec_l01Byte.f l i h = some (r, i', h') ∧ 0 ≤ i' ∧ 0 ≤ r ∧ r ≤ 255 := by
  unfold spec_l01Byte.f
  by_cases h1 : i < (l.length : Int)
  · rw [if_pos h1, if_pos hi]
    exact ⟨_, _, _, rfl, by rw [w64 (by omega) (by omega)]; omega, (and255 _).1, (and255 _).2⟩
  · rw [if_neg h1]
    exact ⟨_, _, _, rfl, hi, (and255 _).1, (and255 _).2⟩
theorem s_below (l : List Int) (i h n : Int) (hl : l.length ≤ 9223372036854775806) (hi : 0 ≤ i) : ∃ r i' h', spec_l01Below.f l i h n = some (r, i', h') ∧ 0 ≤ i' ∧ 0 ≤ r ∧ (0 < n → r < n) ∧ (n ≤ 0 → r = 0) := by
  unfold spec_l01Below.f
  by_cases h1 : n ≤ 0
  · rw [if_pos h1]
    exact ⟨_, _, _, rfl, hi, by omega, by omega, fun _ => rfl⟩
  · rw [if_neg h1]
    by_cases h2 : n ≤ 256
    · rw [if_pos h2]
      obtain ⟨r, i', h', e, hi', h0, h3⟩ := s_byte l i h hl hi
      rw [e]
      simp only [Option.bind_some]
      rw [if_neg (show ¬ n = 0 by omega)]
      exact ⟨_, _, _, rfl, hi', Int.tmod_nonneg _ h0, fun _ => Int.tmod_lt_of_pos _ (by omega), by omega⟩
    · rw [if_neg h2]
      obtain ⟨r1, i1, h1', e1, hi1, a1, b1⟩ := s_byte l i h hl hi
      obtain ⟨r2, i2, h2', e2, hi2, a2, b2⟩ := s_byte l i1 h1' hl hi1
      obtain ⟨r3, i3, h3', e3, hi3, a3, b3⟩ := s_byte l i2 h2' hl hi2
      obtain ⟨r4, i4, h4', e4, hi4, a4, b4⟩ := s_byte l i3 h3' hl hi3
      rw [e1]; simp only [Option.bind_some]
      rw [e2]; simp only [Option.bind_some]
      rw [e3]; simp only [Option.bind_some]
      rw [e4]; simp only [Option.bind_some]
      rw [if_neg (show ¬ n = 0 by omega)]
      refine ⟨_, _, _, rfl, hi4, ?_, fun _ => Int.tmod_lt_of_pos _ (by omega), by omega⟩
      apply Int.tmod_nonneg
      rw [w64 (n := r1 * 16777216) (by omega) (by omega), w64 (n := r2 * 65536) (by omega) (by omega), w64 (n := r1 * 16777216 + r2 * 65536) (by omega) (by omega), w64 (n := r3 * 256) (by omega) (by omega), w64 (n := r1 * 16777216 + r2 * 65536 + r3 * 256) (by omega) (by omega), w64 (by omega) (by omega)]
      omega
theorem s_once (l : List Int) (i h n : Int) (hl : l.length ≤ 9223372036854775806) (hi : 0 ≤ i) : ∃ (r : Bool) (i' h' : Int), spec_l01Once.f l i h n = some (r, i', h') ∧ 0 ≤ i' := by
  unfold spec_l01Once.f
  obtain ⟨r, i', h', e, hi', _⟩ := s_below l i h n hl hi
  rw [e]
  exact ⟨_, _, _, rfl, hi'⟩
theorem s_cur_l0 (l : List Int) (hl : l.length ≤ 1048576) : ∀ (d i : Nat) (h : Int), i + d = l.length → ∃ h', Ev (fun k => spec_l01New.l0 k l h (i : Int)) (l, 0, h') := by
  intro d
  induction d with
  | zero =>
    intro i h hd
    refine ⟨h, Ev.step (fun k => rfl) ?_⟩
    have h1 : ¬ ((i : Int) < (l.length : Int)) := by omega
    simp only [spec_l01New.l0, h1, if_false]
    exact Ev.now _
  | succ d ih =>
    intro i h hd
    have h1 : (i : Int) < (l.length : Int) := by omega
    have h3 : (0 : Int) ≤ (i : Int) := by omega
    by_cases h2 : (i : Int) < 4000
    · obtain ⟨h', e⟩ := ih (i + 1) (Go.bits .and .i64 (wrap64 ((wrap64 ((wrap64 (h * 131)) + (wrap64 (rd l (i : Int))))) + 7)) 1073741823) (by omega)
      refine ⟨h', Ev.step (fun k => rfl) ?_⟩
      simp only [spec_l01New.l0, h1, h2, h3, if_true, wsucc (show i < 4611686018427387904 by omega)]
      exact e
    · refine ⟨h, Ev.step (fun k => rfl) ?_⟩
      simp only [spec_l01New.l0, h1, h2, if_true, if_false]
      exact Ev.now _
theorem s_new (l : List Int) (hl : l.length ≤ 1048576) : ∃ h', Ev (fun k => spec_l01New.f k l) (l, 0, h') := by
  obtain ⟨h', e⟩ := s_cur_l0 l hl l.length 0 (wrap64 (98231 + (l.length : Int))) (by omega)
  exact ⟨h', by simpa [spec_l01New.f] using e⟩
theorem big_eq (l : List Int) : laws_big.f l = some (decide ((l.length : Int) > 1048576)) := rfl


/-! hexadecimal digits -/
def HEXD : ByteArray := ⟨#[48, 49, 50, 51, 52, 53, 54, 55, 56, 57, 97, 98, 99, 100, 101, 102]⟩
def figP (x : Int) : Int := if x < 10 then 48 + x else 87 + x
theorem fig_bt : ∀ n : Fin 16, bt HEXD (n.val : Int) = figP (n.val : Int) := by decide
theorem fig_at {x : Int} (h0 : 0 ≤ x) (h1 : x < 16) : bt HEXD x = figP x := by
  have := fig_bt ⟨x.toNat, by omega⟩
  simp only at this
  rwa [Int.toNat_of_nonneg h0] at this

def hexFrom (s : ByteArray) : Nat → List Int
  | 0 => []
  | n + 1 => hexFrom s n ++ [figP (bt s n / 16), figP (bt s n % 16)]
theorem hexFrom_length (s : ByteArray) : ∀ n, (hexFrom s n).length = 2 * n := by
  intro n
  induction n with
  | zero => rfl
  | succ n ih => simp [hexFrom, ih]; omega
def hexP (s : ByteArray) : ByteArray := strOfNums (hexFrom s s.size)

/-! two meshes alike -/
theorem ne3 (y z : Cell) : (!(y.f0 == z.f0) || (!(y.f1 == z.f1) || !(y.f2 == z.f2))) = !decide (y = z) := by
  rw [show decide (y = z) = decide (y.f0 = z.f0 ∧ y.f1 = z.f1 ∧ y.f2 = z.f2) from by rw [decide_eq_decide]; exact cell_ext]
  by_cases h1 : y.f0 = z.f0 <;> by_cases h2 : y.f1 = z.f1 <;> by_cases h3 : y.f2 = z.f2 <;> simp [h1, h2, h3]
theorem s_same_l0 (R R' : Int) (l l' : Mid) (he : l.length = l'.length) (hl : l.length < 4611686018427387904) : ∀ (d i : Nat), i + d = l.length → Ev (fun k => spec_SameMesh.l0 k (i : Int) R l R' l') (decide (l.drop i = l'.drop i)) := by
  intro d
  induction d with
  | zero =>
    intro i h
    refine Ev.step (fun k => rfl) ?_
    have h1 : ¬ ((i : Int) < (l.length : Int)) := by omega
    have h2 : l.drop i = l'.drop i := by rw [List.drop_eq_nil_of_le (by omega), List.drop_eq_nil_of_le (by omega)]
    simp only [spec_SameMesh.l0, h1, if_false, h2, decide_true]
    exact Ev.now _
  | succ d ih =>
    intro i h
    refine Ev.step (fun k => rfl) ?_
    have h1 : (i : Int) < (l.length : Int) := by omega
    have h1' : (i : Int) < (l'.length : Int) := by omega
    have h2 : i < l.length := by omega
    have h2' : i < l'.length := by omega
    have h3 : (0 : Int) ≤ (i : Int) := by omega
    rw [List.drop_eq_getElem_cons h2, List.drop_eq_getElem_cons h2']
    simp only [spec_SameMesh.l0, h1, h1', h3, if_true, rdc l i h2, rdc l' i h2', ne3, wsucc (show i < 4611686018427387904 by omega)]
    by_cases h4 : l[i] = l'[i]
    · simp only [h4, decide_true, Bool.not_true, Bool.false_eq_true, if_false, List.cons.injEq, true_and]
      exact ih (i + 1) (by omega)
    · simp only [h4, decide_false, Bool.not_false, if_true, List.cons.injEq, false_and]
      exact Ev.now _
theorem s_same (R R' : Int) (l l' : Mid) (hl : l.length < 4611686018427387904) : Ev (fun k => spec_SameMesh.f k R l R' l') (decide (R = R' ∧ l = l')) := by
  unfold spec_SameMesh.f
  by_cases h : R = R'
  · simp only [h, if_true, true_and]
    refine Ev.step (fun k => rfl) ?_
    by_cases h2 : l.length = l'.length
    · have h3 : ((l.length : Int) != (l'.length : Int)) = false := by simp [h2]
      simp only [spec_SameMesh.j0, h3, Bool.false_eq_true, if_false]
      have := s_same_l0 R' R' l l' h2 hl l.length 0 (by omega)
      simpa using this
    · have h3 : ((l.length : Int) != (l'.length : Int)) = true := by simp; omega
      have h4 : ¬ l = l' := fun e => h2 (by rw [e])
      simp only [spec_SameMesh.j0, h3, if_true, h4, decide_false]
      exact Ev.now _
  · simp only [h, if_false, false_and, decide_false]
    refine Ev.step (fun k => rfl) ?_
    simp only [spec_SameMesh.j0, if_true]
    exact Ev.now _

/-! clamping -/
def clampP (n a b : Int) : Int := if b < a then a else if n < a then a else if b < n then b else n



/-! meshes of one level -/
def tailrow (r lv : Int) : Nat → Nat → Mid
  | _, 0 => []
  | i, d + 1 => ⟨r, lv, (i : Int)⟩ :: tailrow r lv (i + 1) d
def rowsFrom (lv : Int) (n : Nat) : Nat → Nat → Mid
  | _, 0 => []
  | r, d + 1 => tailrow (r : Int) lv 0 n ++ rowsFrom lv n (r + 1) d
def meshNewP (R lv : Int) : Int × Mid × Bool := if (1 ≤ R ∧ R ≤ 8) ∧ (0 ≤ lv ∧ lv ≤ 4) then (R, rowsFrom lv (2 ^ lv.toNat) 0 R.toNat, true) else (0, [], false)
theorem tailrow_length (r lv : Int) : ∀ d i, (tailrow r lv i d).length = d := by
  intro d
  induction d with
  | zero => intro i; rfl
  | succ d ih => intro i; simp [tailrow, ih]
theorem pow_lv {lv : Int} (h0 : 0 ≤ lv) (h1 : lv ≤ 4) : 1 ≤ 2 ^ lv.toNat ∧ 2 ^ lv.toNat ≤ 16 ∧ ((2 ^ lv.toNat : Nat) : Int) = 2 ^ lv.toNat := by
  obtain rfl | rfl | rfl | rfl | rfl := level_cases h0 h1 <;> decide
theorem i_new_l1 (lv r R : Int) (R' : Int) (h0 : 0 ≤ lv) (h1 : lv ≤ 4) (res : Int × Mid × Bool) : ∀ (d i : Nat) (acc : Mid), i + d = 2 ^ lv.toNat → acc.length ≤ 1000 + i → Ev (fun k => impl_MeshNew.l0 k lv R (wrap64 (r + 1)) R' (acc ++ tailrow r lv i d)) res → Ev (fun k => impl_MeshNew.l1 k lv r R r (shl .i64 1 lv) (i : Int) R' acc) res := by
  obtain ⟨p1, p2, p3⟩ := pow_lv h0 h1
  intro d
  induction d with
  | zero =>
    intro i acc h hl he
    refine Ev.step (fun k => rfl) ?_
    have h2 : ¬ ((i : Int) < 2 ^ lv.toNat) := by rw [← p3]; omega
    simp only [impl_MeshNew.l1, shl1 h0 h1, h2, if_false]
    simpa [tailrow] using he
  | succ d ih =>
    intro i acc h hl he
    refine Ev.step (fun k => rfl) ?_
    have h2 : (i : Int) < 2 ^ lv.toNat := by rw [← p3]; omega
    have h3 : acc.length < 5864062014805 := by omega
    have h5 := ih (i + 1) (acc ++ [⟨r, lv, (i : Int)⟩]) (by omega) (by simp; omega) (by rw [List.append_assoc]; exact he)
    simp only [shl1 h0 h1] at h5
    simp only [impl_MeshNew.l1, shl1 h0 h1, h2, h3, if_true, wsucc (show i < 4611686018427387904 by omega)]
    exact h5
theorem i_new_l0 (R lv : Int) (R' : Int) (h0 : 0 ≤ lv) (h1 : lv ≤ 4) : ∀ (d r : Nat) (acc : Mid), (r : Int) + d = R → R ≤ 8 → acc.length ≤ 16 * r → Ev (fun k => impl_MeshNew.l0 k lv R (r : Int) R' acc) (R', acc ++ rowsFrom lv (2 ^ lv.toNat) r d, true) := by
  obtain ⟨p1, p2, p3⟩ := pow_lv h0 h1
  intro d
  induction d with
  | zero =>
    intro r acc h hR hl
    refine Ev.step (fun k => rfl) ?_
    have h2 : ¬ ((r : Int) < R) := by omega
    simp only [impl_MeshNew.l0, h2, if_false]
    simpa [rowsFrom] using Ev.now (R', acc, true)
  | succ d ih =>
    intro r acc h hR hl
    refine Ev.step (fun k => rfl) ?_
    have h2 : (r : Int) < R := by omega
    simp only [impl_MeshNew.l0, h2, h0, if_true]
    refine i_new_l1 lv r R R' h0 h1 _ (2 ^ lv.toNat) 0 acc (by omega) (by omega) ?_
    rw [wsucc (show r < 4611686018427387904 by omega)]
    have := ih (r + 1) (acc ++ tailrow (r : Int) lv 0 (2 ^ lv.toNat)) (by omega) hR (by rw [List.length_append, tailrow_length]; omega)
    rw [List.append_assoc] at this
    exact this
theorem i_meshNew (R lv : Int) : Ev (fun k => impl_MeshNew.f k R lv) (meshNewP R lv) := by
  unfold impl_MeshNew.f meshNewP
  simp only [i_in, i_level, Option.bind_some, decide_eq_true_eq]
  by_cases h1 : 1 ≤ R ∧ R ≤ 8
  · by_cases h2 : 0 ≤ lv ∧ lv ≤ 4
    · simp only [h1, h2, and_self, if_true, decide_true, Bool.not_true]
      refine Ev.step (fun k => rfl) ?_
      simp only [impl_MeshNew.j0, Bool.false_eq_true, if_false]
      have := i_new_l0 R lv R h2.1 h2.2 R.toNat 0 [] (by omega) h1.2 (by simp)
      simpa using this
    · simp only [h1, h2, and_false, and_self, if_true, if_false, decide_false, Bool.not_false]
      refine Ev.step (fun k => rfl) ?_
      simp only [impl_MeshNew.j0, if_true]
      exact Ev.now _
  · simp only [h1, if_false, false_and]
    refine Ev.step (fun k => rfl) ?_
    simp only [impl_MeshNew.j0, if_true]
    exact Ev.now _
theorem rowsFrom_length (lv : Int) (n : Nat) : ∀ d r, (rowsFrom lv n r d).length = n * d := by
  intro d
  induction d with
  | zero => intro r; rfl
  | succ d ih => intro r; simp [rowsFrom, ih, tailrow_length, Nat.mul_succ]; omega
theorem meshNewP_len (R lv : Int) : (meshNewP R lv).2.1.length ≤ 128 := by
  unfold meshNewP
  by_cases h : (1 ≤ R ∧ R ≤ 8) ∧ (0 ≤ lv ∧ lv ≤ 4)
  · rw [if_pos h]
    simp only [rowsFrom_length]
    obtain ⟨p1, p2, p3⟩ := pow_lv h.2.1 h.2.2
    have : 2 ^ lv.toNat * R.toNat ≤ 16 * 8 := Nat.mul_le_mul p2 (by omega)
    omega
  · rw [if_neg h]; simp


def EMPTY : ByteArray := ⟨#[]⟩
theorem w2 {i : Nat} (h : i < 4611686018427387904) : wrap64 ((i : Int) + 2) = ((i + 2 : Nat) : Int) := by rw [w64 (by omega) (by omega)]; omega
theorem meshFrom_app (l2 : Mid) : ∀ (l1 : Mid) (a : Int), meshFrom a (l1 ++ l2) = (meshFrom a l1).bind fun b => meshFrom b l2 := by
  intro l1
  induction l1 with
  | nil => intro a; rfl
  | cons x r ih =>
    intro a
    show (if idokB x.f0 x.f1 x.f2 = true ∧ startP x.f0 x.f1 x.f2 = a then meshFrom (endP x.f0 x.f1 x.f2) (r ++ l2) else none) = (if idokB x.f0 x.f1 x.f2 = true ∧ startP x.f0 x.f1 x.f2 = a then meshFrom (endP x.f0 x.f1 x.f2) r else none).bind fun b => meshFrom b l2
    by_cases h : idokB x.f0 x.f1 x.f2 = true ∧ startP x.f0 x.f1 x.f2 = a
    · rw [if_pos h, if_pos h]; exact ih _
    · rw [if_neg h, if_neg h]; rfl
theorem meshFrom_one {x : Cell} (h : idokB x.f0 x.f1 x.f2 = true) : meshFrom (startP x.f0 x.f1 x.f2) [x] = some (endP x.f0 x.f1 x.f2) := by
  unfold meshFrom
  rw [if_pos ⟨h, rfl⟩]; rfl
/-! drawn meshes -/
theorem s_root (s0 : List Int) (hs : s0.length ≤ 1048576) : ∀ (d : Nat) (x : Cell) (ch s1 s2 : Int) (out : Mid) (m : Nat), idokB x.f0 x.f1 x.f2 = true → x.f1 + m = 4 → m < d → 0 ≤ s1 → out.length + 2 ^ m ≤ 1000000 → ∃ t1 t2 lv, spec_l04Root.f d s0 s1 s2 x ch out = some (t1, t2, out ++ lv) ∧ 0 ≤ t1 ∧ meshFrom (startP x.f0 x.f1 x.f2) lv = some (endP x.f0 x.f1 x.f2) ∧ lv.length ≤ 2 ^ m := by
  intro d
  induction d with
  | zero => intro x ch s1 s2 out m _ _ h; omega
  | succ d ih =>
    intro x ch s1 s2 out m hx hm hd h1 ho
    have pm : 1 ≤ 2 ^ m := Nat.one_le_two_pow
    have hadd : ∀ a b : Int, 0 ≤ a → ∃ t1 t2 lv, spec_l04Root.add a b out x = some (t1, t2, out ++ lv) ∧ 0 ≤ t1 ∧ meshFrom (startP x.f0 x.f1 x.f2) lv = some (endP x.f0 x.f1 x.f2) ∧ lv.length ≤ 2 ^ m := by
      intro a b ha
      unfold spec_l04Root.add
      rw [if_pos (by omega)]
      exact ⟨a, b, [x], rfl, ha, meshFrom_one hx, pm⟩
    unfold spec_l04Root.f
    by_cases h4 : x.f1 = 4
    · rw [if_pos h4]; exact hadd s1 s2 h1
    · rw [if_neg h4]
      obtain ⟨r, a, b, e, ha⟩ := s_once s0 s1 s2 ch (by omega) h1
      rw [e]
      simp only [Option.bind_some]
      cases r with
      | false => rw [if_neg (by decide)]; exact hadd a b ha
      | true =>
        rw [if_pos rfl]
        obtain ⟨n, rfl⟩ : ∃ n, m = n + 1 := ⟨m - 1, by omega⟩
        have pn : (2 : Nat) ^ (n + 1) = 2 ^ n + 2 ^ n := by rw [Nat.pow_succ]; omega
        obtain ⟨k1, k2, k3⟩ := child_key hx h4 0 (by omega) (by omega)
        obtain ⟨k4, k5, _⟩ := child_key hx h4 1 (by omega) (by omega)
        have c0 : childP x.f0 x.f1 x.f2 0 = (x.f0, x.f1 + 1, 2 * x.f2 + 0, true) := if_pos ⟨hx, h4, by omega, by omega⟩
        have c1 : childP x.f0 x.f1 x.f2 1 = (x.f0, x.f1 + 1, 2 * x.f2 + 1, true) := if_pos ⟨hx, h4, by omega, by omega⟩
        obtain ⟨t1, t2, l1, e1, q1, m1, n1⟩ := ih ⟨x.f0, x.f1 + 1, 2 * x.f2 + 0⟩ (wrap64 (ch + 1)) a b out n k1 (by show x.f1 + 1 + (n : Int) = 4; omega) (by omega) ha (by omega)
        obtain ⟨t3, t4, l2, e2, q2, m2, n2⟩ := ih ⟨x.f0, x.f1 + 1, 2 * x.f2 + 1⟩ (wrap64 (ch + 1)) t1 t2 (out ++ l1) n k4 (by show x.f1 + 1 + (n : Int) = 4; omega) (by omega) q1 (by rw [List.length_append]; omega)
        refine ⟨t3, t4, l1 ++ l2, ?_, q2, ?_, by rw [List.length_append]; omega⟩
        · have z : ((0 : Int) + 1) = 1 := rfl
          simp only [spec_l04Root.kids, s_child, c0, Option.bind_some, e1, z, c1, e2, List.append_assoc]
        · rw [meshFrom_app]
          have w0 : startP x.f0 (x.f1 + 1) (2 * x.f2 + 0) = startP x.f0 x.f1 x.f2 := by rw [k2]; omega
          have w1 : startP x.f0 (x.f1 + 1) (2 * x.f2 + 1) = endP x.f0 (x.f1 + 1) (2 * x.f2 + 0) := by unfold endP; rw [k5, w0]; omega
          have w2 : endP x.f0 (x.f1 + 1) (2 * x.f2 + 1) = endP x.f0 x.f1 x.f2 := by unfold endP; rw [k5, k3]; omega
          rw [← w0]
          show (meshFrom (startP x.f0 (x.f1 + 1) (2 * x.f2 + 0)) l1).bind _ = _
          rw [show meshFrom (startP x.f0 (x.f1 + 1) (2 * x.f2 + 0)) l1 = _ from m1]
          show meshFrom (endP x.f0 (x.f1 + 1) (2 * x.f2 + 0)) l2 = _
          rw [← w1, ← w2]
          exact m2
theorem s_meshgo (s0 : List Int) (hs : s0.length ≤ 1048576) : ∀ (n r : Nat) (s1 s2 : Int) (out : Mid), r + n ≤ 8 → 0 ≤ s1 → meshFrom 0 out = some ((r : Int) * 16) → out.length ≤ 16 * r → ∃ t1 t2 res, spec_l04Mesh.go n s0 s1 s2 (r : Int) out = some (t1, t2, res) ∧ 0 ≤ t1 ∧ meshFrom 0 res = some (((r + n : Nat) : Int) * 16) ∧ res.length ≤ 16 * (r + n) := by
  intro n
  induction n with
  | zero => intro r s1 s2 out hr h1 hm hl; exact ⟨s1, s2, out, rfl, h1, hm, hl⟩
  | succ n ih =>
    intro r s1 s2 out hr h1 hm hl
    unfold spec_l04Mesh.go
    obtain ⟨v, a, b, e, ha, _⟩ := s_below s0 s1 s2 2 (by omega) h1
    rw [e]
    simp only [Option.bind_some]
    have hx : idokB (r : Int) 0 0 = true := idok_iff.2 ⟨by omega, by omega, by omega, by omega, by omega, by decide⟩
    obtain ⟨t1, t2, l1, e1, q1, m1, n1⟩ := s_root s0 hs 6 ⟨(r : Int), 0, 0⟩ (wrap64 (1 + v)) a b out 4 hx (by show (0 : Int) + ((4 : Nat) : Int) = 4; rfl) (by omega) ha (by omega)
    rw [e1]
    simp only [Option.bind_some]
    have st : startP (r : Int) 0 0 = (r : Int) * 16 := by unfold startP; rw [if_pos hx]; omega
    have w16 : widthP 0 = 16 := by decide
    have en : endP (r : Int) 0 0 = (((r + 1 : Nat)) : Int) * 16 := by unfold endP; rw [st, w16]; omega
    have := ih (r + 1) t1 t2 (out ++ l1) (by omega) q1 (by
      rw [meshFrom_app, hm]
      show meshFrom ((r : Int) * 16) l1 = _
      rw [← st, ← en]; exact m1) (by rw [List.length_append]; omega)
    rw [show r + (n + 1) = r + 1 + n by omega]
    exact this
theorem s_l04Mesh (s0 : List Int) (hs : s0.length ≤ 1048576) (s1 s2 : Int) (h1 : 0 ≤ s1) : ∃ R l t1 t2, spec_l04Mesh.f s0 s1 s2 = some (R, l, t1, t2) ∧ 0 ≤ t1 ∧ meshOkB R l = true ∧ 1 ≤ R ∧ R ≤ 3 ∧ l.length ≤ 48 := by
  obtain ⟨v, a, b, e, ha, v0, v1, _⟩ := s_below s0 s1 s2 3 (by omega) h1
  have v2 := v1 (by omega)
  have hw : wrap64 (1 + v) = 1 + v := w64 (by omega) (by omega)
  obtain ⟨t1, t2, res, e1, q1, q2, q3⟩ := s_meshgo s0 hs (1 + v).toNat 0 a b [] (by omega) ha rfl (by simp)
  refine ⟨1 + v, res, t1, t2, ?_, q1, ?_, by omega, by omega, by omega⟩
  · unfold spec_l04Mesh.f
    rw [e]
    simp only [Option.bind_some, hw]
    rw [show spec_l04Mesh.go (1 + v).toNat s0 a b 0 [] = _ from e1]
    rfl
  · unfold meshOkB
    rw [q2]
    unfold meshFin
    exact decide_eq_true ⟨⟨by omega, by omega⟩, by omega⟩
theorem s_drawMesh (l : List Int) (hl : l.length ≤ 1048576) : ∃ R m, Ev (fun k => spec_DrawMesh.f k l) (R, m) ∧ meshOkB R m = true ∧ 1 ≤ R ∧ R ≤ 3 ∧ m.length ≤ 48 := by
  obtain ⟨h, e⟩ := s_new l hl
  obtain ⟨R, m, t1, t2, e1, _, q1, q2, q3, q4⟩ := s_l04Mesh l hl 0 h (by omega)
  refine ⟨R, m, ?_, q1, q2, q3, q4⟩
  unfold spec_DrawMesh.f
  refine Ev.bind e ?_
  simp only [e1, Option.bind_some]
  exact Ev.now _
theorem rdi (l : List Int) (i : Nat) (h : i < l.length) : rd l (i : Int) = l[i] := by unfold rd; simp [h]
def sumW (a : Int) : List Int → Int
  | [] => a
  | x :: r => sumW (wrap64 (a + x)) r

def kids (x : Cell) : Mid := [⟨x.f0, x.f1 + 1, 2 * x.f2 + 0⟩, ⟨x.f0, x.f1 + 1, 2 * x.f2 + 1⟩]
def splitP (l : Mid) (i : Nat) : Mid := match l[i]? with | some x => l.take i ++ kids x ++ l.drop (i + 1) | none => l
theorem splitP_at (l : Mid) (i : Nat) (h : i < l.length) : splitP l i = l.take i ++ kids l[i] ++ l.drop (i + 1) := by
  unfold splitP
  rw [List.getElem?_eq_getElem h]
theorem splitP_length (l : Mid) (i : Nat) (h : i < l.length) : (splitP l i).length = l.length + 1 := by
  rw [splitP_at l i h]
  simp [kids]
  omega
theorem meshFrom_len : ∀ (l : Mid) (a b : Int), meshFrom a l = some b → a + (l.length : Int) ≤ b
  | [], a, b, h => by
    have : a = b := by simpa [meshFrom] using h
    simp; omega
  | x :: r, a, b, h => by
    unfold meshFrom at h
    split at h
    · rename_i hx
      have := meshFrom_len r _ b h
      obtain ⟨h1, h2, h3, h4, _, _⟩ := idok_iff.1 hx.1
      have hw := (width_pos h3 h4).1
      unfold endP at this
      rw [hx.2] at this
      simp only [List.length_cons]
      omega
    · cases h
theorem meshOk_from {R : Int} {l : Mid} : meshOkB R l = true ↔ meshFrom 0 l = some (R * 16) ∧ 1 ≤ R ∧ R ≤ 8 := by
  constructor
  · intro h
    obtain ⟨a, h1, h2, h3, rfl⟩ := meshFin_true h
    exact ⟨h1, h2, h3⟩
  · rintro ⟨h1, h2, h3⟩
    unfold meshOkB
    rw [h1]
    simp [meshFin, h2, h3]
theorem meshOk_len {R : Int} {l : Mid} (h : meshOkB R l = true) : (l.length : Int) ≤ R * 16 ∧ 1 ≤ R ∧ R ≤ 8 := by
  obtain ⟨h1, h2, h3⟩ := meshOk_from.1 h
  have := meshFrom_len l 0 _ h1
  exact ⟨by omega, h2, h3⟩
theorem kids_from {x : Cell} (h : idokB x.f0 x.f1 x.f2 = true) (h4 : x.f1 ≠ 4) (r : Mid) : meshFrom (startP x.f0 x.f1 x.f2) (kids x ++ r) = meshFrom (endP x.f0 x.f1 x.f2) r := by
  obtain ⟨a1, a2, a3⟩ := child_key h h4 0 (by omega) (by omega)
  obtain ⟨b1, b2, b3⟩ := child_key h h4 1 (by omega) (by omega)
  show meshFrom _ (⟨x.f0, x.f1 + 1, 2 * x.f2 + 0⟩ :: ⟨x.f0, x.f1 + 1, 2 * x.f2 + 1⟩ :: r) = _
  rw [meshFrom, if_pos ⟨a1, by rw [a2]; omega⟩, meshFrom, if_pos ⟨b1, by show _ = endP x.f0 (x.f1 + 1) (2 * x.f2 + 0); unfold endP; rw [b2, a2]; omega⟩]
  congr 1
  show endP x.f0 (x.f1 + 1) (2 * x.f2 + 1) = _
  unfold endP
  rw [b2, b3]; omega
theorem split_from (l : Mid) (i : Nat) (hi : i < l.length) (h4 : l[i].f1 ≠ 4) (a b : Int) (h : meshFrom a l = some b) : meshFrom a (splitP l i) = some b := by
  rw [splitP_at l i hi, List.append_assoc, meshFrom_app]
  have e : l = l.take i ++ (l[i] :: l.drop (i + 1)) := by rw [← List.drop_eq_getElem_cons hi, List.take_append_drop]
  have h2 := h
  rw [e, meshFrom_app] at h2
  obtain ⟨c, hc, h3⟩ := Option.bind_eq_some_iff.1 h2
  rw [hc]
  show meshFrom c (kids l[i] ++ l.drop (i + 1)) = some b
  rw [meshFrom] at h3
  split at h3
  · rename_i hx
    rw [← hx.2, kids_from hx.1 h4]
    exact h3
  · cases h3
theorem split_ok {R : Int} {l : Mid} (h : meshOkB R l = true) (i : Nat) (hi : i < l.length) (h4 : l[i].f1 ≠ 4) : meshOkB R (splitP l i) = true := by
  obtain ⟨h1, h2, h3⟩ := meshOk_from.1 h
  exact meshOk_from.2 ⟨split_from l i hi h4 _ _ h1, h2, h3⟩
theorem firstFrom_spec : ∀ (l : Mid) (i : Nat), firstFrom i l = -1 ∨ ∃ n, firstFrom i l = ((i + n : Nat) : Int) ∧ ∃ h : n + 1 < l.length, (l[n].f1 - l[n + 1].f1 > 1 ∨ l[n].f1 - l[n + 1].f1 < -1)
  | [], _ => .inl rfl
  | [_], _ => .inl rfl
  | x :: y :: r, i => by
    rw [firstFrom]
    split
    · rename_i h
      exact .inr ⟨0, rfl, by simp, by simpa using h⟩
    · rcases firstFrom_spec (y :: r) (i + 1) with h | ⟨n, h1, h2, h3⟩
      · exact .inl h
      · exact .inr ⟨n + 1, by rw [h1]; congr 1; omega, by simp at h2 ⊢; omega, by simpa using h3⟩
def toRefP (l : Mid) : Int := if firstUn l ≥ 0 then (if (rd_T69 l (firstUn l)).f1 > (rd_T69 l (firstUn l + 1)).f1 then firstUn l + 1 else firstUn l) else firstUn l
theorem toRef_spec {R : Int} {l : Mid} (hm : meshOkB R l = true) : (firstUn l = -1 ∧ toRefP l = -1) ∨ (0 ≤ firstUn l ∧ firstUn l + 1 < (l.length : Int) ∧ ∃ n : Nat, ∃ h : n < l.length, toRefP l = n ∧ l[n].f1 < 4 ∧ idokB l[n].f0 l[n].f1 l[n].f2 = true) := by
  have hv : Lv l := meshOk_lv hm
  unfold toRefP
  rcases firstFrom_spec l 0 with h | ⟨n, h1, h2, h3⟩
  · have h' : firstUn l = -1 := h
    rw [h']
    exact .inl ⟨rfl, rfl⟩
  · have h' : firstUn l = (n : Int) := by rw [firstUn, h1, Nat.zero_add]
    have v1 := hv.at (show n < l.length by omega)
    have v2 := hv.at h2
    rw [h', if_pos (by omega), rdc l n (by omega), show ((n : Int) + 1) = ((n + 1 : Nat) : Int) by omega, rdc l (n + 1) h2]
    refine .inr ⟨by omega, by omega, ?_⟩
    by_cases hg : l[n].f1 > l[n + 1].f1
    · rw [if_pos hg]
      exact ⟨n + 1, h2, rfl, by omega, meshOk_all hm _ (List.getElem_mem _)⟩
    · rw [if_neg hg]
      exact ⟨n, by omega, rfl, by omega, meshOk_all hm _ (List.getElem_mem _)⟩
def balN : Nat → Mid → Mid
  | 0, l => l
  | n + 1, l => if toRefP l ≥ 0 then balN n (splitP l (toRefP l).toNat) else l
theorem balN_ok {R : Int} : ∀ (n : Nat) (l : Mid), meshOkB R l = true → meshOkB R (balN n l) = true
  | 0, l, h => h
  | n + 1, l, h => by
    rw [balN]
    split
    · rename_i hp
      rcases toRef_spec h with ⟨_, h2⟩ | ⟨_, _, m, hm, h2, h3, _⟩
      · omega
      · rw [h2, Int.toNat_natCast]
        exact balN_ok n _ (split_ok h m hm (by omega))
    · exact h
def balP (R : Int) (l : Mid) : Mid := if meshOkB R l = true then balN 129 l else l
theorem balP_length (R : Int) (l : Mid) : (balP R l).length ≤ l.length + 128 := by
  unfold balP
  split
  · rename_i h
    have := meshOk_len (balN_ok 129 l h)
    omega
  · omega
def refP (R : Int) (l : Mid) (i : Int) : Int × Mid × Bool := if mayRefB R l i = true then (R, splitP l i.toNat, true) else (R, l, false)
theorem mayRef_at {R : Int} {l : Mid} {i : Int} (h : mayRefB R l i = true) : ∃ n : Nat, i = n ∧ ∃ hn : n < l.length, meshOkB R l = true ∧ idokB l[n].f0 l[n].f1 l[n].f2 = true ∧ l[n].f1 < 4 := by
  unfold mayRefB at h
  split at h
  · rename_i hm
    split at h
    · rename_i hi
      obtain ⟨n, rfl⟩ := Int.eq_ofNat_of_zero_le hi.1
      have hn : n < l.length := by omega
      rw [rdc l n hn] at h
      exact ⟨n, rfl, hn, hm, meshOk_all hm _ (List.getElem_mem hn), by simpa using h⟩
    · cases h
  · cases h
theorem refP_length (R : Int) (l : Mid) (i : Int) : (refP R l i).2.1.length ≤ l.length + 1 := by
  unfold refP
  split
  · rename_i h
    obtain ⟨n, rfl, hn, _⟩ := mayRef_at h
    show (splitP l (n : Int).toNat).length ≤ _
    rw [Int.toNat_natCast, splitP_length l n hn]; omega
  · show l.length ≤ _; omega

def pcell (x : Cell) : Cell := ⟨(parentP x.f0 x.f1 x.f2).1, (parentP x.f0 x.f1 x.f2).2.1, (parentP x.f0 x.f1 x.f2).2.2.1⟩
def mergeP (l : Mid) (i : Nat) : Mid := match l[i]? with | some x => l.take i ++ [pcell x] ++ l.drop (i + 2) | none => l
theorem mergeP_at (l : Mid) (i : Nat) (h : i < l.length) : mergeP l i = l.take i ++ [pcell l[i]] ++ l.drop (i + 2) := by
  unfold mergeP
  rw [List.getElem?_eq_getElem h]
theorem mergeP_length (l : Mid) (i : Nat) (h : i + 2 ≤ l.length) : (mergeP l i).length + 1 = l.length := by
  rw [mergeP_at l i (by omega)]
  simp
  omega
theorem wsucc2 {i : Nat} (h : i < 4611686018427387904) : wrap64 ((i : Int) + 2) = ((i + 2 : Nat) : Int) := by rw [w64 (by omega) (by omega)]; omega
def coP (R : Int) (l : Mid) (i : Int) : Int × Mid × Bool := if mayCoB R l i = true then (R, mergeP l i.toNat, true) else (R, l, false)
theorem mayCo_at {R : Int} {l : Mid} {i : Int} (h : mayCoB R l i = true) : ∃ n : Nat, i = n ∧ n + 2 ≤ l.length ∧ meshOkB R l = true ∧ coB l n = true := by
  unfold mayCoB at h
  split at h
  · rename_i hm
    split at h
    · rename_i hi
      obtain ⟨n, rfl⟩ := Int.eq_ofNat_of_zero_le hi.1
      exact ⟨n, rfl, by omega, hm, h⟩
    · cases h
  · cases h
theorem coP_length (R : Int) (l : Mid) (i : Int) : (coP R l i).2.1.length ≤ l.length := by
  unfold coP
  split
  · rename_i h
    obtain ⟨n, rfl, hn, _⟩ := mayCo_at h
    have := mergeP_length l n hn
    show (mergeP l (n : Int).toNat).length ≤ _
    rw [Int.toNat_natCast]; omega
  · exact Nat.le_refl _


theorem balN_bal {R : Int} : ∀ (n : Nat) (l : Mid), meshOkB R l = true → R * 16 < (l.length : Int) + n → firstUn (balN n l) = -1
  | 0, l, h, hn => by have := meshOk_len h; omega
  | n + 1, l, h, hn => by
    rw [balN]
    rcases toRef_spec h with ⟨h1, h2⟩ | ⟨_, _, m, hm, h2, h3, _⟩
    · rw [if_neg (by omega)]; exact h1
    · rw [if_pos (by omega), h2, Int.toNat_natCast]
      have hl2 := splitP_length l m hm
      exact balN_bal n _ (split_ok h m hm (by omega)) (by omega)
theorem balN_self (n : Nat) {l : Mid} (h : firstUn l = -1) : balN n l = l := by
  cases n with
  | zero => rfl
  | succ n =>
    rw [balN, if_neg]
    unfold toRefP
    rw [h, if_neg (by decide)]
    decide
/-- Neighbours differ by at most one level. -/
def balL : Mid → Prop
  | x :: y :: r => (x.f1 - y.f1 ≤ 1 ∧ -1 ≤ x.f1 - y.f1) ∧ balL (y :: r)
  | _ => True
theorem firstFrom_bal : ∀ (l : Mid) (i : Nat), firstFrom i l = -1 ↔ balL l
  | [], _ => by simp [firstFrom, balL]
  | [_], _ => by simp [firstFrom, balL]
  | x :: y :: r, i => by
    rw [firstFrom, balL]
    split
    · rename_i h
      constructor
      · intro e; omega
      · rintro ⟨e, _⟩; omega
    · rename_i h
      rw [firstFrom_bal (y :: r) (i + 1)]
      constructor
      · intro e; exact ⟨by omega, e⟩
      · exact fun e => e.2
theorem un_bal {l : Mid} : firstUn l = -1 ↔ balL l := firstFrom_bal l 0
theorem balL_merge (x y p : Cell) (hp : p.f1 = x.f1 - 1) (hy : y.f1 = x.f1) (l2 : Mid) (h2 : ∀ z, l2.head? = some z → z.f1 ≤ x.f1) : ∀ (l1 : Mid), (∀ z, l1.getLast? = some z → z.f1 ≤ x.f1) → balL (l1 ++ x :: y :: l2) → balL (l1 ++ p :: l2)
  | [], _, h => by
    cases l2 with
    | nil => exact trivial
    | cons z r =>
      have := h2 z rfl
      obtain ⟨_, h3, h4⟩ := h
      exact ⟨by omega, h4⟩
  | [u], h1, h => by
    have := h1 u rfl
    obtain ⟨h3, h4⟩ := h
    exact ⟨by omega, balL_merge x y p hp hy l2 h2 [] (fun _ hz => by cases hz) h4⟩
  | u :: v :: r, h1, h => by
    obtain ⟨h3, h4⟩ := h
    exact ⟨h3, balL_merge x y p hp hy l2 h2 (v :: r) (fun z hz => h1 z (by simpa using hz)) h4⟩
theorem balL_at : ∀ (l : Mid) (n : Nat) (h : n + 1 < l.length), balL l → l[n].f1 - l[n + 1].f1 ≤ 1 ∧ -1 ≤ l[n].f1 - l[n + 1].f1
  | x :: y :: r, 0, _, h => h.1
  | x :: y :: r, n + 1, h, hb => balL_at (y :: r) n (by simpa using h) hb.2
  | [_], n, h, _ => by simp at h
  | [], n, h, _ => by simp at h

theorem pcell_kids {x y : Cell} (h : siblingB x.f0 x.f1 x.f2 y.f0 y.f1 y.f2 = true) : idokB (pcell x).f0 (pcell x).f1 (pcell x).f2 = true ∧ (pcell x).f1 ≠ 4 ∧ (pcell x).f1 = x.f1 - 1 ∧ y.f1 = x.f1 ∧ kids (pcell x) = [x, y] := by
  obtain ⟨h1, h2, h3, h4, h5, h6⟩ := of_decide_eq_true h
  obtain ⟨a1, a2, a3, a4, a5, a6⟩ := idok_iff.1 h1
  obtain ⟨b1, b2, b3, b4, b5, b6⟩ := idok_iff.1 h2
  have hne : x.f1 ≠ 0 := by
    intro e
    rw [← h4, e] at b6
    have : y.f2 < 1 := b6
    omega
  have hp : parentP x.f0 x.f1 x.f2 = (x.f0, x.f1 - 1, x.f2 / 2, true) := if_pos ⟨h1, hne⟩
  unfold pcell
  rw [hp]
  refine ⟨?_, ?_, rfl, h4.symm, ?_⟩
  · refine idok_iff.2 ⟨a1, a2, ?_, ?_, ?_, ?_⟩
    · show 0 ≤ x.f1 - 1; omega
    · show x.f1 - 1 ≤ 4; omega
    · show 0 ≤ x.f2 / 2; omega
    · show x.f2 / 2 < 2 ^ (x.f1 - 1).toNat
      rcases level_cases a3 a4 with e | e | e | e | e
      · exact absurd e hne
      · rw [e] at a6 ⊢; change x.f2 < 2 at a6; change x.f2 / 2 < 1; omega
      · rw [e] at a6 ⊢; change x.f2 < 4 at a6; change x.f2 / 2 < 2; omega
      · rw [e] at a6 ⊢; change x.f2 < 8 at a6; change x.f2 / 2 < 4; omega
      · rw [e] at a6 ⊢; change x.f2 < 16 at a6; change x.f2 / 2 < 8; omega
  · show x.f1 - 1 ≠ 4; omega
  · have e1 : (⟨x.f0, x.f1 - 1 + 1, 2 * (x.f2 / 2) + 0⟩ : Cell) = x := cell_ext.2 ⟨rfl, by show x.f1 - 1 + 1 = x.f1; omega, by show 2 * (x.f2 / 2) + 0 = x.f2; omega⟩
    have e2 : (⟨x.f0, x.f1 - 1 + 1, 2 * (x.f2 / 2) + 1⟩ : Cell) = y := cell_ext.2 ⟨h3, by show x.f1 - 1 + 1 = y.f1; omega, by show 2 * (x.f2 / 2) + 1 = y.f2; omega⟩
    show [(⟨x.f0, x.f1 - 1 + 1, 2 * (x.f2 / 2) + 0⟩ : Cell), ⟨x.f0, x.f1 - 1 + 1, 2 * (x.f2 / 2) + 1⟩] = [x, y]
    rw [e1, e2]
theorem list_two (l : Mid) (n : Nat) (h : n + 2 ≤ l.length) : l = l.take n ++ (l[n] :: l[n + 1] :: l.drop (n + 2)) := by
  have e1 := List.drop_eq_getElem_cons (show n < l.length by omega)
  have e2 := List.drop_eq_getElem_cons (show n + 1 < l.length by omega)
  rw [← e2, ← e1, List.take_append_drop]
theorem co_parts {l : Mid} {n : Nat} (h : n + 2 ≤ l.length) (hc : coB l (n : Int) = true) : siblingB l[n].f0 l[n].f1 l[n].f2 l[n + 1].f0 l[n + 1].f1 l[n + 1].f2 = true ∧ (∀ z, (l.take n).getLast? = some z → z.f1 ≤ l[n].f1) ∧ (∀ z, (l.drop (n + 2)).head? = some z → z.f1 ≤ l[n].f1) := by
  unfold coB at hc
  rw [rdc l n (by omega), show ((n : Int) + 1) = ((n + 1 : Nat) : Int) by omega, rdc l (n + 1) (by omega)] at hc
  split at hc
  · rename_i hs
    refine ⟨hs, ?_, ?_⟩
    · intro z hz
      split at hc
      · cases hc
      · rename_i h2
        cases n with
        | zero => simp at hz
        | succ m =>
          rw [show ((m + 1 : Nat) : Int) - 1 = (m : Int) by omega, rdc l m (by omega)] at h2
          have hz' : z = l[m] := by
            rw [List.getLast?_eq_getElem?, List.length_take, List.getElem?_take] at hz
            rw [if_pos (by omega), show min (m + 1) l.length - 1 = m by omega, List.getElem?_eq_getElem (by omega)] at hz
            exact (Option.some.inj hz).symm
          rw [hz']
          have : ¬ (l[m].f1 > l[m + 1].f1) := fun e => h2 ⟨by omega, e⟩
          omega
    · intro z hz
      split at hc
      · cases hc
      · have hlt : n + 2 < l.length := by
          rcases Nat.lt_or_ge (n + 2) l.length with h' | h'
          · exact h'
          · rw [List.drop_eq_nil_of_le h'] at hz; cases hz
        rw [if_pos (by omega), show ((n : Int) + 2) = ((n + 2 : Nat) : Int) by omega, rdc l (n + 2) hlt, decide_eq_true_eq] at hc
        rw [List.drop_eq_getElem_cons hlt] at hz
        rw [← Option.some.inj hz]
        exact hc
  · cases hc
theorem merge_ok {R : Int} {l : Mid} (hm : meshOkB R l = true) {n : Nat} (h : n + 2 ≤ l.length) (hs : siblingB l[n].f0 l[n].f1 l[n].f2 l[n + 1].f0 l[n + 1].f1 l[n + 1].f2 = true) : meshOkB R (mergeP l n) = true := by
  obtain ⟨h1, h2, h3⟩ := meshOk_from.1 hm
  obtain ⟨p1, p2, p3, p4, p5⟩ := pcell_kids hs
  refine meshOk_from.2 ⟨?_, h2, h3⟩
  rw [mergeP_at l n (by omega), List.append_assoc, meshFrom_app]
  rw [list_two l n h, meshFrom_app] at h1
  obtain ⟨c, hc, h4⟩ := Option.bind_eq_some_iff.1 h1
  rw [hc]
  show meshFrom c (pcell l[n] :: l.drop (n + 2)) = some (R * 16)
  rw [show l[n] :: l[n + 1] :: l.drop (n + 2) = kids (pcell l[n]) ++ l.drop (n + 2) by rw [p5]; rfl] at h4
  have hst : startP (pcell l[n]).f0 (pcell l[n]).f1 (pcell l[n]).f2 = c := by
    have h5 := h4
    obtain ⟨a1, a2, _⟩ := child_key p1 p2 0 (by omega) (by omega)
    rw [show kids (pcell l[n]) ++ l.drop (n + 2) = ⟨(pcell l[n]).f0, (pcell l[n]).f1 + 1, 2 * (pcell l[n]).f2 + 0⟩ :: (⟨(pcell l[n]).f0, (pcell l[n]).f1 + 1, 2 * (pcell l[n]).f2 + 1⟩ :: l.drop (n + 2)) from rfl, meshFrom] at h5
    split at h5
    · rename_i h6
      have h7 : startP (pcell l[n]).f0 ((pcell l[n]).f1 + 1) (2 * (pcell l[n]).f2 + 0) = c := h6.2
      rw [a2] at h7
      omega
    · cases h5
  rw [← hst, kids_from p1 p2] at h4
  rw [meshFrom, if_pos ⟨p1, hst⟩]
  exact h4
theorem merge_bal {l : Mid} (hb : balL l) {n : Nat} (h : n + 2 ≤ l.length) (hc : coB l (n : Int) = true) : balL (mergeP l n) := by
  obtain ⟨hs, h1, h2⟩ := co_parts h hc
  obtain ⟨_, _, p3, p4, _⟩ := pcell_kids hs
  rw [mergeP_at l n (by omega), List.append_assoc]
  rw [list_two l n h] at hb
  exact balL_merge _ _ _ p3 p4 _ h2 _ h1 hb

end Go.Proofs.YtpjmlgcpeebkdaaDoor.CoreFnMeshTexts
