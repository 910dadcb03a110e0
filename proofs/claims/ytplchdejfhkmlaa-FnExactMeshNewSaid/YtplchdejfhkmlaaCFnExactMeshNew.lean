/- What the printed functions beneath FnExactMeshNew compute, in plain words on numbers and lists; no condition of its own. -/
import Derived.Test.YtplchdejfhkmlaaPFnExactMeshNewx3
set_option linter.unusedVariables false
set_option linter.unusedSimpArgs false
namespace Go.Proofs.Ytplchdejfhkmlaa.CoreFnExactMeshNew
open Go.RowKit Go.Proofs.Ytplchdejfhkmlaa.PFnExactMeshNew Go.Proofs.YtplchdejfhkmlaaW.PrintWords Go.Proofs.YtplchdejfhkmlaaW.PrintLast Go.Proofs.YtplchdejfhkmlaaW.PrintMore

theorem w64 {n : Int} (h : -9223372036854775808 ≤ n) (h' : n ≤ 9223372036854775807) : wrap64 n = n := by unfold wrap64; omega
theorem wsucc {i : Nat} (h : i < 4611686018427387904) : wrap64 ((i : Int) + 1) = ((i + 1 : Nat) : Int) := by rw [w64 (by omega) (by omega)]; omega
theorem wlen1 {n : Nat} (h : n < 4611686018427387904) : wrap64 ((n : Int) - 1) = (n : Int) - 1 := w64 (by omega) (by omega)
theorem level_cases {b : Int} (h0 : 0 ≤ b) (h1 : b ≤ 4) : b = 0 ∨ b = 1 ∨ b = 2 ∨ b = 3 ∨ b = 4 := by omega
theorem u64_small {b : Int} (h0 : 0 ≤ b) (h1 : b ≤ 9223372036854775807) : IntKind.u64.wrap b = b := by
  rw [IntKind.wrap_u64]; omega
theorem shl1 {b : Int} (h0 : 0 ≤ b) (h1 : b ≤ 4) : shl .i64 1 b = 2 ^ b.toNat := by
  obtain rfl | rfl | rfl | rfl | rfl := level_cases h0 h1 <;> rfl
theorem shr16 {b : Int} (h0 : 0 ≤ b) (h1 : b ≤ 4) : shr .i64 16 b = 16 / 2 ^ b.toNat := by
  obtain rfl | rfl | rfl | rfl | rfl := level_cases h0 h1 <;> rfl

/-! cells -/
def idokB (a b c : Int) : Bool := decide (0 ≤ a ∧ a ≤ 7 ∧ 0 ≤ b ∧ b ≤ 4 ∧ 0 ≤ c ∧ c < 2 ^ b.toNat)
def widthP (b : Int) : Int := if 0 ≤ b ∧ b ≤ 4 then 16 / 2 ^ b.toNat else 0
def startP (a b c : Int) : Int := if idokB a b c = true then a * 16 + c * widthP b else -1
def endP (a b c : Int) : Int := startP a b c + widthP b
theorem idok_iff {a b c : Int} : idokB a b c = true ↔ (0 ≤ a ∧ a ≤ 7 ∧ 0 ≤ b ∧ b ≤ 4 ∧ 0 ≤ c ∧ c < 2 ^ b.toNat) := by unfold idokB; exact decide_eq_true_iff
theorem width_pos {b : Int} (h0 : 0 ≤ b) (h1 : b ≤ 4) : 1 ≤ widthP b ∧ widthP b ≤ 16 ∧ widthP b * 2 ^ b.toNat = 16 := by
  obtain rfl | rfl | rfl | rfl | rfl := level_cases h0 h1 <;> decide
theorem width_bd (b : Int) : 0 ≤ widthP b ∧ widthP b ≤ 16 := by
  by_cases h : 0 ≤ b ∧ b ≤ 4
  · have := width_pos h.1 h.2; omega
  · unfold widthP; rw [if_neg h]; omega
theorem cw_bd {b c : Int} (h0 : 0 ≤ b) (h1 : b ≤ 4) (h2 : 0 ≤ c) (h3 : c < 2 ^ b.toNat) : 0 ≤ c * widthP b ∧ c * widthP b + widthP b ≤ 16 := by
  obtain rfl | rfl | rfl | rfl | rfl := level_cases h0 h1
  · have : widthP 0 = 16 := by decide
    rw [this]; have h3' : c < 1 := h3; omega
  · have : widthP 1 = 8 := by decide
    rw [this]; have h3' : c < 2 := h3; omega
  · have : widthP 2 = 4 := by decide
    rw [this]; have h3' : c < 4 := h3; omega
  · have : widthP 3 = 2 := by decide
    rw [this]; have h3' : c < 8 := h3; omega
  · have : widthP 4 = 1 := by decide
    rw [this]; have h3' : c < 16 := h3; omega
theorem start_bd (a b c : Int) : -1 ≤ startP a b c ∧ startP a b c ≤ 127 := by
  unfold startP
  by_cases h : idokB a b c = true
  · rw [if_pos h]
    obtain ⟨h0, h1, h2, h3, h4, h5⟩ := idok_iff.1 h
    have := cw_bd h2 h3 h4 h5
    have := width_pos h2 h3
    omega
  · rw [if_neg h]; omega

theorem s_in (a b c : Int) : spec_l01In.f a b c = some (decide (b ≤ a ∧ a ≤ c)) := by
  unfold spec_l01In.f
  by_cases h : b ≤ a
  · simp [h]
  · simp [h]
theorem i_in (a b c : Int) : impl_within.f a b c = some (decide (b ≤ a ∧ a ≤ c)) := by
  unfold impl_within.f
  by_cases h : b ≤ a
  · simp [h]
  · simp [h]
theorem i_level (b : Int) : impl_isLevel.f b = some (decide (0 ≤ b ∧ b ≤ 4)) := by
  unfold impl_isLevel.f; rw [i_in]; rfl
theorem start_wrap {a b c : Int} (h : idokB a b c = true) : wrap64 (wrap64 (a * 16) + wrap64 (c * widthP b)) = a * 16 + c * widthP b := by
  obtain ⟨h0, h1, h2, h3, h4, h5⟩ := idok_iff.1 h
  have h6 := cw_bd h2 h3 h4 h5
  have h7 := width_pos h2 h3
  rw [w64 (n := a * 16) (by omega) (by omega), w64 (n := c * widthP b) (by omega) (by omega), w64 (by omega) (by omega)]
theorem end_wrap (a b c : Int) : wrap64 (startP a b c + widthP b) = endP a b c := by
  have h1 := start_bd a b c
  have h2 := width_bd b
  rw [w64 (by omega) (by omega)]; rfl

/-! lists of cells -/
abbrev Cell := S25
abbrev Mid := List Cell
theorem cell_ext {x y : Cell} : x = y ↔ x.f0 = y.f0 ∧ x.f1 = y.f1 ∧ x.f2 = y.f2 := by
  obtain ⟨a, b, c⟩ := x
  obtain ⟨a', b', c'⟩ := y
  simp
instance : DecidableEq Cell := fun x y => decidable_of_iff (x.f0 = y.f0 ∧ x.f1 = y.f1 ∧ x.f2 = y.f2) cell_ext.symm
theorem rdc (l : Mid) (i : Nat) (h : i < l.length) : rd_T25 l (i : Int) = l[i] := by
  unfold rd_T25; simp [h]
def meshFrom (at_ : Int) : Mid → Option Int
  | [] => some at_
  | x :: xs => if idokB x.f0 x.f1 x.f2 = true ∧ startP x.f0 x.f1 x.f2 = at_ then meshFrom (endP x.f0 x.f1 x.f2) xs else none
def meshFin (R : Int) : Option Int → Bool
  | none => false
  | some a => decide ((1 ≤ R ∧ R ≤ 8) ∧ a = R * 16)
def meshOkB (R : Int) (l : Mid) : Bool := meshFin R (meshFrom 0 l)
theorem meshFin_end (R a : Int) : (if (1 ≤ R ∧ R ≤ 8) then some (a == wrap64 (R * 16)) else some false) = some (meshFin R (some a)) := by
  unfold meshFin
  by_cases h : 1 ≤ R ∧ R ≤ 8
  · rw [if_pos h, w64 (by omega) (by omega)]; congr 1; simp [h]; rfl
  · rw [if_neg h]; congr 1; simp [h]
theorem eqId_iff (x y : Cell) : laws_eqId.f x.f0 x.f1 x.f2 y.f0 y.f1 y.f2 = some (decide (x = y)) := by
  unfold laws_eqId.f
  rw [show decide (x = y) = decide (x.f0 = y.f0 ∧ x.f1 = y.f1 ∧ x.f2 = y.f2) from by rw [decide_eq_decide]; exact cell_ext]
  by_cases h1 : x.f0 = y.f0 <;> by_cases h2 : x.f1 = y.f1 <;> by_cases h3 : x.f2 = y.f2 <;> simp [h1, h2, h3]
theorem eqIdS_l0 (l l' : Mid) (he : l.length = l'.length) (hl : l.length < 4611686018427387904) : ∀ (d i : Nat), i + d = l.length → Ev (fun k => laws_eqIdS.l0 k l l' (i : Int)) (decide (l.drop i = l'.drop i)) := by
  intro d
  induction d with
  | zero =>
    intro i h
    refine Ev.step (fun k => rfl) ?_
    have h1 : ¬ ((i : Int) < (l.length : Int)) := by omega
    have h2 : l.drop i = l'.drop i := by rw [List.drop_eq_nil_of_le (by omega), List.drop_eq_nil_of_le (by omega)]
    simp only [laws_eqIdS.l0, h1, if_false, h2, decide_true]
    exact Ev.now _
  | succ d ih =>
    intro i h
    refine Ev.step (fun k => rfl) ?_
    have h1 : (i : Int) < (l.length : Int) := by omega
    have h1' : (i : Int) < (l'.length : Int) := by omega
    have h2 : i < l.length := by omega
    have h2' : i < l'.length := by omega
    have h3 : (0 : Int) ≤ (i : Int) := by omega
    rw [List.drop_eq_getElem_cons h2, List.drop_eq_getElem_cons h2']
    simp only [laws_eqIdS.l0, h1, h1', h3, if_true, rdc l i h2, rdc l' i h2', eqId_iff, Option.bind_some, wsucc (show i < 4611686018427387904 by omega), decide_eq_true_eq]
    by_cases h4 : l[i] = l'[i]
    · simp only [h4, if_true, List.cons.injEq, true_and]
      exact ih (i + 1) (by omega)
    · simp only [h4, if_false, List.cons.injEq, false_and, decide_false]
      exact Ev.now _
theorem eqIdS_ev (l l' : Mid) (hl : l.length < 4611686018427387904) : Ev (fun k => laws_eqIdS.f k l l') (decide (l = l')) := by
  unfold laws_eqIdS.f
  by_cases h : l.length = l'.length
  · have h' : (l.length : Int) = (l'.length : Int) := by omega
    simp only [h', if_true]
    have := eqIdS_l0 l l' h hl l.length 0 (by omega)
    simpa using this
  · have h' : ¬ (l.length : Int) = (l'.length : Int) := by omega
    have h2 : ¬ l = l' := fun e => h (by rw [e])
    simp only [h', if_false, h2, decide_false]
    exact Ev.now _
theorem eqMesh_ev (R R' : Int) (l l' : Mid) (hl : l.length < 4611686018427387904) : Ev (fun k => laws_eqMesh.f k R l R' l') (decide (R = R' ∧ l = l')) := by
  unfold laws_eqMesh.f
  by_cases h : R = R'
  · simp only [h, if_true, true_and]
    refine Ev.bind (eqIdS_ev l l' hl) ?_
    by_cases h2 : l = l'
    · simp only [h2, decide_true, if_true]; exact Ev.now _
    · simp only [h2, decide_false]; exact Ev.now _
  · simp only [h, if_false, false_and, decide_false]
    exact Ev.now _
theorem eqMesh_refl (R : Int) (l : Mid) (hl : l.length < 4611686018427387904) : Ev (fun k => laws_eqMesh.f k R l R l) true := by
  have := eqMesh_ev R R l l hl
  simpa using this


/-! what a valid mesh's leaves are -/
theorem meshFrom_all : ∀ (l : Mid) (a b : Int), meshFrom a l = some b → ∀ x ∈ l, idokB x.f0 x.f1 x.f2 = true := by
  intro l
  induction l with
  | nil => intro a b _ x hx; cases hx
  | cons y ys ih =>
    intro a b h x hx
    unfold meshFrom at h
    by_cases hy : idokB y.f0 y.f1 y.f2 = true ∧ startP y.f0 y.f1 y.f2 = a
    · rw [if_pos hy] at h
      rcases List.mem_cons.1 hx with rfl | hx
      · exact hy.1
      · exact ih _ _ h x hx
    · rw [if_neg hy] at h; cases h
theorem meshFin_true {R : Int} {o : Option Int} (h : meshFin R o = true) : ∃ a, o = some a ∧ 1 ≤ R ∧ R ≤ 8 ∧ a = R * 16 := by
  cases o with
  | none => cases h
  | some a =>
    have := of_decide_eq_true h
    exact ⟨a, rfl, this.1.1, this.1.2, this.2⟩
theorem meshOk_all {R : Int} {l : Mid} (h : meshOkB R l = true) : ∀ x ∈ l, idokB x.f0 x.f1 x.f2 = true := by
  obtain ⟨a, ha, _⟩ := meshFin_true h
  exact meshFrom_all l 0 a ha
theorem meshOk_lv {R : Int} {l : Mid} (h : meshOkB R l = true) : ∀ x ∈ l, 0 ≤ x.f1 ∧ x.f1 ≤ 4 := fun x hx => by
  have := idok_iff.1 (meshOk_all h x hx)
  omega
theorem meshOk_ne {R : Int} {l : Mid} (h : meshOkB R l = true) : l ≠ [] := by
  rintro rfl
  obtain ⟨a, ha, h1, h2, h3⟩ := meshFin_true h
  have : some (0 : Int) = some a := ha
  have := Option.some.inj this
  omega
theorem drop_two {l : Mid} {i : Nat} (h : i + 1 < l.length) : l.drop i = l[i] :: l[i + 1] :: l.drop (i + 2) := by
  rw [List.drop_eq_getElem_cons (show i < l.length by omega), List.drop_eq_getElem_cons h]
theorem drop_lt {l : Mid} {i : Nat} (h : l.length ≤ i + 1) : l.drop i = [] ∨ ∃ x, l.drop i = [x] := by
  by_cases h1 : i < l.length
  · refine .inr ⟨l[i], ?_⟩
    rw [List.drop_eq_getElem_cons h1, List.drop_eq_nil_of_le h]
  · exact .inl (List.drop_eq_nil_of_le (by omega))
/-! the first leaf whose right neighbour differs too much -/
def firstFrom (i : Nat) : Mid → Int
  | x :: y :: r => if x.f1 - y.f1 > 1 ∨ x.f1 - y.f1 < -1 then (i : Int) else firstFrom (i + 1) (y :: r)
  | _ => -1
def firstUn (l : Mid) : Int := firstFrom 0 l
theorem firstFrom_small {l : Mid} {i : Nat} (h : l.length ≤ i + 1) : firstFrom i (l.drop i) = -1 := by
  rcases drop_lt h with e | ⟨x, e⟩ <;> rw [e] <;> rfl
def Lv (l : Mid) : Prop := ∀ x ∈ l, 0 ≤ x.f1 ∧ x.f1 ≤ 4
theorem Lv.at {l : Mid} (h : Lv l) {i : Nat} (hi : i < l.length) : 0 ≤ l[i].f1 ∧ l[i].f1 ≤ 4 := h _ (List.getElem_mem hi)
/-! reads at an index -/
def mayRefB (R : Int) (l : Mid) (i : Int) : Bool := if meshOkB R l = true then (if 0 ≤ i ∧ i ≤ (l.length : Int) - 1 then decide ((rd_T25 l i).f1 < 4) else false) else false
def faceB (R : Int) (l : Mid) (i : Int) : Int := if meshOkB R l = true then (if 0 ≤ i ∧ i ≤ (l.length : Int) - 2 then mx (rd_T25 l i).f1 (rd_T25 l (i + 1)).f1 else -1) else -1
/-! the deepest level; how many faces have a level -/
def deepGo (m : Int) (l : Mid) : Int := l.foldl (fun m x => mx m x.f1) m
def deepB (R : Int) (l : Mid) : Int := if meshOkB R l = true then deepGo 0 l else -1
theorem deep_start {l : Mid} (hn : l ≠ []) (hv : Lv l) : deepGo (-1) l = deepGo 0 l := by
  cases l with
  | nil => exact absurd rfl hn
  | cons x xs =>
    have := hv x (List.mem_cons_self ..)
    unfold deepGo
    rw [List.foldl_cons, List.foldl_cons]
    congr 1
    unfold mx
    split <;> split <;> omega
def countFrom (lv c : Int) : Mid → Int
  | x :: y :: r => countFrom lv (if mx x.f1 y.f1 = lv then c + 1 else c) (y :: r)
  | _ => c
def countB (R : Int) (l : Mid) (lv : Int) : Int := if meshOkB R l = true then countFrom lv 0 l else 0
theorem countFrom_small {l : Mid} {i : Nat} (lv c : Int) (h : l.length ≤ i + 1) : countFrom lv c (l.drop i) = c := by
  rcases drop_lt h with e | ⟨x, e⟩ <;> rw [e] <;> rfl
theorem rdc1 (l : Mid) (i : Nat) (h : i + 1 < l.length) : rd_T25 l ((i : Int) + 1) = l[i + 1] := by
  have := rdc l (i + 1) h
  rw [← this]; congr 1

/-! one cell within another -/
def containsB (a b c a' b' c' : Int) : Bool := decide (idokB a b c = true ∧ idokB a' b' c' = true ∧ a = a' ∧ b ≤ b' ∧ c' / 2 ^ (b' - b).toNat = c)
theorem diff_wrap {b b' : Int} (h0 : 0 ≤ b) (h1 : b ≤ 4) (h2 : 0 ≤ b') (h3 : b' ≤ 4) : wrap64 (b' - b) = b' - b := w64 (by omega) (by omega)
theorem shr_small' {c d : Int} (h0 : 0 ≤ d) (h1 : d ≤ 4) : shr .i64 c d = c / 2 ^ d.toNat := by
  unfold shr
  rw [Nat.min_eq_left (show d.toNat ≤ IntKind.bits .i64 by have : IntKind.bits .i64 = 64 := rfl; omega)]

/-! parents, children, siblings -/
def parentP (a b c : Int) : Int × Int × Int × Bool := if idokB a b c = true ∧ b ≠ 0 then (a, b - 1, c / 2, true) else (0, 0, 0, false)
theorem half_wrap {a b c : Int} (h : idokB a b c = true) : wrap64 (b - 1) = b - 1 ∧ wrap64 (Int.tdiv c 2) = c / 2 := by
  obtain ⟨h0, h1, h2, h3, h4, h5⟩ := idok_iff.1 h
  have h6 : (2 : Int) ^ b.toNat ≤ 16 := by obtain rfl | rfl | rfl | rfl | rfl := level_cases h2 h3 <;> decide
  refine ⟨w64 (by omega) (by omega), ?_⟩
  rw [Int.tdiv_eq_ediv_of_nonneg h4, w64 (by omega) (by omega)]
def childP (a b c s : Int) : Int × Int × Int × Bool := if idokB a b c = true ∧ b ≠ 4 ∧ 0 ≤ s ∧ s ≤ 1 then (a, b + 1, 2 * c + s, true) else (0, 0, 0, false)
theorem child_wrap {a b c s : Int} (h : idokB a b c = true) (hs : 0 ≤ s ∧ s ≤ 1) : wrap64 (b + 1) = b + 1 ∧ wrap64 (wrap64 (2 * c) + s) = 2 * c + s := by
  obtain ⟨h0, h1, h2, h3, h4, h5⟩ := idok_iff.1 h
  have h6 : (2 : Int) ^ b.toNat ≤ 16 := by obtain rfl | rfl | rfl | rfl | rfl := level_cases h2 h3 <;> decide
  refine ⟨w64 (by omega) (by omega), ?_⟩
  rw [w64 (n := 2 * c) (by omega) (by omega), w64 (by omega) (by omega)]
def siblingB (a b c a' b' c' : Int) : Bool := decide (idokB a b c = true ∧ idokB a' b' c' = true ∧ a = a' ∧ b = b' ∧ c % 2 = 0 ∧ c' = c + 1)
theorem even_mod {c : Int} (h : 0 ≤ c) : Int.tmod c 2 = c % 2 := Int.tmod_eq_emod_of_nonneg h
theorem idx_bd {a b c : Int} (h : idokB a b c = true) : 0 ≤ c ∧ c ≤ 15 := by
  obtain ⟨h0, h1, h2, h3, h4, h5⟩ := idok_iff.1 h
  have h6 : (2 : Int) ^ b.toNat ≤ 16 := by obtain rfl | rfl | rfl | rfl | rfl := level_cases h2 h3 <;> decide
  omega

/-! quotients -/
def divFloorP (a b : Int) : Int := if b ≤ 0 then 0 else if Int.tmod a b < 0 then wrap64 (wrap64 (Int.tdiv a b) - 1) else wrap64 (Int.tdiv a b)



/-! hexadecimal digits -/
def HEXD : ByteArray := ⟨#[48, 49, 50, 51, 52, 53, 54, 55, 56, 57, 97, 98, 99, 100, 101, 102]⟩
def figP (x : Int) : Int := if x < 10 then 48 + x else 87 + x
theorem fig_bt : ∀ n : Fin 16, bt HEXD (n.val : Int) = figP (n.val : Int) := by decide
theorem fig_at {x : Int} (h0 : 0 ≤ x) (h1 : x < 16) : bt HEXD x = figP x := by
  have := fig_bt ⟨x.toNat, by omega⟩
  simp only at this
  rwa [Int.toNat_of_nonneg h0] at this

def hexFrom (s : ByteArray) : Nat → List Int
  | 0 => []
  | n + 1 => hexFrom s n ++ [figP (bt s n / 16), figP (bt s n % 16)]
theorem hexFrom_length (s : ByteArray) : ∀ n, (hexFrom s n).length = 2 * n := by
  intro n
  induction n with
  | zero => rfl
  | succ n ih => simp [hexFrom, ih]; omega
def hexP (s : ByteArray) : ByteArray := strOfNums (hexFrom s s.size)

/-! two meshes alike -/
theorem ne3 (y z : Cell) : (!(y.f0 == z.f0) || (!(y.f1 == z.f1) || !(y.f2 == z.f2))) = !decide (y = z) := by
  rw [show decide (y = z) = decide (y.f0 = z.f0 ∧ y.f1 = z.f1 ∧ y.f2 = z.f2) from by rw [decide_eq_decide]; exact cell_ext]
  by_cases h1 : y.f0 = z.f0 <;> by_cases h2 : y.f1 = z.f1 <;> by_cases h3 : y.f2 = z.f2 <;> simp [h1, h2, h3]

/-! clamping -/
def clampP (n a b : Int) : Int := if b < a then a else if n < a then a else if b < n then b else n



/-! meshes of one level -/
def tailrow (r lv : Int) : Nat → Nat → Mid
  | _, 0 => []
  | i, d + 1 => ⟨r, lv, (i : Int)⟩ :: tailrow r lv (i + 1) d
def rowsFrom (lv : Int) (n : Nat) : Nat → Nat → Mid
  | _, 0 => []
  | r, d + 1 => tailrow (r : Int) lv 0 n ++ rowsFrom lv n (r + 1) d
def meshNewP (R lv : Int) : Int × Mid × Bool := if (1 ≤ R ∧ R ≤ 8) ∧ (0 ≤ lv ∧ lv ≤ 4) then (R, rowsFrom lv (2 ^ lv.toNat) 0 R.toNat, true) else (0, [], false)
theorem tailrow_length (r lv : Int) : ∀ d i, (tailrow r lv i d).length = d := by
  intro d
  induction d with
  | zero => intro i; rfl
  | succ d ih => intro i; simp [tailrow, ih]
theorem pow_lv {lv : Int} (h0 : 0 ≤ lv) (h1 : lv ≤ 4) : 1 ≤ 2 ^ lv.toNat ∧ 2 ^ lv.toNat ≤ 16 ∧ ((2 ^ lv.toNat : Nat) : Int) = 2 ^ lv.toNat := by
  obtain rfl | rfl | rfl | rfl | rfl := level_cases h0 h1 <;> decide
theorem s_new_l1 (R lv r : Int) (R' : Int) (h0 : 0 ≤ lv) (h1 : lv ≤ 4) (res : Int × Mid × Bool) : ∀ (d i : Nat) (acc : Mid), i + d = 2 ^ lv.toNat → acc.length ≤ 1000 + i → Ev (fun k => spec_MeshNew.l0 k R lv (wrap64 (r + 1)) R' (acc ++ tailrow r lv i d)) res → Ev (fun k => spec_MeshNew.l1 k R lv r (i : Int) R' acc) res := by
  obtain ⟨p1, p2, p3⟩ := pow_lv h0 h1
  intro d
  induction d with
  | zero =>
    intro i acc h hl he
    refine Ev.step (fun k => rfl) ?_
    have h2 : ¬ ((i : Int) < 2 ^ lv.toNat) := by rw [← p3]; omega
    simp only [spec_MeshNew.l1, u64_small h0 (show lv ≤ 9223372036854775807 by omega), h0, if_true, shl1 h0 h1, h2, if_false]
    simpa [tailrow] using he
  | succ d ih =>
    intro i acc h hl he
    refine Ev.step (fun k => rfl) ?_
    have h2 : (i : Int) < 2 ^ lv.toNat := by rw [← p3]; omega
    have h3 : acc.length < 5864062014805 := by omega
    simp only [spec_MeshNew.l1, u64_small h0 (show lv ≤ 9223372036854775807 by omega), h0, if_true, shl1 h0 h1, h2, h3, wsucc (show i < 4611686018427387904 by omega)]
    refine ih (i + 1) _ (by omega) (by simp; omega) ?_
    rw [List.append_assoc]
    exact he
theorem s_new_l0 (R lv : Int) (R' : Int) (h0 : 0 ≤ lv) (h1 : lv ≤ 4) : ∀ (d r : Nat) (acc : Mid), (r : Int) + d = R → R ≤ 8 → acc.length ≤ 16 * r → Ev (fun k => spec_MeshNew.l0 k R lv (r : Int) R' acc) (R', acc ++ rowsFrom lv (2 ^ lv.toNat) r d, true) := by
  obtain ⟨p1, p2, p3⟩ := pow_lv h0 h1
  intro d
  induction d with
  | zero =>
    intro r acc h hR hl
    refine Ev.step (fun k => rfl) ?_
    have h2 : ¬ ((r : Int) < R) := by omega
    simp only [spec_MeshNew.l0, h2, if_false]
    simpa [rowsFrom] using Ev.now (R', acc, true)
  | succ d ih =>
    intro r acc h hR hl
    refine Ev.step (fun k => rfl) ?_
    have h2 : (r : Int) < R := by omega
    simp only [spec_MeshNew.l0, h2, if_true]
    refine s_new_l1 R lv r R' h0 h1 _ (2 ^ lv.toNat) 0 acc (by omega) (by omega) ?_
    rw [wsucc (show r < 4611686018427387904 by omega)]
    have := ih (r + 1) (acc ++ tailrow (r : Int) lv 0 (2 ^ lv.toNat)) (by omega) hR (by rw [List.length_append, tailrow_length]; omega)
    rw [List.append_assoc] at this
    exact this
theorem s_meshNew (R lv : Int) : Ev (fun k => spec_MeshNew.f k R lv) (meshNewP R lv) := by
  unfold spec_MeshNew.f meshNewP
  simp only [s_in, Option.bind_some, decide_eq_true_eq]
  by_cases h1 : 1 ≤ R ∧ R ≤ 8
  · by_cases h2 : 0 ≤ lv ∧ lv ≤ 4
    · simp only [h1, h2, and_self, if_true, decide_true, Bool.not_true]
      refine Ev.step (fun k => rfl) ?_
      simp only [spec_MeshNew.j0, Bool.false_eq_true, if_false]
      have := s_new_l0 R lv R h2.1 h2.2 R.toNat 0 [] (by omega) h1.2 (by simp)
      simpa using this
    · simp only [h1, h2, and_false, and_self, if_true, if_false, decide_false, Bool.not_false]
      refine Ev.step (fun k => rfl) ?_
      simp only [spec_MeshNew.j0, if_true]
      exact Ev.now _
  · simp only [h1, if_false, false_and]
    refine Ev.step (fun k => rfl) ?_
    simp only [spec_MeshNew.j0, if_true]
    exact Ev.now _
theorem i_new_l1 (lv r R : Int) (R' : Int) (h0 : 0 ≤ lv) (h1 : lv ≤ 4) (res : Int × Mid × Bool) : ∀ (d i : Nat) (acc : Mid), i + d = 2 ^ lv.toNat → acc.length ≤ 1000 + i → Ev (fun k => impl_MeshNew.l0 k lv R (wrap64 (r + 1)) R' (acc ++ tailrow r lv i d)) res → Ev (fun k => impl_MeshNew.l1 k lv r R r (shl .i64 1 lv) (i : Int) R' acc) res := by
  obtain ⟨p1, p2, p3⟩ := pow_lv h0 h1
  intro d
  induction d with
  | zero =>
    intro i acc h hl he
    refine Ev.step (fun k => rfl) ?_
    have h2 : ¬ ((i : Int) < 2 ^ lv.toNat) := by rw [← p3]; omega
    simp only [impl_MeshNew.l1, shl1 h0 h1, h2, if_false]
    simpa [tailrow] using he
  | succ d ih =>
    intro i acc h hl he
    refine Ev.step (fun k => rfl) ?_
    have h2 : (i : Int) < 2 ^ lv.toNat := by rw [← p3]; omega
    have h3 : acc.length < 5864062014805 := by omega
    have h5 := ih (i + 1) (acc ++ [⟨r, lv, (i : Int)⟩]) (by omega) (by simp; omega) (by rw [List.append_assoc]; exact he)
    simp only [shl1 h0 h1] at h5
    simp only [impl_MeshNew.l1, shl1 h0 h1, h2, h3, if_true, wsucc (show i < 4611686018427387904 by omega)]
    exact h5
theorem i_new_l0 (R lv : Int) (R' : Int) (h0 : 0 ≤ lv) (h1 : lv ≤ 4) : ∀ (d r : Nat) (acc : Mid), (r : Int) + d = R → R ≤ 8 → acc.length ≤ 16 * r → Ev (fun k => impl_MeshNew.l0 k lv R (r : Int) R' acc) (R', acc ++ rowsFrom lv (2 ^ lv.toNat) r d, true) := by
  obtain ⟨p1, p2, p3⟩ := pow_lv h0 h1
  intro d
  induction d with
  | zero =>
    intro r acc h hR hl
    refine Ev.step (fun k => rfl) ?_
    have h2 : ¬ ((r : Int) < R) := by omega
    simp only [impl_MeshNew.l0, h2, if_false]
    simpa [rowsFrom] using Ev.now (R', acc, true)
  | succ d ih =>
    intro r acc h hR hl
    refine Ev.step (fun k => rfl) ?_
    have h2 : (r : Int) < R := by omega
    simp only [impl_MeshNew.l0, h2, h0, if_true]
    refine i_new_l1 lv r R R' h0 h1 _ (2 ^ lv.toNat) 0 acc (by omega) (by omega) ?_
    rw [wsucc (show r < 4611686018427387904 by omega)]
    have := ih (r + 1) (acc ++ tailrow (r : Int) lv 0 (2 ^ lv.toNat)) (by omega) hR (by rw [List.length_append, tailrow_length]; omega)
    rw [List.append_assoc] at this
    exact this
theorem i_meshNew (R lv : Int) : Ev (fun k => impl_MeshNew.f k R lv) (meshNewP R lv) := by
  unfold impl_MeshNew.f meshNewP
  simp only [i_in, i_level, Option.bind_some, decide_eq_true_eq]
  by_cases h1 : 1 ≤ R ∧ R ≤ 8
  · by_cases h2 : 0 ≤ lv ∧ lv ≤ 4
    · simp only [h1, h2, and_self, if_true, decide_true, Bool.not_true]
      refine Ev.step (fun k => rfl) ?_
      simp only [impl_MeshNew.j0, Bool.false_eq_true, if_false]
      have := i_new_l0 R lv R h2.1 h2.2 R.toNat 0 [] (by omega) h1.2 (by simp)
      simpa using this
    · simp only [h1, h2, and_false, and_self, if_true, if_false, decide_false, Bool.not_false]
      refine Ev.step (fun k => rfl) ?_
      simp only [impl_MeshNew.j0, if_true]
      exact Ev.now _
  · simp only [h1, if_false, false_and]
    refine Ev.step (fun k => rfl) ?_
    simp only [impl_MeshNew.j0, if_true]
    exact Ev.now _
theorem rowsFrom_length (lv : Int) (n : Nat) : ∀ d r, (rowsFrom lv n r d).length = n * d := by
  intro d
  induction d with
  | zero => intro r; rfl
  | succ d ih => intro r; simp [rowsFrom, ih, tailrow_length, Nat.mul_succ]; omega
theorem meshNewP_len (R lv : Int) : (meshNewP R lv).2.1.length ≤ 128 := by
  unfold meshNewP
  by_cases h : (1 ≤ R ∧ R ≤ 8) ∧ (0 ≤ lv ∧ lv ≤ 4)
  · rw [if_pos h]
    simp only [rowsFrom_length]
    obtain ⟨p1, p2, p3⟩ := pow_lv h.2.1 h.2.2
    have : 2 ^ lv.toNat * R.toNat ≤ 16 * 8 := Nat.mul_le_mul p2 (by omega)
    omega
  · rw [if_neg h]; simp

/-! marks -/
def markL (k : Int) : Mid → Mid
  | [] => []
  | _ :: r => ⟨k, k + 1, k + 2⟩ :: markL (k + 3) r
theorem markL_length : ∀ (l : Mid) (k : Int), (markL k l).length = l.length := by
  intro l
  induction l with
  | nil => intro k; rfl
  | cons x r ih => intro k; simp [markL, ih]
theorem rd_mid (pre : Mid) (x : Cell) (r : Mid) : rd_T25 (pre ++ x :: r) (pre.length : Int) = x := by
  rw [rdc _ pre.length (by simp)]; simp
theorem set_mid (pre : Mid) (x y : Cell) (r : Mid) : (pre ++ x :: r).set ((pre.length : Int)).toNat y = pre ++ y :: r := by
  rw [Int.toNat_natCast, List.set_append_right _ _ (Nat.le_refl _)]; simp
theorem mark_l0 : ∀ (rest pre : Mid) (kk : Int), pre.length + rest.length ≤ 1000000000 → 0 ≤ kk → kk + 3 * rest.length ≤ 4611686018427387904 → Ev (fun k => laws_markIdS.l0 k (pre ++ rest) kk (pre.length : Int)) (kk + 3 * rest.length, pre ++ markL kk rest) := by
  intro rest
  induction rest with
  | nil =>
    intro pre kk h h0 h1
    refine Ev.step (fun k => rfl) ?_
    have h2 : ¬ ((pre.length : Int) < ((pre ++ ([] : Mid)).length : Int)) := by simp
    simp only [laws_markIdS.l0, h2, if_false]
    simpa [markL] using Ev.now (kk, pre)
  | cons x r ih =>
    intro pre kk h h0 h1
    refine Ev.step (fun k => rfl) ?_
    have h2 : (pre.length : Int) < ((pre ++ x :: r).length : Int) := by simp; omega
    have h3 : (0 : Int) ≤ (pre.length : Int) := by omega
    rw [List.length_cons] at h h1
    simp only [laws_markIdS.l0, h2, h3, if_true, Option.bind_some, rd_mid, set_mid]
    rw [w64 (n := kk + 1) (by omega) (by omega), w64 (n := kk + 1 + 1) (by omega) (by omega), w64 (n := kk + 1 + 1 + 1) (by omega) (by omega), wsucc (show pre.length < 4611686018427387904 by omega)]
    have := ih (pre ++ [⟨kk, kk + 1, kk + 1 + 1⟩]) (kk + 1 + 1 + 1) (by simp; omega) (by omega) (by omega)
    rw [List.append_assoc, List.append_assoc] at this
    simp only [List.singleton_append, List.length_append, List.length_singleton] at this
    simp only [markL]
    rw [show kk + 1 + 1 = kk + 2 by omega, show kk + 2 + 1 = kk + 3 by omega] at this ⊢
    rw [show kk + 3 * (((x :: r).length : Nat) : Int) = kk + 3 + 3 * (r.length : Int) by simp; omega]
    exact this
theorem mark_ev (l : Mid) (kk : Int) (h : l.length ≤ 1000000000) (h0 : 0 ≤ kk) (h1 : kk ≤ 1000000000000) : Ev (fun k => laws_markIdS.f k l kk) (kk + 3 * l.length, markL kk l) := by
  have := mark_l0 l [] kk (by simpa using h) h0 (by omega)
  simpa [laws_markIdS.f] using this
theorem held_l0 : ∀ (rest pre : Mid) (kk : Int), pre.length + rest.length ≤ 1000000000 → 0 ≤ kk → kk + 3 * rest.length ≤ 4611686018427387904 → Ev (fun k => laws_heldIdS.l0 k (pre ++ markL kk rest) kk (pre.length : Int)) (kk + 3 * rest.length) := by
  intro rest
  induction rest with
  | nil =>
    intro pre kk h h0 h1
    refine Ev.step (fun k => rfl) ?_
    have h2 : ¬ ((pre.length : Int) < ((pre ++ markL kk ([] : Mid)).length : Int)) := by simp [markL]
    simp only [laws_heldIdS.l0, h2, if_false]
    simpa using Ev.now kk
  | cons x r ih =>
    intro pre kk h h0 h1
    refine Ev.step (fun k => rfl) ?_
    simp only [markL]
    have h2 : (pre.length : Int) < ((pre ++ (⟨kk, kk + 1, kk + 2⟩ : Cell) :: markL (kk + 3) r).length : Int) := by simp; omega
    have h3 : (0 : Int) ≤ (pre.length : Int) := by omega
    rw [List.length_cons] at h h1
    have e1 : wrap64 (kk + 1) = kk + 1 := w64 (by omega) (by omega)
    have e2 : wrap64 (kk + 1 + 1) = kk + 2 := by rw [w64 (by omega) (by omega)]; omega
    have e3 : wrap64 (kk + 2 + 1) = kk + 3 := by rw [w64 (by omega) (by omega)]; omega
    simp only [laws_heldIdS.l0, h2, h3, if_true, rd_mid, e1, e2, e3, wsucc (show pre.length < 4611686018427387904 by omega)]
    have := ih (pre ++ [⟨kk, kk + 1, kk + 2⟩]) (kk + 3) (by simp; omega) (by omega) (by omega)
    rw [List.append_assoc] at this
    simp only [List.singleton_append, List.length_append, List.length_singleton] at this
    rw [show kk + 3 * (((x :: r).length : Nat) : Int) = kk + 3 + 3 * (r.length : Int) by simp; omega]
    exact this
theorem held_ev (l : Mid) (kk : Int) (h : l.length ≤ 1000000000) (h0 : 0 ≤ kk) (h1 : kk ≤ 1000000000000) : Ev (fun k => laws_heldIdS.f k (markL kk l) kk) (kk + 3 * l.length) := by
  have := held_l0 l [] kk (by simpa using h) h0 (by omega)
  simpa [laws_heldIdS.f] using this
theorem markMesh_ev (R : Int) (l : Mid) (kk : Int) (h : l.length ≤ 1000000000) (h0 : 0 ≤ kk) (h1 : kk ≤ 1000000000000) : Ev (fun k => laws_markMesh.f k R l kk) (kk + 3 * l.length, markL kk l) := by
  unfold laws_markMesh.f
  refine Ev.bind (mark_ev l kk h h0 h1) ?_
  exact Ev.now _
theorem heldMesh_ev (R : Int) (l : Mid) (kk : Int) (h : l.length ≤ 1000000000) (h0 : 0 ≤ kk) (h1 : kk ≤ 1000000000000) : Ev (fun k => laws_heldMesh.f k R (markL kk l) kk) (kk + 3 * l.length) := by
  unfold laws_heldMesh.f
  refine Ev.bind (held_ev l kk h h0 h1) ?_
  have h2 : ¬ (kk + 3 * (l.length : Int) < 0) := by omega
  simp only [h2, if_false]
  exact Ev.now _

end Go.Proofs.Ytplchdejfhkmlaa.CoreFnExactMeshNew
