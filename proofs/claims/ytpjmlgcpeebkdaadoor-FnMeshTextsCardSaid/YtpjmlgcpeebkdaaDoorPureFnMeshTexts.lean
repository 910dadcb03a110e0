/- A drawn mesh is parsed from its text, a text with one more leaf is not a mesh's, a new mesh of level 2 has four leaves a root and is 2 deep, and a text has a byte a leaf and one between two roots, for every draw (one of more than 1048576 bytes is passed over by the statement itself); no condition. -/
import Derived.Test.YtpjmlgcpeebkdaaDoorCFnMeshTexts
import Derived.Lib.ItoaNum
set_option linter.unusedSimpArgs false
set_option linter.unusedVariables false
namespace Go.Proofs.YtpjmlgcpeebkdaaDoor.Pure
open Go.RowKit Go.Proofs.YtpjmlgcpeebkdaaDoor.PFnMeshTexts Go.Proofs.YtpjmlgcpeebkdaaDoorW.PrintWords Go.Proofs.YtpjmlgcpeebkdaaDoorW.PrintLast Go.Proofs.YtpjmlgcpeebkdaaDoorW.PrintMore Go.Proofs.YtpjmlgcpeebkdaaDoor.CoreFnMeshTexts

theorem toList_loop (s : ByteArray) : ∀ (d i : Nat) (r : List UInt8), s.size - i = d → ByteArray.toList.loop s i r = r.reverse ++ s.data.toList.drop i := by
  intro d
  induction d with
  | zero =>
    intro i r h
    have hl : s.data.toList.length = s.size := by rw [Array.length_toList]; rfl
    rw [ByteArray.toList.loop, if_neg (by omega), List.drop_eq_nil_of_le (by omega), List.append_nil]
  | succ d ih =>
    intro i r h
    have hl : s.data.toList.length = s.size := by rw [Array.length_toList]; rfl
    have hi : i < s.data.toList.length := by omega
    have hg : s.get! i = s.data.toList[i] := by
      show s.data[i]! = _
      rw [getElem!_pos s.data i (by rw [Array.length_toList] at hi; exact hi)]
      simp
    rw [ByteArray.toList.loop, if_pos (by omega), ih (i + 1) _ (by omega), List.drop_eq_getElem_cons hi, hg]
    simp
theorem toList_data (s : ByteArray) : s.toList = s.data.toList := by
  unfold ByteArray.toList
  rw [toList_loop s s.size 0 [] rfl]
  simp

/-! the text of a mesh: a figure a leaf, a bar between roots -/
def txtI : Option Int → Mid → List Int
  | _, [] => []
  | p, x :: r => (if p.getD x.f0 = x.f0 then [] else [124]) ++ (48 + x.f1) :: txtI (some x.f0) r
def fmtP (R : Int) (l : Mid) : ByteArray := if meshOkB R l = true then strOfNums (txtI none l) else ⟨#[]⟩
theorem go_txt : ∀ (l : Mid) (p : Option Int), (∀ x ∈ l, 0 ≤ x.f1 ∧ x.f1 ≤ 4) → impl_FormatMesh.go p l = some ((txtI p l).map fun n => UInt8.ofNat n.toNat)
  | [], _, _ => rfl
  | x :: r, p, h => by
    have hx := h x (by simp)
    have hf : impl_FormatInt.f x.f1 = some ⟨#[UInt8.ofNat (48 + x.f1.toNat)]⟩ := by
      unfold impl_FormatInt.f strconv_Itoa.f
      rw [if_pos hx.1, if_pos (by omega), Lib.decDigits_one (by omega)]
      rfl
    unfold impl_FormatMesh.go txtI
    rw [hf, Option.bind_some, go_txt r (some x.f0) (fun y hy => h y (by simp [hy])), Option.bind_some]
    have e : (48 + x.f1).toNat = 48 + x.f1.toNat := by omega
    by_cases c : p.getD x.f0 = x.f0
    · simp [c, e]
    · simp [c, e]
theorem i_fmt (R : Int) (l : Mid) (hl : l.length ≤ 1048576) : Ev (fun k => impl_FormatMesh.f k R l) (fmtP R l) := by
  unfold impl_FormatMesh.f fmtP
  refine Ev.bind (i_mesh R l (by omega)) ?_
  by_cases h : meshOkB R l = true
  · simp only [h, if_true, hl]
    rw [go_txt l none (meshOk_lv h), Option.bind_some]
    exact Ev.now _
  · simp only [h, if_false]
    exact Ev.now _

/-! a mesh out of its text -/
abbrev PM := Int × Mid × Bool
def bys (l : List Int) : List UInt8 := l.map fun n => UInt8.ofNat n.toNat
theorem str_list (l : List Int) : (strOfNums l).data.toList = bys l := by unfold strOfNums bys; simp
theorem str_len (l : List Int) : (strOfNums l).size = l.length := by unfold strOfNums; simp [ByteArray.size]
theorem ba_ext {a b : ByteArray} (h : a.data.toList = b.data.toList) : a = b := by
  cases a; cases b
  congr
  exact Array.toList_inj.1 h
def pI (a : Int) (acc : Mid) : List UInt8 → Option (Int × Mid)
  | [] => some (a / 16, acc)
  | b :: r => if b.toNat = 124 then pI a acc r else if 48 ≤ b.toNat ∧ b.toNat ≤ 52 then pI (a + widthP ((b.toNat : Int) - 48)) (acc ++ [⟨a / 16, (b.toNat : Int) - 48, a % 16 / widthP ((b.toNat : Int) - 48)⟩]) r else none
def pS (a R : Int) (acc : Mid) : List UInt8 → Option (Int × Mid)
  | [] => some (R, acc)
  | b :: r => if b.toNat = 124 then pS 0 (R + 1) acc r else if widthP ((b.toNat : Int) - 48) = 0 then none else if a % widthP ((b.toNat : Int) - 48) = 0 then pS (a + widthP ((b.toNat : Int) - 48)) R (acc ++ [⟨R - 1, (b.toNat : Int) - 48, a / widthP ((b.toNat : Int) - 48)⟩]) r else none
def finP (s : ByteArray) : Option (Int × Mid) → PM
  | none => (0, [], false)
  | some m => if s.data.toList ≠ [] ∧ (fmtP m.1 m.2).data.toList = s.data.toList then (m.1, m.2, true) else (0, [], false)
theorem finP_yes {s : ByteArray} {R : Int} {l : Mid} (h : s.data.toList ≠ [] ∧ (fmtP R l).data.toList = s.data.toList) : finP s (some (R, l)) = (R, l, true) := if_pos h
theorem finP_no {s : ByteArray} {R : Int} {l : Mid} (h : ¬ (s.data.toList ≠ [] ∧ (fmtP R l).data.toList = s.data.toList)) : finP s (some (R, l)) = (0, [], false) := if_neg h
def parseI (s : ByteArray) : PM := if s.size ≤ 136 then finP s (pI 0 [] s.data.toList) else (0, [], false)
def parseS (s : ByteArray) : PM := if s.size ≤ 200 then finP s (pS 0 1 [] s.data.toList) else (0, [], false)
theorem bt_list (s : ByteArray) (i : Nat) (h : i < s.data.toList.length) : bt s (i : Int) = ((s.data.toList[i]).toNat : Int) := by
  have hs : (i : Int).toNat < s.size := by rw [Int.toNat_natCast]; simpa using h
  rw [← bt_at s (i : Int) hs]
  simp only [Int.toNat_natCast]
  rfl
theorem width_of {b : Int} : (0 ≤ b ∧ b ≤ 4) ∨ (widthP b = 0 ∧ ¬ (0 ≤ b ∧ b ≤ 4)) := by
  by_cases h : 0 ≤ b ∧ b ≤ 4
  · exact .inl h
  · exact .inr ⟨by unfold widthP; rw [if_neg h], h⟩
theorem i_parse_l0 (s : ByteArray) (hs : s.size ≤ 136) : ∀ (d i : Nat) (a : Int) (acc : Mid), i + d = s.size → 0 ≤ a → a ≤ 16 * i → acc.length ≤ i → Ev (fun k => impl_ParseMesh.l0 k s a (s.size : Int) (i : Int) 0 acc) (finP s (pI a acc (s.data.toList.drop i))) := by
  have hl : s.data.toList.length = s.size := by rw [Array.length_toList]; rfl
  intro d
  induction d with
  | zero =>
    intro i a acc hi ha ha2 hacc
    rw [List.drop_eq_nil_of_le (by omega)]
    refine Ev.step (fun k => rfl) ?_
    have hw : wrap64 (Int.tdiv a 16) = a / 16 := by rw [Int.tdiv_eq_ediv_of_nonneg ha]; exact w64 (by omega) (by omega)
    simp only [impl_ParseMesh.l0, show ¬ ((i : Int) < (s.size : Int)) by omega, if_false, hw, pI]
    refine Ev.bind (i_fmt _ _ (by omega)) ?_
    rw [toList_data, toList_data]
    by_cases c1 : (fmtP (a / 16) acc).data.toList = []
    · rw [if_pos c1]
      rw [finP_no (fun h => h.1 (h.2.symm.trans c1))]
      exact Ev.now _
    · rw [if_neg c1]
      by_cases c2 : (fmtP (a / 16) acc).data.toList = s.data.toList
      · rw [if_pos c2, finP_yes ⟨fun e => c1 (c2.trans e), c2⟩]
        exact Ev.now _
      · rw [if_neg c2, finP_no (fun h => c2 h.2)]
        exact Ev.now _
  | succ d ih =>
    intro i a acc hi ha ha2 hacc
    have hil : i < s.data.toList.length := by omega
    rw [List.drop_eq_getElem_cons hil]
    have hb := bt_list s i hil
    have hbr := bt_range s (i : Int)
    refine Ev.step (fun k => rfl) ?_
    simp only [impl_ParseMesh.l0, show ((i : Int) < (s.size : Int)) by omega, show (0 : Int) ≤ (i : Int) by omega, if_true, pI, hb]
    rw [hb] at hbr
    generalize (s.data.toList[i]) = b at hbr
    by_cases h1 : b.toNat = 124
    · simp only [show ((b.toNat : Int) = 124) by omega, h1, if_true, wsucc (show i < 4611686018427387904 by omega)]
      exact ih (i + 1) a acc (by omega) ha (by omega) (by omega)
    · have h1z : ¬ ((b.toNat : Int) = 124) := fun e => h1 (by exact_mod_cast e)
      have e48 : wrap64 (wrap64 (b.toNat : Int) - 48) = (b.toNat : Int) - 48 := by rw [w64 (n := (b.toNat : Int)) (by omega) (by omega), w64 (by omega) (by omega)]
      simp only [h1z, h1, if_false, e48, i_level, Option.bind_some, decide_eq_true_eq]
      by_cases h2 : 48 ≤ b.toNat ∧ b.toNat ≤ 52
      · have h3 : (0 : Int) ≤ (b.toNat : Int) - 48 ∧ (b.toNat : Int) - 48 ≤ 4 := by omega
        obtain ⟨p1, p2, p3⟩ := width_pos h3.1 h3.2
        have hm : 0 ≤ a % 16 := Int.emod_nonneg _ (by omega)
        have hm2 : a % 16 / widthP ((b.toNat : Int) - 48) ≤ a % 16 := Int.ediv_le_self _ hm
        have hm3 : 0 ≤ a % 16 / widthP ((b.toNat : Int) - 48) := Int.ediv_nonneg hm (by omega)
        have e1 : wrap64 (Int.tdiv a 16) = a / 16 := by rw [Int.tdiv_eq_ediv_of_nonneg ha]; exact w64 (by omega) (by omega)
        have e2 : wrap64 (Int.tdiv (Int.tmod a 16) (widthP ((b.toNat : Int) - 48))) = a % 16 / widthP ((b.toNat : Int) - 48) := by
          rw [Int.tmod_eq_emod_of_nonneg ha, Int.tdiv_eq_ediv_of_nonneg hm]
          exact w64 (by omega) (by omega)
        have e3 : wrap64 (a + widthP ((b.toNat : Int) - 48)) = a + widthP ((b.toNat : Int) - 48) := w64 (by omega) (by omega)
        simp only [h3, h2, and_self, if_true, i_width, Option.bind_some, show ¬ (widthP ((b.toNat : Int) - 48) = 0) by omega, if_false, show acc.length < 5864062014805 by omega, e1, e2, e3, wsucc (show i < 4611686018427387904 by omega)]
        exact ih (i + 1) _ _ (by omega) (by omega) (by omega) (by simp; omega)
      · have h3 : ¬ ((0 : Int) ≤ (b.toNat : Int) - 48 ∧ (b.toNat : Int) - 48 ≤ 4) := by omega
        simp only [h3, h2, if_false, finP]
        exact Ev.now _
theorem i_parse (s : ByteArray) : Ev (fun k => impl_ParseMesh.f k s) (parseI s) := by
  unfold impl_ParseMesh.f parseI
  by_cases h : s.size ≤ 136
  · simp only [show ¬ ((s.size : Int) > 136) by omega, if_false, h, if_true]
    have := i_parse_l0 s h s.size 0 0 [] (by omega) (by omega) (by omega) (by simp)
    simpa using this
  · simp only [show ((s.size : Int) > 136) by omega, if_true, h, if_false]
    exact Ev.now _

/-! the text of a mesh that is right is read back -/
theorem byte_of {n : Int} (h0 : 0 ≤ n) (h1 : n ≤ 255) : (UInt8.ofNat n.toNat).toNat = n.toNat := by
  rw [UInt8.toNat_ofNat']; omega
theorem leaf_at {x : Cell} (h : idokB x.f0 x.f1 x.f2 = true) : 0 ≤ x.f1 ∧ x.f1 ≤ 4 ∧ 0 ≤ x.f0 ∧ startP x.f0 x.f1 x.f2 = x.f0 * 16 + x.f2 * widthP x.f1 ∧ 0 ≤ x.f2 * widthP x.f1 ∧ x.f2 * widthP x.f1 + widthP x.f1 ≤ 16 ∧ 1 ≤ widthP x.f1 := by
  have hi := idok_iff.1 h
  have hc := cw_bd hi.2.2.1 hi.2.2.2.1 hi.2.2.2.2.1 hi.2.2.2.2.2
  have hw := width_pos hi.2.2.1 hi.2.2.2.1
  exact ⟨hi.2.2.1, hi.2.2.2.1, hi.1, by unfold startP; rw [if_pos h], hc.1, hc.2, hw.1⟩
theorem pI_fig (x : Cell) (h : idokB x.f0 x.f1 x.f2 = true) (acc : Mid) (r : List UInt8) : pI (startP x.f0 x.f1 x.f2) acc (UInt8.ofNat (48 + x.f1).toNat :: r) = pI (endP x.f0 x.f1 x.f2) (acc ++ [x]) r := by
  obtain ⟨h0, h1, h2, h3, h4, h5, h6⟩ := leaf_at h
  have hb := byte_of (n := 48 + x.f1) (by omega) (by omega)
  have e : ((48 + x.f1).toNat : Int) - 48 = x.f1 := by omega
  conv => lhs; unfold pI
  rw [hb, if_neg (by omega), if_pos (by omega), e]
  have e1 : startP x.f0 x.f1 x.f2 / 16 = x.f0 := by rw [h3]; omega
  have e2 : startP x.f0 x.f1 x.f2 % 16 / widthP x.f1 = x.f2 := by
    have : startP x.f0 x.f1 x.f2 % 16 = x.f2 * widthP x.f1 := by rw [h3]; omega
    rw [this]
    exact Int.mul_ediv_cancel _ (by omega)
  rw [e1, e2]
  rfl
theorem pI_txt : ∀ (l : Mid) (p : Option Int) (a b : Int) (acc : Mid) (tail : List UInt8), meshFrom a l = some b → pI a acc (bys (txtI p l) ++ tail) = pI b (acc ++ l) tail
  | [], p, a, b, acc, tail, h => by
    obtain rfl : a = b := by simpa [meshFrom] using h
    simp [txtI, bys]
  | x :: r, p, a, b, acc, tail, h => by
    unfold meshFrom at h
    by_cases c : idokB x.f0 x.f1 x.f2 = true ∧ startP x.f0 x.f1 x.f2 = a
    · rw [if_pos c] at h
      obtain ⟨c1, rfl⟩ := c
      have ih := pI_txt r (some x.f0) _ _ (acc ++ [x]) tail h
      have key : pI (startP x.f0 x.f1 x.f2) acc (bys ((48 + x.f1) :: txtI (some x.f0) r) ++ tail) = pI b (acc ++ x :: r) tail := by
        show pI (startP x.f0 x.f1 x.f2) acc (UInt8.ofNat (48 + x.f1).toNat :: (bys (txtI (some x.f0) r) ++ tail)) = _
        rw [pI_fig x c1, ih]
        simp
      unfold txtI
      by_cases d : p.getD x.f0 = x.f0
      · rw [if_pos d]; exact key
      · rw [if_neg d]
        show pI _ acc ((124 : UInt8) :: (bys ((48 + x.f1) :: txtI (some x.f0) r) ++ tail)) = _
        conv => lhs; unfold pI
        rw [if_pos (by decide)]
        exact key
    · rw [if_neg c] at h; cases h
theorem pS_fig (x : Cell) (h : idokB x.f0 x.f1 x.f2 = true) (acc : Mid) (r : List UInt8) : pS (startP x.f0 x.f1 x.f2 - x.f0 * 16) (x.f0 + 1) acc (UInt8.ofNat (48 + x.f1).toNat :: r) = pS (endP x.f0 x.f1 x.f2 - x.f0 * 16) (x.f0 + 1) (acc ++ [x]) r := by
  obtain ⟨h0, h1, h2, h3, h4, h5, h6⟩ := leaf_at h
  have hb := byte_of (n := 48 + x.f1) (by omega) (by omega)
  have e : ((48 + x.f1).toNat : Int) - 48 = x.f1 := by omega
  conv => lhs; unfold pS
  have es : startP x.f0 x.f1 x.f2 - x.f0 * 16 = x.f2 * widthP x.f1 := by omega
  rw [hb, if_neg (by omega), e, if_neg (by omega), es, if_pos (Int.mul_emod_left _ _), Int.mul_ediv_cancel _ (by omega)]
  have e2 : x.f2 * widthP x.f1 + widthP x.f1 = endP x.f0 x.f1 x.f2 - x.f0 * 16 := by unfold endP; omega
  rw [e2, show x.f0 + 1 - 1 = x.f0 by omega]
theorem pS_txt : ∀ (l : Mid) (q a b : Int) (acc : Mid), meshFrom a l = some b → q * 16 ≤ a → a ≤ q * 16 + 16 → ∃ q', pS (a - q * 16) (q + 1) acc (bys (txtI (some q) l)) = some (q' + 1, acc ++ l) ∧ b ≤ q' * 16 + 16 ∧ (q' * 16 < b ∨ l = []) ∧ ((txtI (some q) l).length : Int) = l.length + (q' - q)
  | [], q, a, b, acc, h, h1, h2 => by
    obtain rfl : a = b := by simpa [meshFrom] using h
    exact ⟨q, by simp [txtI, bys, pS], by omega, .inr rfl, by simp [txtI]⟩
  | x :: r, q, a, b, acc, h, h1, h2 => by
    unfold meshFrom at h
    by_cases c : idokB x.f0 x.f1 x.f2 = true ∧ startP x.f0 x.f1 x.f2 = a
    · rw [if_pos c] at h
      obtain ⟨c1, rfl⟩ := c
      obtain ⟨k0, k1, k2, k3, k4, k5, k6⟩ := leaf_at c1
      have ke : endP x.f0 x.f1 x.f2 = x.f0 * 16 + x.f2 * widthP x.f1 + widthP x.f1 := by unfold endP; omega
      obtain ⟨q', i1, i2, i3, i4⟩ := pS_txt r x.f0 _ b (acc ++ [x]) h (by omega) (by omega)
      have key : pS (startP x.f0 x.f1 x.f2 - x.f0 * 16) (x.f0 + 1) acc (bys ((48 + x.f1) :: txtI (some x.f0) r)) = some (q' + 1, acc ++ x :: r) := by
        show pS _ _ acc (UInt8.ofNat (48 + x.f1).toNat :: bys (txtI (some x.f0) r)) = _
        rw [pS_fig x c1, i1]
        simp
      have hb : q' * 16 < b := by
        rcases i3 with h' | h'
        · exact h'
        · subst h'
          have e1 : endP x.f0 x.f1 x.f2 = b := by simpa [meshFrom] using h
          simp only [txtI, List.length_nil] at i4
          omega
      unfold txtI
      simp only [Option.getD_some]
      by_cases d : q = x.f0
      · rw [if_pos d]
        refine ⟨q', ?_, i2, .inl hb, ?_⟩
        · rw [d]; exact key
        · simp only [List.nil_append, List.length_cons]; omega
      · rw [if_neg d]
        have dq : x.f0 = q + 1 := by omega
        refine ⟨q', ?_, i2, .inl hb, ?_⟩
        · show pS _ _ acc ((124 : UInt8) :: bys ((48 + x.f1) :: txtI (some x.f0) r)) = _
          conv => lhs; unfold pS
          rw [if_pos (by decide)]
          have e0 : (0 : Int) = startP x.f0 x.f1 x.f2 - x.f0 * 16 := by omega
          rw [e0, ← dq]
          exact key
        · simp only [List.cons_append, List.nil_append, List.length_cons]; omega
    · rw [if_neg c] at h; cases h
theorem txt_first {R : Int} {l : Mid} (h : meshOkB R l = true) : txtI none l = txtI (some 0) l := by
  cases l with
  | nil => rfl
  | cons x r =>
    have hm := (meshOk_from.1 h).1
    unfold meshFrom at hm
    by_cases c : idokB x.f0 x.f1 x.f2 = true ∧ startP x.f0 x.f1 x.f2 = 0
    · obtain ⟨k0, k1, k2, k3, k4, k5, k6⟩ := leaf_at c.1
      have : x.f0 = 0 := by omega
      unfold txtI
      simp [this]
    · rw [if_neg c] at hm; cases hm
theorem txt_len {R : Int} {l : Mid} (h : meshOkB R l = true) : ((txtI none l).length : Int) = l.length + R - 1 ∧ pS 0 1 [] (bys (txtI none l)) = some (R, l) := by
  obtain ⟨hm, h1, h2⟩ := meshOk_from.1 h
  obtain ⟨q', i1, i2, i3, i4⟩ := pS_txt l 0 0 (R * 16) [] hm (by omega) (by omega)
  have hq : q' + 1 = R := by
    rcases i3 with h' | h'
    · omega
    · exact absurd h' (meshOk_ne h)
  rw [txt_first h]
  refine ⟨by omega, ?_⟩
  have : pS 0 1 [] (bys (txtI (some 0) l)) = some (q' + 1, [] ++ l) := i1
  rw [this, hq]
  rfl
theorem txt_I {R : Int} {l : Mid} (h : meshOkB R l = true) (tail : List UInt8) : pI 0 [] (bys (txtI none l) ++ tail) = pI (R * 16) l tail := by
  have := pI_txt l none 0 (R * 16) [] tail (meshOk_from.1 h).1
  simpa using this
theorem fmt_ok {R : Int} {l : Mid} (h : (fmtP R l).data.toList ≠ []) : meshOkB R l = true := by
  by_cases c : meshOkB R l = true
  · exact c
  · exfalso; apply h; unfold fmtP; rw [if_neg c]
theorem txt_pos {R : Int} {l : Mid} (h : meshOkB R l = true) : (fmtP R l).data.toList ≠ [] ∧ (fmtP R l).data.toList = bys (txtI none l) ∧ (fmtP R l).size = (txtI none l).length := by
  have e : fmtP R l = strOfNums (txtI none l) := by unfold fmtP; rw [if_pos h]
  rw [e, str_list, str_len]
  refine ⟨?_, rfl, rfl⟩
  have hl := (txt_len h).1
  have h1 := meshOk_len h
  have hn : l ≠ [] := meshOk_ne h
  have : 0 < l.length := by cases l with | nil => exact absurd rfl hn | cons => simp
  intro e
  have := congrArg List.length e
  simp [bys] at this
  rw [this] at hl
  simp at hl
  omega
theorem parseI_fmt {R : Int} {l : Mid} (h : meshOkB R l = true) : parseI (fmtP R l) = (R, l, true) := by
  obtain ⟨h1, h2, h3⟩ := txt_pos h
  have hl := (txt_len h).1
  have hk := meshOk_len h
  unfold parseI
  rw [if_pos (by omega), h2]
  have e := txt_I h []
  rw [List.append_nil] at e
  rw [e]
  show finP (fmtP R l) (some (R * 16 / 16, l)) = _
  rw [show R * 16 / 16 = R by omega, finP_yes ⟨h1, rfl⟩]
theorem parseI_bad (s : ByteArray) (h : ¬ ∃ R l, meshOkB R l = true ∧ s = fmtP R l) (o : Option (Int × Mid)) : finP s o = (0, [], false) := by
  cases o with
  | none => rfl
  | some m =>
    refine finP_no ?_
    rintro ⟨h1, h2⟩
    exact h ⟨m.1, m.2, fmt_ok (by rw [h2]; exact h1), ba_ext h2.symm⟩

theorem parse_more {R : Int} {l : Mid} (h : meshOkB R l = true) : (parseI (fmtP R l ++ ⟨#[52]⟩)).2.2 = false := by
  have hk := meshOk_len h
  have hm := (meshOk_from.1 h).1
  have hd : (fmtP R l ++ (⟨#[52]⟩ : ByteArray)).data.toList = bys (txtI none l) ++ [52] := by
    rw [← (txt_pos h).2.1]
    simp
  unfold parseI
  split
  · rw [hd, txt_I h]
    have e1 : pI (R * 16) l [52] = some ((R * 16 + widthP 4) / 16, l ++ [⟨R * 16 / 16, 4, R * 16 % 16 / widthP 4⟩]) := by
      unfold pI
      rw [if_neg (by decide), if_pos (by decide)]
      rfl
    rw [e1, show widthP 4 = 1 by decide, show (R * 16 + 1) / 16 = R by omega]
    rw [finP_no]
    rintro ⟨c1, c2⟩
    have c3 := (meshOk_from.1 (fmt_ok (by rw [c2]; exact c1))).1
    rw [meshFrom_app, hm, Option.bind_some] at c3
    unfold meshFrom at c3
    split at c3
    · rename_i c4
      have e2 := c4.2
      have e3 : endP (R * 16 / 16) 4 (R * 16 % 16 / 1) = R * 16 := by simpa [meshFrom] using c3
      unfold endP at e3
      rw [show widthP 4 = 1 by decide] at e3
      simp only at e2
      omega
    · cases c3
  · rfl
theorem newMesh {R : Int} (h1 : 1 ≤ R) (h3 : R ≤ 3) : (meshNewP R 2).2.2 = true ∧ ((meshNewP R 2).2.1.length : Int) = 4 * R ∧ deepB (meshNewP R 2).1 (meshNewP R 2).2.1 = 2 := by
  have : R = 1 ∨ R = 2 ∨ R = 3 := by omega
  obtain rfl | rfl | rfl := this <;> decide +kernel

theorem FnMeshTexts : laws_FnMeshTexts.Pure := by
  intro l _ _ _
  refine Ev.rounds ?_
  unfold laws_FnMeshTexts.f
  simp only [big_eq, Option.bind_some, decide_eq_true_eq]
  by_cases h : (l.length : Int) > 1048576
  · simp only [h, if_true]; exact Ev.now _
  · simp only [h, if_false]
    obtain ⟨R, m, ed, hok, hR1, hR3, hml⟩ := s_drawMesh l (by omega)
    refine Ev.bind ed ?_
    refine Ev.bind (i_fmt R m (by omega)) ?_
    refine Ev.bind (i_parse _) ?_
    have hz := (txt_pos hok).2.2
    have hl := (txt_len hok).1
    have hb := parse_more hok
    obtain ⟨n1, n2, n3⟩ := newMesh hR1 hR3
    have hn := meshNewP_len R 2
    simp only [show (fmtP R m).size + 1 ≤ 9223372036854775807 by omega, if_true, parseI_fmt hok]
    refine Ev.bind (i_parse _) ?_
    try simp only
    refine Ev.bind (i_meshNew R 2) ?_
    try simp only
    refine Ev.bind (s_same R R m m (by omega)) ?_
    have e4 : wrap64 (4 * R) = 4 * R := w64 (by omega) (by omega)
    simp only [and_self, decide_true, if_true, hb, Bool.false_eq_true, if_false, n1, n2, e4]
    refine Ev.bind (i_deep _ _ (by omega)) ?_
    simp only [n3, if_true]
    have e5 : wrap64 (wrap64 ((m.length : Int) + R) - 1) = (m.length : Int) + R - 1 := by rw [w64 (n := (m.length : Int) + R) (by omega) (by omega), w64 (by omega) (by omega)]
    rw [e5]
    have e6 : (((fmtP R m).size : Int) == (m.length : Int) + R - 1) = true := beq_iff_eq.mpr (by omega)
    rw [e6]
    exact Ev.now _

end Go.Proofs.YtpjmlgcpeebkdaaDoor.Pure
