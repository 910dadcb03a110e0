/- A string can be decoded from its hexadecimal encoding, and longer strings are rejected, for every draw (one of more than 1048576 bytes is passed over by the statement itself); no condition. -/
import Derived.Test.YtpjmlgcpeebkdaaDoorCFnHexText
set_option linter.unusedSimpArgs false
set_option linter.unusedVariables false
namespace Go.Proofs.YtpjmlgcpeebkdaaDoor.Pure
open Go.RowKit Go.Proofs.YtpjmlgcpeebkdaaDoor.PFnHexText Go.Proofs.YtpjmlgcpeebkdaaDoorW.PrintWords Go.Proofs.YtpjmlgcpeebkdaaDoorW.PrintLast Go.Proofs.YtpjmlgcpeebkdaaDoorW.PrintMore Go.Proofs.YtpjmlgcpeebkdaaDoor.CoreFnHexText

theorem long_l0 (n : Nat) (c : Int) (hn : n ≤ 1048576) : ∀ (d i : Nat) (xs : List Int), i + d = n → xs.length = n → ∃ s, Ev (fun k => spec_l01Long.l0 k (n : Int) c xs (i : Int)) s ∧ s.size = n := by
  intro d
  induction d with
  | zero =>
    intro i xs h hx
    refine ⟨strOfNums xs, Ev.step (fun k => rfl) ?_, by rw [str_size, hx]⟩
    simp only [spec_l01Long.l0, show ¬ ((i : Int) < (n : Int)) by omega, if_false]
    exact Ev.now _
  | succ d ih =>
    intro i xs h hx
    obtain ⟨s, e, hs⟩ := ih (i + 1) (xs.set i c) (by omega) (by simp [hx])
    refine ⟨s, Ev.step (fun k => rfl) ?_, hs⟩
    simp only [spec_l01Long.l0, show ((i : Int) < (n : Int)) by omega, show (0 : Int) ≤ (i : Int) by omega, show ((i : Int) < (xs.length : Int)) by omega, if_true, wsucc (show i < 4611686018427387904 by omega), Int.toNat_natCast]
    exact e
theorem long (n : Nat) (c : Int) (hn : n ≤ 1048576) : ∃ s, Ev (fun k => spec_l01Long.f k (n : Int) c) s ∧ s.size = n := by
  unfold spec_l01Long.f
  obtain ⟨s, e, hs⟩ := long_l0 n c hn n 0 (List.replicate n 0) (by omega) (by simp)
  refine ⟨s, ?_, hs⟩
  simp only [show (0 : Int) ≤ (n : Int) by omega, if_true, Int.toNat_natCast, show n ≤ 281474976710656 by omega]
  exact e
theorem text_l0 (l : List Int) (hl : l.length ≤ 1048576) (n : Nat) (hn : n ≤ 5000) : ∀ (d j : Nat) (acc : List Int) (i h : Int), j + d = n → acc.length = j → 0 ≤ i → ∃ s i' h', Ev (fun k => spec_l01Text.l0 k (n : Int) acc (j : Int) l i h) (s, i', h') ∧ s.size = n := by
  intro d
  induction d with
  | zero =>
    intro j acc i h hj ha hi
    refine ⟨strOfNums acc, i, h, Ev.step (fun k => rfl) ?_, by rw [str_size, ha]; omega⟩
    simp only [spec_l01Text.l0, show ¬ ((j : Int) < (n : Int)) by omega, if_false]
    exact Ev.now _
  | succ d ih =>
    intro j acc i h hj ha hi
    obtain ⟨r, i', h', e, hi', h0, h1⟩ := s_byte l i h (by omega) hi
    obtain ⟨s, i2, h2, e2, hs⟩ := ih (j + 1) (acc ++ [r % 256]) i' h' (by omega) (by simp [ha]) hi'
    refine ⟨s, i2, h2, Ev.step (fun k => rfl) ?_, hs⟩
    simp only [spec_l01Text.l0, show ((j : Int) < (n : Int)) by omega, if_true, e, Option.bind_some, show acc.length < 140737488355328 by omega, wsucc (show j < 4611686018427387904 by omega)]
    exact e2
theorem text (l : List Int) (hl : l.length ≤ 1048576) (n : Nat) (hn : n ≤ 5000) (i h : Int) (hi : 0 ≤ i) : ∃ s i' h', Ev (fun k => spec_l01Text.f k l i h (n : Int)) (s, i', h') ∧ s.size = n := by
  unfold spec_l01Text.f
  obtain ⟨s, i', h', e, hs⟩ := text_l0 l hl n hn n 0 [] i h (by omega) rfl hi
  refine ⟨s, i', h', ?_, hs⟩
  simp only [show ¬ ((n : Int) > 5000) by omega, if_false]
  refine Ev.step (fun k => rfl) ?_
  simp only [spec_l01Text.j0]
  exact e
theorem drawn (l : List Int) (hl : l.length ≤ 1048576) : ∃ s, Ev (fun k => spec_DrawEncodeHex.f k l) s ∧ s.size ≤ 20001 := by
  unfold spec_DrawEncodeHex.f
  obtain ⟨h, e⟩ := s_new l hl
  obtain ⟨b, i1, h1, e1, hi1⟩ := s_once l 0 h 60 (by omega) (by omega)
  cases b with
  | true =>
    obtain ⟨r, i2, h2, e2, hi2, r0, r1, _⟩ := s_below l i1 h1 2 (by omega) hi1
    have r2 := r1 (by omega)
    obtain ⟨s, e3, hs⟩ := long (20000 + r.toNat) 200 (by omega)
    refine ⟨s, ?_, by omega⟩
    refine Ev.bind e ?_
    simp only [e1, Option.bind_some, if_true, e2]
    rw [show wrap64 (20000 + r) = ((20000 + r.toNat : Nat) : Int) by rw [w64 (by omega) (by omega)]; omega]
    exact Ev.bind e3 (Ev.now _)
  | false =>
    obtain ⟨r, i2, h2, e2, hi2, r0, r1, _⟩ := s_below l i1 h1 30 (by omega) hi1
    have r2 := r1 (by omega)
    obtain ⟨s, i3, h3, e3, hs⟩ := text l hl r.toNat (by omega) i2 h2 hi2
    refine ⟨s, ?_, by omega⟩
    refine Ev.bind e ?_
    simp only [e1, Option.bind_some, Bool.false_eq_true, if_false, e2]
    rw [Int.toNat_of_nonneg r0] at e3
    exact Ev.bind e3 (Ev.now _)

theorem hexFrom_at (s : ByteArray) : ∀ (n i : Nat), i < n → (hexFrom s n)[2 * i]? = some (figP (bt s i / 16)) ∧ (hexFrom s n)[2 * i + 1]? = some (figP (bt s i % 16)) := by
  intro n
  induction n with
  | zero => intro i h; omega
  | succ n ih =>
    intro i h
    rw [hexFrom]
    have hl := hexFrom_length s n
    by_cases h1 : i < n
    · rw [List.getElem?_append_left (by omega), List.getElem?_append_left (by omega)]
      exact ih i h1
    · obtain rfl : i = n := by omega
      rw [List.getElem?_append_right (by omega), List.getElem?_append_right (by omega), hl]
      simp
theorem bt_str (l : List Int) (j : Nat) (x : Int) (h : l[j]? = some x) (h0 : 0 ≤ x) (h1 : x ≤ 255) : bt (strOfNums l) (j : Int) = x := by
  obtain ⟨hj, hx⟩ := List.getElem?_eq_some_iff.1 h
  have hs : (j : Int).toNat < (strOfNums l).size := by rw [str_size]; omega
  rw [← bt_at _ _ hs]
  have e : (strOfNums l)[(j : Int).toNat]'hs = UInt8.ofNat x.toNat := by
    show ((l.map fun n => UInt8.ofNat n.toNat).toArray)[(j : Int).toNat]'hs = _
    simp [hx]
  rw [e]
  have : x.toNat < 256 := by omega
  rw [UInt8.toNat_ofNat']
  omega
theorem fig_bd {x : Int} (h0 : 0 ≤ x) (h1 : x < 16) : 0 ≤ figP x ∧ figP x ≤ 255 := by unfold figP; split <;> omega
theorem dig_fig {x : Int} (h0 : 0 ≤ x) (h1 : x < 16) : digP (figP x) = x := by
  unfold figP digP
  by_cases h : x < 10
  · rw [if_pos h, if_pos (by omega)]; omega
  · rw [if_neg h, if_neg (by omega), if_pos (by omega)]; omega
def bys (s : ByteArray) : Nat → Nat → List Int
  | _, 0 => []
  | i, d + 1 => bt s i :: bys s (i + 1) d
theorem dec_hex (s : ByteArray) : ∀ (d i : Nat) (acc : List Int), i + d = s.size → decGo (hexP s) (2 * i) d acc = (strOfNums (acc ++ bys s i d), true) := by
  intro d
  induction d with
  | zero => intro i acc h; simp [decGo, bys]
  | succ d ih =>
    intro i acc h
    have hb := bt_range s (i : Int)
    obtain ⟨a1, a2⟩ := hexFrom_at s s.size i (by omega)
    have g1 : 0 ≤ bt s (i : Int) / 16 := by omega
    have g2 : bt s (i : Int) / 16 < 16 := by omega
    have g3 : 0 ≤ bt s (i : Int) % 16 := by omega
    have g4 : bt s (i : Int) % 16 < 16 := by omega
    have b1 : bt (hexP s) ((2 * i : Nat) : Int) = figP (bt s i / 16) := bt_str _ _ _ a1 (fig_bd g1 g2).1 (fig_bd g1 g2).2
    have b2 : bt (hexP s) ((2 * i + 1 : Nat) : Int) = figP (bt s i % 16) := bt_str _ _ _ a2 (fig_bd g3 g4).1 (fig_bd g3 g4).2
    rw [decGo, b1, b2, dig_fig g1 g2, dig_fig g3 g4, if_neg (by omega), if_neg (by omega), show 2 * i + 2 = 2 * (i + 1) by omega, ih (i + 1) _ (by omega), bys, List.append_assoc]
    rw [show 16 * (bt s (i : Int) / 16) + bt s (i : Int) % 16 = bt s (i : Int) by omega]
    rfl
theorem bys_at (s : ByteArray) : ∀ (d i j : Nat), j < d → (bys s i d)[j]? = some (bt s ((i + j : Nat) : Int)) := by
  intro d
  induction d with
  | zero => intro i j h; omega
  | succ d ih =>
    intro i j h
    rw [bys]
    cases j with
    | zero => rfl
    | succ j =>
      rw [List.getElem?_cons_succ, ih (i + 1) j (by omega)]
      congr 3; omega
theorem bys_len (s : ByteArray) : ∀ (d i : Nat), (bys s i d).length = d := by
  intro d
  induction d with
  | zero => intro i; rfl
  | succ d ih => intro i; simp [bys, ih]
theorem str_bys (s : ByteArray) : strOfNums (bys s 0 s.size) = s := by
  have hz : (strOfNums (bys s 0 s.size)).size = s.size := by rw [str_size, bys_len]
  have hd : (strOfNums (bys s 0 s.size)).data = s.data := by
    apply Array.ext hz
    intro j h1 h2
    have h2' : j < s.size := h2
    have hb := bys_at s s.size 0 j h2'
    obtain ⟨hj, hx⟩ := List.getElem?_eq_some_iff.1 hb
    have e : (strOfNums (bys s 0 s.size)).data[j]'h1 = UInt8.ofNat (bt s ((0 + j : Nat) : Int)).toNat := by
      show (((bys s 0 s.size).map fun n => UInt8.ofNat n.toNat).toArray)[j]'h1 = _
      simp [hx]
    refine e.trans ?_
    have hs : ((0 + j : Nat) : Int).toNat < s.size := by omega
    rw [← bt_at s _ hs]
    have e2 : s[((0 + j : Nat) : Int).toNat]'hs = s.data[j]'h2 := by
      show s.data[((0 + j : Nat) : Int).toNat]'_ = _
      congr 1; omega
    rw [e2]
    simp
  cases s with
  | mk a => 
    generalize hq : strOfNums (bys ⟨a⟩ 0 (ByteArray.size ⟨a⟩)) = q at hd ⊢
    cases q with
    | mk b => exact congrArg ByteArray.mk hd
theorem hex_size (s : ByteArray) : (hexP s).size = 2 * s.size := by unfold hexP; rw [str_size, hexFrom_length]

theorem FnHexText : laws_FnHexText.Pure := by
  intro l _ _ _
  refine Ev.rounds ?_
  unfold laws_FnHexText.f
  simp only [big_eq, Option.bind_some, decide_eq_true_eq]
  by_cases h : (l.length : Int) > 1048576
  · simp only [h, if_true]; exact Ev.now _
  · simp only [h, if_false]
    obtain ⟨s, e, hs⟩ := drawn l (by omega)
    refine Ev.bind e ?_
    refine Ev.bind (i_enc s) ?_
    by_cases h1 : s.size ≤ 20000
    · have h2 : ¬ ((s.size : Int) > 20000) := by omega
      have hz := hex_size s
      simp only [h1, h2, if_true, if_false]
      refine Ev.bind (i_dec (hexP s) (by omega)) ?_
      have h3 : (hexP s).size ≤ 40000 ∧ (hexP s).size % 2 = 0 := by omega
      have h4 : decP (hexP s) = (s, true) := by
        unfold decP
        rw [if_pos h3, show (hexP s).size / 2 = s.size by omega, dec_hex s s.size 0 [] (by omega), List.nil_append, str_bys]
      rw [h4]
      simp only [if_true]
      rw [hz, w64 (by omega) (by omega)]
      rw [show (((2 * s.size : Nat) : Int) == 2 * (s.size : Int)) = true by simp]
      exact Ev.now _
    · have h2 : (s.size : Int) > 20000 := by omega
      simp only [h1, h2, if_true, if_false, Bool.false_eq_true]
      have h5 : (ByteArray.toList ⟨#[]⟩) = ([] : List UInt8) := by decide +kernel
      rw [if_pos h5]
      have h6 : impl_FormatInt.f 10 = some ⟨(Lib.decDigits 10).toArray⟩ := by
        unfold impl_FormatInt.f strconv_Itoa.f
        rfl
      rw [h6]
      have h7 : Lib.decDigits 10 = [49, 48] := by
        rw [Lib.decDigits, dif_neg (by omega), Lib.decDigits, dif_pos (by omega)]
        rfl
      rw [h7]
      have h8 : ((ByteArray.toList ⟨([49, 48] : List UInt8).toArray⟩) == ([49, 48] : List UInt8)) = true := by decide +kernel
      simp only [Option.bind_some]
      rw [h8]
      exact Ev.now _

end Go.Proofs.YtpjmlgcpeebkdaaDoor.Pure
