/- The program reads the number of a decimal text as the reference does, for every string (one of more than 1048576 bytes is passed over by the statement itself); no condition. -/
import Derived.Test.YtpjmlgcpeebkdaaDoorCFnExactParseUint
import Derived.Lib.AtoiTie
set_option linter.unusedSimpArgs false
set_option linter.unusedVariables false
namespace Go.Proofs.YtpjmlgcpeebkdaaDoor.Pure
open Go.RowKit Go.Proofs.YtpjmlgcpeebkdaaDoor.PFnExactParseUint Go.Proofs.YtpjmlgcpeebkdaaDoorW.PrintWords Go.Proofs.YtpjmlgcpeebkdaaDoorW.PrintLast Go.Proofs.YtpjmlgcpeebkdaaDoorW.PrintMore Go.Proofs.YtpjmlgcpeebkdaaDoor.CoreFnExactParseUint

theorem toList_loop (s : ByteArray) : ∀ (d i : Nat) (r : List UInt8), s.size - i = d → ByteArray.toList.loop s i r = r.reverse ++ s.data.toList.drop i := by
  intro d
  induction d with
  | zero =>
    intro i r h
    have hl : s.data.toList.length = s.size := by rw [Array.length_toList]; rfl
    rw [ByteArray.toList.loop, if_neg (by omega), List.drop_eq_nil_of_le (by omega), List.append_nil]
  | succ d ih =>
    intro i r h
    have hl : s.data.toList.length = s.size := by rw [Array.length_toList]; rfl
    have hi : i < s.data.toList.length := by omega
    have hg : s.get! i = s.data.toList[i] := by
      show s.data[i]! = _
      rw [getElem!_pos s.data i (by rw [Array.length_toList] at hi; exact hi)]
      simp
    rw [ByteArray.toList.loop, if_pos (by omega), ih (i + 1) _ (by omega), List.drop_eq_getElem_cons hi, hg]
    simp
theorem toList_data (s : ByteArray) : s.toList = s.data.toList := by
  unfold ByteArray.toList
  rw [toList_loop s s.size 0 [] rfl]
  simp

/-! the reference's decimal text -/
def sgnP (b : Bool) (s : ByteArray) : ByteArray := if b = true then (⟨#[45]⟩ : ByteArray) ++ s else s
def digs (n : Nat) (s : ByteArray) : ByteArray := if n = 0 then s else ⟨(Lib.decDigits n).toArray⟩ ++ s
theorem bytes_ext {a b : ByteArray} (h : a.data.toList = b.data.toList) : a = b := by
  cases a; cases b
  simp only at h
  rw [Array.toList_inj] at h
  rw [h]
theorem app_list (a b : ByteArray) : (a ++ b).data.toList = a.data.toList ++ b.data.toList := by
  rw [ByteArray.data_append, Array.toList_append]
theorem one_byte (d : Nat) (h : d < 10) : (strOfNums [48 + (d : Int)]).data.toList = [UInt8.ofNat (48 + d)] := by
  show [UInt8.ofNat (48 + (d : Int)).toNat] = _
  rw [show (48 + (d : Int)).toNat = 48 + d by omega]
theorem digs_step (n : Nat) (h : n ≠ 0) (s : ByteArray) : digs n s = digs (n / 10) (strOfNums [48 + ((n % 10 : Nat) : Int)] ++ s) := by
  unfold digs
  rw [if_neg h]
  by_cases h1 : n < 10
  · rw [if_pos (show n / 10 = 0 by omega), Lib.decDigits, dif_pos h1]
    apply bytes_ext
    rw [app_list, app_list, one_byte _ (by omega), show n % 10 = n by omega]
  · rw [if_neg (show ¬ n / 10 = 0 by omega), Lib.decDigits, dif_neg h1]
    apply bytes_ext
    rw [app_list, app_list, app_list, one_byte _ (by omega)]
    simp
theorem s_fmt_l0 (b : Bool) : ∀ (d n : Nat) (x : Int) (s : ByteArray), n < 10 ^ d → (x = n ∨ x = -(n : Int)) → n ≤ 9223372036854775808 → s.size + d ≤ 1000 → Ev (fun k => spec_FormatInt.l0 k x b s) (sgnP b (digs n s)) := by
  intro d
  have base : ∀ s : ByteArray, s.size ≤ 1000 → Ev (fun k => spec_FormatInt.l0 k 0 b s) (sgnP b (digs 0 s)) := by
    intro s hs
    refine Ev.step (fun k => rfl) ?_
    have h1 : 1 + s.size ≤ 9223372036854775807 := by omega
    cases b with
    | true => simp only [spec_FormatInt.l0, if_true, h1]; exact Ev.now _
    | false => simp only [spec_FormatInt.l0, if_true, Bool.false_eq_true, if_false]; exact Ev.now _
  induction d with
  | zero =>
    intro n x s h hx hn hs
    obtain rfl : n = 0 := by simpa using h
    obtain rfl : x = 0 := by omega
    exact base s (by omega)
  | succ d ih =>
    intro n x s h hx hn hs
    by_cases h0 : n = 0
    · subst h0
      obtain rfl : x = 0 := by omega
      exact base s (by omega)
    · have hx0 : ¬ x = 0 := by omega
      have hq : n / 10 < 10 ^ d := by rw [Nat.pow_succ] at h; omega
      rw [digs_step n h0 s]
      have hs' : (strOfNums [48 + ((n % 10 : Nat) : Int)]).size = 1 := rfl
      have hs2 : (strOfNums [48 + ((n % 10 : Nat) : Int)] ++ s).size = 1 + s.size := by rw [ByteArray.size_append, hs']
      have hf : spec_l01Figure.f ((n % 10 : Nat) : Int) = some (48 + ((n % 10 : Nat) : Int)) := by
        rw [s_fig (by omega) (by omega)]
        unfold figP
        rw [if_pos (by omega)]
      have hz : (strOfNums [48 + ((n % 10 : Nat) : Int)]).size + s.size ≤ 9223372036854775807 := by omega
      refine Ev.step (fun k => rfl) ?_
      rcases hx with rfl | rfl
      · have e1 : Int.tmod (n : Int) 10 = ((n % 10 : Nat) : Int) := by rw [Int.tmod_eq_emod_of_nonneg (by omega)]; omega
        have e2 : wrap64 (Int.tdiv (n : Int) 10) = ((n / 10 : Nat) : Int) := by rw [Int.tdiv_eq_ediv_of_nonneg (by omega), w64 (by omega) (by omega)]; omega
        simp only [spec_FormatInt.l0, hx0, if_false, e1, show ¬ (((n % 10 : Nat) : Int) < 0) by omega, hf, Option.bind_some, hz, if_true, e2]
        exact ih (n / 10) _ _ hq (.inl rfl) (by omega) (by omega)
      · have e1 : Int.tmod (-(n : Int)) 10 = -((n % 10 : Nat) : Int) := by rw [Int.neg_tmod, Int.tmod_eq_emod_of_nonneg (by omega)]; omega
        have e2 : wrap64 (Int.tdiv (-(n : Int)) 10) = -((n / 10 : Nat) : Int) := by rw [Int.neg_tdiv, Int.tdiv_eq_ediv_of_nonneg (by omega), w64 (by omega) (by omega)]; omega
        have e3 : wrap64 (-(-((n % 10 : Nat) : Int))) = ((n % 10 : Nat) : Int) := by rw [w64 (by omega) (by omega)]; omega
        by_cases hm : n % 10 = 0
        · have hm' : -((n % 10 : Nat) : Int) = ((n % 10 : Nat) : Int) := by omega
          simp only [spec_FormatInt.l0, hx0, if_false, e1, show ¬ (-((n % 10 : Nat) : Int) < 0) by omega, hm', hf, Option.bind_some, hz, if_true, e2]
          exact ih (n / 10) _ _ hq (.inr rfl) (by omega) (by omega)
        · simp only [spec_FormatInt.l0, hx0, if_false, e1, show (-((n % 10 : Nat) : Int) < 0) by omega, e3, hf, Option.bind_some, hz, if_true, e2]
          exact ih (n / 10) _ _ hq (.inr rfl) (by omega) (by omega)
theorem s_format (a : Int) (h0 : -9223372036854775808 ≤ a) (h1 : a ≤ 9223372036854775807) : Ev (fun k => spec_FormatInt.f k a) ⟨(Lib.itoa a).toArray⟩ := by
  unfold spec_FormatInt.f
  by_cases hz : a = 0
  · subst hz
    simp only [if_true]
    have : (⟨(Lib.itoa 0).toArray⟩ : ByteArray) = ⟨#[48]⟩ := by
      unfold Lib.itoa
      rw [if_neg (by omega), Lib.decDigits, dif_pos (by decide)]
      rfl
    rw [this]
    exact Ev.now _
  · simp only [hz, if_false]
    have e := s_fmt_l0 (decide (a < 0)) 20 a.natAbs a ⟨#[]⟩ (by omega) (by omega) (by omega) (by show (0 : Nat) + 20 ≤ 1000; omega)
    have : sgnP (decide (a < 0)) (digs a.natAbs ⟨#[]⟩) = ⟨(Lib.itoa a).toArray⟩ := by
      unfold sgnP digs Lib.itoa
      rw [if_neg (show ¬ a.natAbs = 0 by omega)]
      apply bytes_ext
      by_cases hn : a < 0
      · rw [if_pos (by simpa using hn), if_pos hn, app_list, app_list]
        simp
      · rw [if_neg (by simpa using hn), if_neg hn, app_list, show a.toNat = a.natAbs by omega]
        simp
    rw [← this]
    exact e

/-! decimal texts, read -/
theorem bt_list (s : ByteArray) (i : Nat) (h : i < s.data.toList.length) : bt s (i : Int) = ((s.data.toList[i]).toNat : Int) := by
  have hs : (i : Int).toNat < s.size := by rw [Array.length_toList] at h; exact h
  rw [← bt_at s _ hs]
  have e : s[(i : Int).toNat]'hs = s.data.toList[i] := by
    show s.data[(i : Int).toNat]'_ = _
    simp
  rw [e]
theorem decFrom_app : ∀ (a b : List UInt8) (acc : Nat), Lib.decFrom acc (a ++ b) = (Lib.decFrom acc a).bind fun n => Lib.decFrom n b
  | [], b, acc => rfl
  | x :: a, b, acc => by
    simp only [List.cons_append, Lib.decFrom]
    cases Lib.digitVal x with
    | none => rfl
    | some d => exact decFrom_app a b _
theorem dig_byte {d : Nat} (h : d < 10) : Lib.digitVal (UInt8.ofNat (48 + d)) = some d := by
  have e : (UInt8.ofNat (48 + d)).toNat = 48 + d := by rw [UInt8.toNat_ofNat']; omega
  unfold Lib.digitVal
  rw [e, if_pos (by omega)]
  congr 1; omega
theorem dec_digits : ∀ (n v : Nat), v ≤ n → Lib.decFrom 0 (Lib.decDigits v) = some v := by
  intro n
  induction n with
  | zero =>
    intro v h
    obtain rfl : v = 0 := by omega
    rw [Lib.decDigits, dif_pos (by omega)]
    simp only [Lib.decFrom, dig_byte (show 0 < 10 by omega)]
  | succ n ih =>
    intro v h
    rw [Lib.decDigits]
    by_cases h1 : v < 10
    · rw [dif_pos h1]
      simp only [Lib.decFrom, dig_byte h1]
      congr 1; omega
    · rw [dif_neg h1, decFrom_app, ih (v / 10) (by omega)]
      simp only [Option.bind_some, Lib.decFrom, dig_byte (show v % 10 < 10 by omega)]
      congr 1; omega
theorem atoi_digits (v : Nat) : Lib.atoi (Lib.decDigits v) = some (v : Int) := by
  have h := dec_digits v v (Nat.le_refl _)
  cases hl : Lib.decDigits v with
  | nil =>
    rw [Lib.decDigits] at hl
    split at hl <;> simp at hl
  | cons b r =>
    rw [hl] at h
    have hb : 48 ≤ b.toNat := by
      simp only [Lib.decFrom] at h
      cases hd : Lib.digitVal b with
      | none => rw [hd] at h; cases h
      | some d =>
        unfold Lib.digitVal at hd
        split at hd
        · omega
        · cases hd
    have h1 : (b == 45) = false := by
      rw [beq_eq_false_iff_ne]; rintro rfl; simp at hb
    have h2 : (b == 43) = false := by
      rw [beq_eq_false_iff_ne]; rintro rfl; simp at hb
    unfold Lib.atoi
    simp only [h1, h2, Bool.false_eq_true, if_false, Lib.decNat, List.isEmpty_cons, h, Option.map_some]
theorem digits_len : ∀ (k v : Nat), v < 10 ^ (k + 1) → (Lib.decDigits v).length ≤ k + 1 := by
  intro k
  induction k with
  | zero =>
    intro v h
    rw [Lib.decDigits, dif_pos (by simpa using h)]; simp
  | succ k ih =>
    intro v h
    rw [Lib.decDigits]
    by_cases h1 : v < 10
    · rw [dif_pos h1]; simp
    · rw [dif_neg h1]
      have := ih (v / 10) (by rw [Nat.pow_succ] at h; omega)
      simp; omega
theorem itoa_nat (v : Nat) : Lib.itoa (v : Int) = Lib.decDigits v := by
  unfold Lib.itoa; rw [if_neg (by omega)]; simp
def finP (s : ByteArray) : Option Nat → Int × Bool
  | none => (0, false)
  | some n => if n ≤ 1000000000 ∧ Lib.itoa n = s.data.toList then ((n : Int), true) else (0, false)
theorem s_pu_l0 (s : ByteArray) (hs : s.size ≤ 10) : ∀ (d i acc : Nat), i + d = s.size → acc < 10 ^ i → Ev (fun k => spec_ParseUint.l0 k s (acc : Int) (i : Int)) (finP s (Lib.decFrom acc (s.data.toList.drop i))) := by
  have hl : s.data.toList.length = s.size := by rw [Array.length_toList]; rfl
  intro d
  induction d with
  | zero =>
    intro i acc hi ha
    have hp : (10 : Nat) ^ i ≤ 10 ^ 10 := Nat.pow_le_pow_right (by omega) (by omega)
    rw [List.drop_eq_nil_of_le (by omega)]
    refine Ev.step (fun k => rfl) ?_
    simp only [spec_ParseUint.l0, show ¬ ((i : Int) < (s.size : Int)) by omega, if_false, Lib.decFrom, finP]
    by_cases h1 : (acc : Int) > 1000000000
    · have h1' : ¬ (acc ≤ 1000000000 ∧ Lib.itoa acc = s.data.toList) := by omega
      simp only [h1, if_true, h1', if_false]
      exact Ev.now _
    · simp only [h1, if_false]
      refine Ev.bind (s_format (acc : Int) (by omega) (by omega)) ?_
      have e : (ByteArray.toList ⟨(Lib.itoa (acc : Int)).toArray⟩ = s.toList) = (acc ≤ 1000000000 ∧ Lib.itoa acc = s.data.toList) := by
        rw [toList_data, toList_data]
        apply propext
        constructor
        · intro h; exact ⟨by omega, by simpa using h⟩
        · intro h; simpa using h.2
      by_cases h2 : acc ≤ 1000000000 ∧ Lib.itoa acc = s.data.toList
      · rw [if_pos h2]
        simp only [e, h2, if_true, and_self]
        exact Ev.now _
      · rw [if_neg h2]
        simp only [e, h2, if_false]
        exact Ev.now _
  | succ d ih =>
    intro i acc hi ha
    have hp : (10 : Nat) ^ i ≤ 10 ^ 10 := Nat.pow_le_pow_right (by omega) (by omega)
    have hil : i < s.data.toList.length := by omega
    rw [List.drop_eq_getElem_cons hil]
    have hb := bt_list s i hil
    have hbr := bt_range s (i : Int)
    refine Ev.step (fun k => rfl) ?_
    simp only [spec_ParseUint.l0, show ((i : Int) < (s.size : Int)) by omega, show (0 : Int) ≤ (i : Int) by omega, if_true, Lib.decFrom]
    by_cases h1 : bt s (i : Int) < 48
    · have hd : Lib.digitVal (s.data.toList[i]) = none := by unfold Lib.digitVal; rw [if_neg (by omega)]
      simp only [h1, if_true, hd, finP]
      exact Ev.now _
    · by_cases h2 : bt s (i : Int) > 57
      · have hd : Lib.digitVal (s.data.toList[i]) = none := by unfold Lib.digitVal; rw [if_neg (by omega)]
        simp only [h1, h2, if_true, if_false, hd, finP]
        exact Ev.now _
      · have hd : Lib.digitVal (s.data.toList[i]) = some ((s.data.toList[i]).toNat - 48) := by unfold Lib.digitVal; rw [if_pos (by omega)]
        have e1 : wrap64 (wrap64 (wrap64 (10 * (acc : Int)) + wrap64 (bt s (i : Int))) - 48) = ((acc * 10 + ((s.data.toList[i]).toNat - 48) : Nat) : Int) := by
          rw [w64 (n := 10 * (acc : Int)) (by omega) (by omega), w64 (n := bt s (i : Int)) (by omega) (by omega), w64 (n := 10 * (acc : Int) + bt s (i : Int)) (by omega) (by omega), w64 (by omega) (by omega)]
          omega
        simp only [h1, h2, if_false, e1, wsucc (show i < 4611686018427387904 by omega), hd]
        exact ih (i + 1) _ (by omega) (by rw [Nat.pow_succ]; omega)
def parseP (s : ByteArray) : Int × Bool := if s.size ≤ 10 then finP s (Lib.decFrom 0 s.data.toList) else (0, false)
theorem s_parse (s : ByteArray) : Ev (fun k => spec_ParseUint.f k s) (parseP s) := by
  unfold spec_ParseUint.f parseP
  by_cases h : s.size ≤ 10
  · simp only [show ¬ ((s.size : Int) > 10) by omega, if_false, h, if_true]
    have := s_pu_l0 s h s.size 0 0 (by omega) (by simp)
    simpa using this
  · simp only [show ((s.size : Int) > 10) by omega, if_true, h, if_false]
    exact Ev.now _
theorem parse_is (v : Nat) (s : ByteArray) (hv : v ≤ 1000000000) (h : Lib.decDigits v = s.data.toList) : parseP s = ((v : Int), true) := by
  have hl : s.data.toList.length = s.size := by rw [Array.length_toList]; rfl
  have h1 := digits_len 9 v (by omega)
  unfold parseP
  rw [if_pos (by rw [← hl, ← h]; exact h1), ← h, dec_digits v v (Nat.le_refl _)]
  simp only [finP]
  rw [if_pos ⟨hv, by rw [itoa_nat, h]⟩]
theorem parse_no (s : ByteArray) (h : ∀ v : Nat, v ≤ 1000000000 → Lib.decDigits v ≠ s.data.toList) : parseP s = (0, false) := by
  unfold parseP
  split
  · cases Lib.decFrom 0 s.data.toList with
    | none => rfl
    | some n =>
      simp only [finP]
      rw [if_neg]
      rintro ⟨h1, h2⟩
      rw [itoa_nat] at h2
      exact h n h1 h2
  · rfl
theorem num_is (v : Nat) (s : ByteArray) (hv : v ≤ 1000000000) (h : Lib.decDigits v = s.data.toList) : impl_ParseUint.num s = ((v : Int), true) := by
  have h1 := digits_len 9 v (by omega)
  unfold impl_ParseUint.num
  rw [← h, Lib.atoiAll_short _ (by omega), atoi_digits]
  show (if 0 ≤ (v : Int) ∧ (v : Int) ≤ 1000000000 then _ else _) = _
  rw [if_pos (by omega), if_pos]
  rw [toList_data, toList_data, itoa_nat, ← h]
theorem num_no (s : ByteArray) (h : ∀ v : Nat, v ≤ 1000000000 → Lib.decDigits v ≠ s.data.toList) : impl_ParseUint.num s = (0, false) := by
  unfold impl_ParseUint.num
  split
  · rename_i v _
    by_cases c : 0 ≤ v ∧ v ≤ 1000000000
    · rw [if_pos c, if_neg]
      intro h2
      rw [toList_data, toList_data] at h2
      obtain ⟨n, rfl⟩ := Int.eq_ofNat_of_zero_le c.1
      rw [itoa_nat] at h2
      exact h n (by omega) (by simpa using h2)
    · rw [if_neg c]
  · rfl
theorem num_parse (s : ByteArray) : impl_ParseUint.num s = parseP s := by
  by_cases h : ∃ v : Nat, v ≤ 1000000000 ∧ Lib.decDigits v = s.data.toList
  · obtain ⟨v, hv, h⟩ := h
    rw [num_is v s hv h, parse_is v s hv h]
  · have h' : ∀ v : Nat, v ≤ 1000000000 → Lib.decDigits v ≠ s.data.toList := fun v hv e => h ⟨v, hv, e⟩
    rw [num_no s h', parse_no s h']


theorem FnExactParseUint : laws_FnExactParseUint.Pure := by
  intro s _
  refine Ev.rounds ?_
  unfold laws_FnExactParseUint.f
  by_cases h : (s.size : Int) > 1048576
  · simp only [h, if_true]; exact Ev.now _
  · simp only [h, if_false]
    refine Ev.bind (s_parse s) ?_
    have e : impl_ParseUint.f s = some (parseP s) := by
      unfold impl_ParseUint.f
      rw [if_pos (by omega), num_parse]
    rw [e]
    simp only [Option.bind_some, if_true, bne_self_eq_false, Bool.false_eq_true, if_false]
    exact Ev.now _

end Go.Proofs.YtpjmlgcpeebkdaaDoor.Pure
