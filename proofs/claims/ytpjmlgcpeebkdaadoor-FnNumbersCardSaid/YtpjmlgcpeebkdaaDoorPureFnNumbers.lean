/- Exactly the numbers in the range 0 to MaxUint can be parsed from their decimal text, for every draw (one of more than 1048576 bytes is passed over by the statement itself); no condition. -/
import Derived.Test.YtpjmlgcpeebkdaaDoorCFnNumbers
import Derived.Lib.AtoiTie
set_option linter.unusedSimpArgs false
set_option linter.unusedVariables false
namespace Go.Proofs.YtpjmlgcpeebkdaaDoor.Pure
open Go.RowKit Go.Proofs.YtpjmlgcpeebkdaaDoor.PFnNumbers Go.Proofs.YtpjmlgcpeebkdaaDoorW.PrintWords Go.Proofs.YtpjmlgcpeebkdaaDoorW.PrintLast Go.Proofs.YtpjmlgcpeebkdaaDoorW.PrintMore Go.Proofs.YtpjmlgcpeebkdaaDoor.CoreFnNumbers

theorem toList_loop (s : ByteArray) : ∀ (d i : Nat) (r : List UInt8), s.size - i = d → ByteArray.toList.loop s i r = r.reverse ++ s.data.toList.drop i := by
  intro d
  induction d with
  | zero =>
    intro i r h
    have hl : s.data.toList.length = s.size := by rw [Array.length_toList]; rfl
    rw [ByteArray.toList.loop, if_neg (by omega), List.drop_eq_nil_of_le (by omega), List.append_nil]
  | succ d ih =>
    intro i r h
    have hl : s.data.toList.length = s.size := by rw [Array.length_toList]; rfl
    have hi : i < s.data.toList.length := by omega
    have hg : s.get! i = s.data.toList[i] := by
      show s.data[i]! = _
      rw [getElem!_pos s.data i (by rw [Array.length_toList] at hi; exact hi)]
      simp
    rw [ByteArray.toList.loop, if_pos (by omega), ih (i + 1) _ (by omega), List.drop_eq_getElem_cons hi, hg]
    simp
theorem toList_data (s : ByteArray) : s.toList = s.data.toList := by
  unfold ByteArray.toList
  rw [toList_loop s s.size 0 [] rfl]
  simp

/-! decimal texts, read -/
theorem bt_list (s : ByteArray) (i : Nat) (h : i < s.data.toList.length) : bt s (i : Int) = ((s.data.toList[i]).toNat : Int) := by
  have hs : (i : Int).toNat < s.size := by rw [Array.length_toList] at h; exact h
  rw [← bt_at s _ hs]
  have e : s[(i : Int).toNat]'hs = s.data.toList[i] := by
    show s.data[(i : Int).toNat]'_ = _
    simp
  rw [e]
theorem decFrom_app : ∀ (a b : List UInt8) (acc : Nat), Lib.decFrom acc (a ++ b) = (Lib.decFrom acc a).bind fun n => Lib.decFrom n b
  | [], b, acc => rfl
  | x :: a, b, acc => by
    simp only [List.cons_append, Lib.decFrom]
    cases Lib.digitVal x with
    | none => rfl
    | some d => exact decFrom_app a b _
theorem dig_byte {d : Nat} (h : d < 10) : Lib.digitVal (UInt8.ofNat (48 + d)) = some d := by
  have e : (UInt8.ofNat (48 + d)).toNat = 48 + d := by rw [UInt8.toNat_ofNat']; omega
  unfold Lib.digitVal
  rw [e, if_pos (by omega)]
  congr 1; omega
theorem dec_digits : ∀ (n v : Nat), v ≤ n → Lib.decFrom 0 (Lib.decDigits v) = some v := by
  intro n
  induction n with
  | zero =>
    intro v h
    obtain rfl : v = 0 := by omega
    rw [Lib.decDigits, dif_pos (by omega)]
    simp only [Lib.decFrom, dig_byte (show 0 < 10 by omega)]
  | succ n ih =>
    intro v h
    rw [Lib.decDigits]
    by_cases h1 : v < 10
    · rw [dif_pos h1]
      simp only [Lib.decFrom, dig_byte h1]
      congr 1; omega
    · rw [dif_neg h1, decFrom_app, ih (v / 10) (by omega)]
      simp only [Option.bind_some, Lib.decFrom, dig_byte (show v % 10 < 10 by omega)]
      congr 1; omega
theorem atoi_digits (v : Nat) : Lib.atoi (Lib.decDigits v) = some (v : Int) := by
  have h := dec_digits v v (Nat.le_refl _)
  cases hl : Lib.decDigits v with
  | nil =>
    rw [Lib.decDigits] at hl
    split at hl <;> simp at hl
  | cons b r =>
    rw [hl] at h
    have hb : 48 ≤ b.toNat := by
      simp only [Lib.decFrom] at h
      cases hd : Lib.digitVal b with
      | none => rw [hd] at h; cases h
      | some d =>
        unfold Lib.digitVal at hd
        split at hd
        · omega
        · cases hd
    have h1 : (b == 45) = false := by
      rw [beq_eq_false_iff_ne]; rintro rfl; simp at hb
    have h2 : (b == 43) = false := by
      rw [beq_eq_false_iff_ne]; rintro rfl; simp at hb
    unfold Lib.atoi
    simp only [h1, h2, Bool.false_eq_true, if_false, Lib.decNat, List.isEmpty_cons, h, Option.map_some]
theorem digits_len : ∀ (k v : Nat), v < 10 ^ (k + 1) → (Lib.decDigits v).length ≤ k + 1 := by
  intro k
  induction k with
  | zero =>
    intro v h
    rw [Lib.decDigits, dif_pos (by simpa using h)]; simp
  | succ k ih =>
    intro v h
    rw [Lib.decDigits]
    by_cases h1 : v < 10
    · rw [dif_pos h1]; simp
    · rw [dif_neg h1]
      have := ih (v / 10) (by rw [Nat.pow_succ] at h; omega)
      simp; omega
theorem itoa_nat (v : Nat) : Lib.itoa (v : Int) = Lib.decDigits v := by
  unfold Lib.itoa; rw [if_neg (by omega)]; simp
theorem num_is (v : Nat) (s : ByteArray) (hv : v ≤ 1000000000) (h : Lib.decDigits v = s.data.toList) : impl_ParseUint.num s = ((v : Int), true) := by
  have h1 := digits_len 9 v (by omega)
  unfold impl_ParseUint.num
  rw [← h, Lib.atoiAll_short _ (by omega), atoi_digits]
  show (if 0 ≤ (v : Int) ∧ (v : Int) ≤ 1000000000 then _ else _) = _
  rw [if_pos (by omega), if_pos]
  rw [toList_data, toList_data, itoa_nat, ← h]
theorem num_no (s : ByteArray) (h : ∀ v : Nat, v ≤ 1000000000 → Lib.decDigits v ≠ s.data.toList) : impl_ParseUint.num s = (0, false) := by
  unfold impl_ParseUint.num
  split
  · rename_i v _
    by_cases c : 0 ≤ v ∧ v ≤ 1000000000
    · rw [if_pos c, if_neg]
      intro h2
      rw [toList_data, toList_data] at h2
      obtain ⟨n, rfl⟩ := Int.eq_ofNat_of_zero_le c.1
      rw [itoa_nat] at h2
      exact h n (by omega) (by simpa using h2)
    · rw [if_neg c]
  · rfl


theorem w_bd (x : Int) : -9223372036854775808 ≤ wrap64 x ∧ wrap64 x ≤ 9223372036854775807 := by unfold wrap64; omega
theorem number_bd (l : List Int) (i h : Int) (hl : l.length ≤ 9223372036854775806) (hi : 0 ≤ i) : ∃ r i' h', spec_l01Number.f l i h = some (r, i', h') ∧ -9223372036854775808 ≤ r ∧ r ≤ 9223372036854775807 := by
  unfold spec_l01Number.f
  obtain ⟨a, i1, h1, e1, hi1, _⟩ := s_below l i h 4 hl hi
  simp only [e1, Option.bind_some]
  by_cases c1 : a = 0
  · rw [if_pos c1]
    obtain ⟨r, i2, h2, e2, hi2, hm⟩ := s_pick l i1 h1 [(-1), 0, 127, 128, 16383, 16384, 1000000000, 1000000001, 9223372036854775807, (-9223372036854775808)] hl hi1 (by decide)
    simp only [e2, Option.bind_some]
    refine ⟨r, i2, h2, rfl, ?_⟩
    simp only [List.mem_cons, List.not_mem_nil, or_false] at hm
    omega
  · rw [if_neg c1]
    by_cases c2 : a = 1
    · rw [if_pos c2]
      obtain ⟨r, i2, h2, e2, hi2, r0, r1, _⟩ := s_below l i1 h1 1000000000 hl hi1
      have := r1 (by omega)
      simp only [e2, Option.bind_some]
      exact ⟨r, i2, h2, rfl, by omega, by omega⟩
    · rw [if_neg c2]
      obtain ⟨r, i2, h2, e2, hi2, r0, r1, _⟩ := s_below l i1 h1 400 hl hi1
      have := r1 (by omega)
      simp only [e2, Option.bind_some]
      exact ⟨r, i2, h2, rfl, by omega, by omega⟩
theorem drawn (l : List Int) (hl : l.length ≤ 1048576) : ∃ n, Ev (fun k => spec_DrawFormatInt.f k l) n ∧ -9223372036854775808 ≤ n ∧ n ≤ 9223372036854775807 := by
  unfold spec_DrawFormatInt.f
  obtain ⟨h, e⟩ := s_new l hl
  obtain ⟨b, i1, h1, e1, hi1⟩ := s_once l 0 h 3 (by omega) (by omega)
  cases b with
  | true =>
    obtain ⟨r, i2, h2, e2, hi2, _⟩ := s_below l i1 h1 1000000 (by omega) hi1
    obtain ⟨q, i3, h3, e3, hi3, _⟩ := s_below l i2 h2 2000000 (by omega) hi2
    refine ⟨_, ?_, (w_bd (r * wrap64 (q - 1000000))).1, (w_bd _).2⟩
    refine Ev.bind e ?_
    simp only [e1, Option.bind_some, if_true, e2, e3]
    exact Ev.now _
  | false =>
    obtain ⟨r, i2, h2, e2, r0, r1⟩ := number_bd l i1 h1 (by omega) hi1
    refine ⟨r, ?_, r0, r1⟩
    refine Ev.bind e ?_
    simp only [e1, Option.bind_some, Bool.false_eq_true, if_false, e2]
    exact Ev.now _
theorem digits_ne (v : Nat) : Lib.decDigits v ≠ [] := by
  rw [Lib.decDigits]; split <;> simp
theorem digits_inj {v w : Nat} (h : Lib.decDigits v = Lib.decDigits w) : v = w := by
  have h1 := dec_digits v v (Nat.le_refl _)
  rw [h, dec_digits w w (Nat.le_refl _)] at h1
  exact (Option.some.inj h1).symm

theorem FnNumbers : laws_FnNumbers.Pure := by
  intro l _ _ _
  refine Ev.rounds ?_
  unfold laws_FnNumbers.f
  simp only [big_eq, Option.bind_some, decide_eq_true_eq]
  by_cases h : (l.length : Int) > 1048576
  · simp only [h, if_true]; exact Ev.now _
  · simp only [h, if_false]
    obtain ⟨n, e, n0, n1⟩ := drawn l (by omega)
    refine Ev.bind e ?_
    have hf : impl_FormatInt.f n = some ⟨(Lib.itoa n).toArray⟩ := by
      unfold impl_FormatInt.f strconv_Itoa.f
      rw [if_pos n0, if_pos n1]; rfl
    have hne : Lib.itoa n ≠ [] := by
      unfold Lib.itoa; split
      · simp
      · exact digits_ne _
    have hlen : (Lib.itoa n).length ≤ 21 := by
      have h1 := digits_len 19 n.natAbs (by omega)
      have h2 := digits_len 19 n.toNat (by omega)
      unfold Lib.itoa; split
      · simp; omega
      · omega
    have hsz : (ByteArray.mk (Lib.itoa n).toArray).size = (Lib.itoa n).length := by
      show (Lib.itoa n).toArray.size = _
      simp
    have hp : impl_ParseUint.f ⟨(Lib.itoa n).toArray⟩ = some (impl_ParseUint.num ⟨(Lib.itoa n).toArray⟩) := by
      unfold impl_ParseUint.f
      rw [if_pos (by omega)]
    have hl : ¬ ((ByteArray.mk (Lib.itoa n).toArray).toList = []) := by rw [toList_data]; simpa using hne
    simp only [hf, Option.bind_some, hp]
    by_cases c0 : n ≥ 0
    · obtain ⟨v, rfl⟩ := Int.eq_ofNat_of_zero_le c0
      simp only [c0, if_true, hl, if_false]
      by_cases c1 : (v : Int) ≤ 1000000000
      · have hn := num_is v ⟨(Lib.itoa (v : Int)).toArray⟩ (by omega) (by rw [itoa_nat])
        simp only [hn, c1, decide_true, beq_self_eq_true, if_true]
        exact Ev.now _
      · have hn := num_no ⟨(Lib.itoa (v : Int)).toArray⟩ (fun w hw e => by
          rw [itoa_nat] at e
          have := digits_inj (e.trans rfl)
          omega)
        simp only [hn, c1, decide_false, beq_self_eq_true, if_true, if_false]
        exact Ev.now _
    · have hn := num_no ⟨(Lib.itoa n).toArray⟩ (fun w hw e => by
        have h1 := dec_digits w w (Nat.le_refl _)
        rw [e] at h1
        unfold Lib.itoa at h1
        rw [if_pos (by omega)] at h1
        simp only [Lib.decFrom] at h1
        have : Lib.digitVal 45 = none := by decide
        rw [this] at h1
        cases h1)
      simp only [c0, if_false, hl, hn, beq_self_eq_true, if_true]
      exact Ev.now _

end Go.Proofs.YtpjmlgcpeebkdaaDoor.Pure
