/- The program's decimal text of a number is the reference's, for every int; no condition. -/
import Derived.Test.YtpjmlgcpeebkdaaDoorCFnExactFormatInt
set_option linter.unusedSimpArgs false
set_option linter.unusedVariables false
namespace Go.Proofs.YtpjmlgcpeebkdaaDoor.Pure
open Go.RowKit Go.Proofs.YtpjmlgcpeebkdaaDoor.PFnExactFormatInt Go.Proofs.YtpjmlgcpeebkdaaDoorW.PrintWords Go.Proofs.YtpjmlgcpeebkdaaDoorW.PrintLast Go.Proofs.YtpjmlgcpeebkdaaDoorW.PrintMore Go.Proofs.YtpjmlgcpeebkdaaDoor.CoreFnExactFormatInt

/-! the reference's decimal text -/
def sgnP (b : Bool) (s : ByteArray) : ByteArray := if b = true then (⟨#[45]⟩ : ByteArray) ++ s else s
def digs (n : Nat) (s : ByteArray) : ByteArray := if n = 0 then s else ⟨(Lib.decDigits n).toArray⟩ ++ s
theorem bytes_ext {a b : ByteArray} (h : a.data.toList = b.data.toList) : a = b := by
  cases a; cases b
  simp only at h
  rw [Array.toList_inj] at h
  rw [h]
theorem app_list (a b : ByteArray) : (a ++ b).data.toList = a.data.toList ++ b.data.toList := by
  rw [ByteArray.data_append, Array.toList_append]
theorem one_byte (d : Nat) (h : d < 10) : (strOfNums [48 + (d : Int)]).data.toList = [UInt8.ofNat (48 + d)] := by
  show [UInt8.ofNat (48 + (d : Int)).toNat] = _
  rw [show (48 + (d : Int)).toNat = 48 + d by omega]
theorem digs_step (n : Nat) (h : n ≠ 0) (s : ByteArray) : digs n s = digs (n / 10) (strOfNums [48 + ((n % 10 : Nat) : Int)] ++ s) := by
  unfold digs
  rw [if_neg h]
  by_cases h1 : n < 10
  · rw [if_pos (show n / 10 = 0 by omega), Lib.decDigits, dif_pos h1]
    apply bytes_ext
    rw [app_list, app_list, one_byte _ (by omega), show n % 10 = n by omega]
  · rw [if_neg (show ¬ n / 10 = 0 by omega), Lib.decDigits, dif_neg h1]
    apply bytes_ext
    rw [app_list, app_list, app_list, one_byte _ (by omega)]
    simp
theorem s_fmt_l0 (b : Bool) : ∀ (d n : Nat) (x : Int) (s : ByteArray), n < 10 ^ d → (x = n ∨ x = -(n : Int)) → n ≤ 9223372036854775808 → s.size + d ≤ 1000 → Ev (fun k => spec_FormatInt.l0 k x b s) (sgnP b (digs n s)) := by
  intro d
  have base : ∀ s : ByteArray, s.size ≤ 1000 → Ev (fun k => spec_FormatInt.l0 k 0 b s) (sgnP b (digs 0 s)) := by
    intro s hs
    refine Ev.step (fun k => rfl) ?_
    have h1 : 1 + s.size ≤ 9223372036854775807 := by omega
    cases b with
    | true => simp only [spec_FormatInt.l0, if_true, h1]; exact Ev.now _
    | false => simp only [spec_FormatInt.l0, if_true, Bool.false_eq_true, if_false]; exact Ev.now _
  induction d with
  | zero =>
    intro n x s h hx hn hs
    obtain rfl : n = 0 := by simpa using h
    obtain rfl : x = 0 := by omega
    exact base s (by omega)
  | succ d ih =>
    intro n x s h hx hn hs
    by_cases h0 : n = 0
    · subst h0
      obtain rfl : x = 0 := by omega
      exact base s (by omega)
    · have hx0 : ¬ x = 0 := by omega
      have hq : n / 10 < 10 ^ d := by rw [Nat.pow_succ] at h; omega
      rw [digs_step n h0 s]
      have hs' : (strOfNums [48 + ((n % 10 : Nat) : Int)]).size = 1 := rfl
      have hs2 : (strOfNums [48 + ((n % 10 : Nat) : Int)] ++ s).size = 1 + s.size := by rw [ByteArray.size_append, hs']
      have hf : spec_l01Figure.f ((n % 10 : Nat) : Int) = some (48 + ((n % 10 : Nat) : Int)) := by
        rw [s_fig (by omega) (by omega)]
        unfold figP
        rw [if_pos (by omega)]
      have hz : (strOfNums [48 + ((n % 10 : Nat) : Int)]).size + s.size ≤ 9223372036854775807 := by omega
      refine Ev.step (fun k => rfl) ?_
      rcases hx with rfl | rfl
      · have e1 : Int.tmod (n : Int) 10 = ((n % 10 : Nat) : Int) := by rw [Int.tmod_eq_emod_of_nonneg (by omega)]; omega
        have e2 : wrap64 (Int.tdiv (n : Int) 10) = ((n / 10 : Nat) : Int) := by rw [Int.tdiv_eq_ediv_of_nonneg (by omega), w64 (by omega) (by omega)]; omega
        simp only [spec_FormatInt.l0, hx0, if_false, e1, show ¬ (((n % 10 : Nat) : Int) < 0) by omega, hf, Option.bind_some, hz, if_true, e2]
        exact ih (n / 10) _ _ hq (.inl rfl) (by omega) (by omega)
      · have e1 : Int.tmod (-(n : Int)) 10 = -((n % 10 : Nat) : Int) := by rw [Int.neg_tmod, Int.tmod_eq_emod_of_nonneg (by omega)]; omega
        have e2 : wrap64 (Int.tdiv (-(n : Int)) 10) = -((n / 10 : Nat) : Int) := by rw [Int.neg_tdiv, Int.tdiv_eq_ediv_of_nonneg (by omega), w64 (by omega) (by omega)]; omega
        have e3 : wrap64 (-(-((n % 10 : Nat) : Int))) = ((n % 10 : Nat) : Int) := by rw [w64 (by omega) (by omega)]; omega
        by_cases hm : n % 10 = 0
        · have hm' : -((n % 10 : Nat) : Int) = ((n % 10 : Nat) : Int) := by omega
          simp only [spec_FormatInt.l0, hx0, if_false, e1, show ¬ (-((n % 10 : Nat) : Int) < 0) by omega, hm', hf, Option.bind_some, hz, if_true, e2]
          exact ih (n / 10) _ _ hq (.inr rfl) (by omega) (by omega)
        · simp only [spec_FormatInt.l0, hx0, if_false, e1, show (-((n % 10 : Nat) : Int) < 0) by omega, e3, hf, Option.bind_some, hz, if_true, e2]
          exact ih (n / 10) _ _ hq (.inr rfl) (by omega) (by omega)
theorem s_format (a : Int) (h0 : -9223372036854775808 ≤ a) (h1 : a ≤ 9223372036854775807) : Ev (fun k => spec_FormatInt.f k a) ⟨(Lib.itoa a).toArray⟩ := by
  unfold spec_FormatInt.f
  by_cases hz : a = 0
  · subst hz
    simp only [if_true]
    have : (⟨(Lib.itoa 0).toArray⟩ : ByteArray) = ⟨#[48]⟩ := by
      unfold Lib.itoa
      rw [if_neg (by omega), Lib.decDigits, dif_pos (by decide)]
      rfl
    rw [this]
    exact Ev.now _
  · simp only [hz, if_false]
    have e := s_fmt_l0 (decide (a < 0)) 20 a.natAbs a ⟨#[]⟩ (by omega) (by omega) (by omega) (by show (0 : Nat) + 20 ≤ 1000; omega)
    have : sgnP (decide (a < 0)) (digs a.natAbs ⟨#[]⟩) = ⟨(Lib.itoa a).toArray⟩ := by
      unfold sgnP digs Lib.itoa
      rw [if_neg (show ¬ a.natAbs = 0 by omega)]
      apply bytes_ext
      by_cases hn : a < 0
      · rw [if_pos (by simpa using hn), if_pos hn, app_list, app_list]
        simp
      · rw [if_neg (by simpa using hn), if_neg hn, app_list, show a.toNat = a.natAbs by omega]
        simp
    rw [← this]
    exact e


theorem FnExactFormatInt : laws_FnExactFormatInt.Pure := by
  intro a hw
  have hr : -9223372036854775808 ≤ a ∧ a ≤ 9223372036854775807 := by
    simp only [Lit.wf, decide_eq_true_eq, Bool.and_eq_true] at hw
    have e1 : IntKind.i64.min = -9223372036854775808 := by decide
    have e2 : IntKind.i64.max = 9223372036854775807 := by decide
    rw [e1, e2] at hw
    exact hw
  refine Ev.rounds ?_
  unfold laws_FnExactFormatInt.f
  refine Ev.bind (s_format a hr.1 hr.2) ?_
  have e : impl_FormatInt.f a = some ⟨(Lib.itoa a).toArray⟩ := by
    unfold impl_FormatInt.f strconv_Itoa.f
    rw [if_pos hr.1, if_pos hr.2]; rfl
  rw [e]
  simp only [Option.bind_some, if_true]
  exact Ev.now _

end Go.Proofs.YtpjmlgcpeebkdaaDoor.Pure
