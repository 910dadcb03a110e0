/- What the printed functions beneath FnHexText compute, in plain words on numbers and lists; no condition of its own. -/
import Derived.Test.YtpjmlgcpeebkdaaDoorPFnHexTextx3
set_option linter.unusedVariables false
set_option linter.unusedSimpArgs false
namespace Go.Proofs.YtpjmlgcpeebkdaaDoor.CoreFnHexText
open Go.RowKit Go.Proofs.YtpjmlgcpeebkdaaDoor.PFnHexText Go.Proofs.YtpjmlgcpeebkdaaDoorW.PrintWords Go.Proofs.YtpjmlgcpeebkdaaDoorW.PrintLast Go.Proofs.YtpjmlgcpeebkdaaDoorW.PrintMore

theorem w64 {n : Int} (h : -9223372036854775808 ≤ n) (h' : n ≤ 9223372036854775807) : wrap64 n = n := by unfold wrap64; omega
theorem wsucc {i : Nat} (h : i < 4611686018427387904) : wrap64 ((i : Int) + 1) = ((i + 1 : Nat) : Int) := by rw [w64 (by omega) (by omega)]; omega
theorem wlen1 {n : Nat} (h : n < 4611686018427387904) : wrap64 ((n : Int) - 1) = (n : Int) - 1 := w64 (by omega) (by omega)
theorem level_cases {b : Int} (h0 : 0 ≤ b) (h1 : b ≤ 4) : b = 0 ∨ b = 1 ∨ b = 2 ∨ b = 3 ∨ b = 4 := by omega
theorem u64_small {b : Int} (h0 : 0 ≤ b) (h1 : b ≤ 9223372036854775807) : IntKind.u64.wrap b = b := by
  rw [IntKind.wrap_u64]; omega
theorem shl1 {b : Int} (h0 : 0 ≤ b) (h1 : b ≤ 4) : shl .i64 1 b = 2 ^ b.toNat := by
  obtain rfl | rfl | rfl | rfl | rfl := level_cases h0 h1 <;> rfl
theorem shr16 {b : Int} (h0 : 0 ≤ b) (h1 : b ≤ 4) : shr .i64 16 b = 16 / 2 ^ b.toNat := by
  obtain rfl | rfl | rfl | rfl | rfl := level_cases h0 h1 <;> rfl

/-! cells -/
def idokB (a b c : Int) : Bool := decide (0 ≤ a ∧ a ≤ 7 ∧ 0 ≤ b ∧ b ≤ 4 ∧ 0 ≤ c ∧ c < 2 ^ b.toNat)
def widthP (b : Int) : Int := if 0 ≤ b ∧ b ≤ 4 then 16 / 2 ^ b.toNat else 0
def startP (a b c : Int) : Int := if idokB a b c = true then a * 16 + c * widthP b else -1
def endP (a b c : Int) : Int := startP a b c + widthP b
theorem idok_iff {a b c : Int} : idokB a b c = true ↔ (0 ≤ a ∧ a ≤ 7 ∧ 0 ≤ b ∧ b ≤ 4 ∧ 0 ≤ c ∧ c < 2 ^ b.toNat) := by unfold idokB; exact decide_eq_true_iff
theorem width_pos {b : Int} (h0 : 0 ≤ b) (h1 : b ≤ 4) : 1 ≤ widthP b ∧ widthP b ≤ 16 ∧ widthP b * 2 ^ b.toNat = 16 := by
  obtain rfl | rfl | rfl | rfl | rfl := level_cases h0 h1 <;> decide
theorem width_bd (b : Int) : 0 ≤ widthP b ∧ widthP b ≤ 16 := by
  by_cases h : 0 ≤ b ∧ b ≤ 4
  · have := width_pos h.1 h.2; omega
  · unfold widthP; rw [if_neg h]; omega
theorem cw_bd {b c : Int} (h0 : 0 ≤ b) (h1 : b ≤ 4) (h2 : 0 ≤ c) (h3 : c < 2 ^ b.toNat) : 0 ≤ c * widthP b ∧ c * widthP b + widthP b ≤ 16 := by
  obtain rfl | rfl | rfl | rfl | rfl := level_cases h0 h1
  · have : widthP 0 = 16 := by decide
    rw [this]; have h3' : c < 1 := h3; omega
  · have : widthP 1 = 8 := by decide
    rw [this]; have h3' : c < 2 := h3; omega
  · have : widthP 2 = 4 := by decide
    rw [this]; have h3' : c < 4 := h3; omega
  · have : widthP 3 = 2 := by decide
    rw [this]; have h3' : c < 8 := h3; omega
  · have : widthP 4 = 1 := by decide
    rw [this]; have h3' : c < 16 := h3; omega
theorem start_bd (a b c : Int) : -1 ≤ startP a b c ∧ startP a b c ≤ 127 := by
  unfold startP
  by_cases h : idokB a b c = true
  · rw [if_pos h]
    obtain ⟨h0, h1, h2, h3, h4, h5⟩ := idok_iff.1 h
    have := cw_bd h2 h3 h4 h5
    have := width_pos h2 h3
    omega
  · rw [if_neg h]; omega

theorem start_wrap {a b c : Int} (h : idokB a b c = true) : wrap64 (wrap64 (a * 16) + wrap64 (c * widthP b)) = a * 16 + c * widthP b := by
  obtain ⟨h0, h1, h2, h3, h4, h5⟩ := idok_iff.1 h
  have h6 := cw_bd h2 h3 h4 h5
  have h7 := width_pos h2 h3
  rw [w64 (n := a * 16) (by omega) (by omega), w64 (n := c * widthP b) (by omega) (by omega), w64 (by omega) (by omega)]
theorem end_wrap (a b c : Int) : wrap64 (startP a b c + widthP b) = endP a b c := by
  have h1 := start_bd a b c
  have h2 := width_bd b
  rw [w64 (by omega) (by omega)]; rfl


/-! one cell within another -/
def containsB (a b c a' b' c' : Int) : Bool := decide (idokB a b c = true ∧ idokB a' b' c' = true ∧ a = a' ∧ b ≤ b' ∧ c' / 2 ^ (b' - b).toNat = c)
theorem diff_wrap {b b' : Int} (h0 : 0 ≤ b) (h1 : b ≤ 4) (h2 : 0 ≤ b') (h3 : b' ≤ 4) : wrap64 (b' - b) = b' - b := w64 (by omega) (by omega)
theorem shr_small' {c d : Int} (h0 : 0 ≤ d) (h1 : d ≤ 4) : shr .i64 c d = c / 2 ^ d.toNat := by
  unfold shr
  rw [Nat.min_eq_left (show d.toNat ≤ IntKind.bits .i64 by have : IntKind.bits .i64 = 64 := rfl; omega)]
theorem contains_iff {a b c a' b' c' : Int} (h : idokB a b c = true) (h' : idokB a' b' c' = true) : containsB a b c a' b' c' = decide (startP a b c ≤ startP a' b' c' ∧ startP a' b' c' + widthP b' ≤ startP a b c + widthP b) := by
  unfold containsB startP
  rw [if_pos h, if_pos h', decide_eq_decide]
  obtain ⟨h0, h1, h2, h3, h4, h5⟩ := idok_iff.1 h
  obtain ⟨g0, g1, g2, g3, g4, g5⟩ := idok_iff.1 h'
  have w0 : widthP 0 = 16 := by decide
  have w1 : widthP 1 = 8 := by decide
  have w2 : widthP 2 = 4 := by decide
  have w3 : widthP 3 = 2 := by decide
  have w4 : widthP 4 = 1 := by decide
  have p0 : (2 : Int) ^ (0 : Int).toNat = 1 := rfl
  have p1 : (2 : Int) ^ (1 : Int).toNat = 2 := rfl
  have p2 : (2 : Int) ^ (2 : Int).toNat = 4 := rfl
  have p3 : (2 : Int) ^ (3 : Int).toNat = 8 := rfl
  have p4 : (2 : Int) ^ (4 : Int).toNat = 16 := rfl
  simp only [h, h', true_and]
  obtain rfl | rfl | rfl | rfl | rfl := level_cases h2 h3 <;> obtain rfl | rfl | rfl | rfl | rfl := level_cases g2 g3 <;> simp only [w0, w1, w2, w3, w4, p0, p1, p2, p3, p4, Int.sub_self, Int.reduceSub, Int.reduceLE, true_and, false_and, and_false, false_iff, not_and, Int.ediv_one] at * <;> omega

/-! parents, children, siblings -/
def parentP (a b c : Int) : Int × Int × Int × Bool := if idokB a b c = true ∧ b ≠ 0 then (a, b - 1, c / 2, true) else (0, 0, 0, false)
theorem half_wrap {a b c : Int} (h : idokB a b c = true) : wrap64 (b - 1) = b - 1 ∧ wrap64 (Int.tdiv c 2) = c / 2 := by
  obtain ⟨h0, h1, h2, h3, h4, h5⟩ := idok_iff.1 h
  have h6 : (2 : Int) ^ b.toNat ≤ 16 := by obtain rfl | rfl | rfl | rfl | rfl := level_cases h2 h3 <;> decide
  refine ⟨w64 (by omega) (by omega), ?_⟩
  rw [Int.tdiv_eq_ediv_of_nonneg h4, w64 (by omega) (by omega)]
def childP (a b c s : Int) : Int × Int × Int × Bool := if idokB a b c = true ∧ b ≠ 4 ∧ 0 ≤ s ∧ s ≤ 1 then (a, b + 1, 2 * c + s, true) else (0, 0, 0, false)
theorem child_wrap {a b c s : Int} (h : idokB a b c = true) (hs : 0 ≤ s ∧ s ≤ 1) : wrap64 (b + 1) = b + 1 ∧ wrap64 (wrap64 (2 * c) + s) = 2 * c + s := by
  obtain ⟨h0, h1, h2, h3, h4, h5⟩ := idok_iff.1 h
  have h6 : (2 : Int) ^ b.toNat ≤ 16 := by obtain rfl | rfl | rfl | rfl | rfl := level_cases h2 h3 <;> decide
  refine ⟨w64 (by omega) (by omega), ?_⟩
  rw [w64 (n := 2 * c) (by omega) (by omega), w64 (by omega) (by omega)]
theorem child_key {a b c : Int} (h : idokB a b c = true) (hb : b ≠ 4) (s : Int) (s0 : 0 ≤ s) (s1 : s ≤ 1) : idokB a (b + 1) (2 * c + s) = true ∧ startP a (b + 1) (2 * c + s) = startP a b c + s * widthP (b + 1) ∧ widthP b = 2 * widthP (b + 1) := by
  have hs := h
  obtain ⟨h0, h1, h2, h3, h4, h5⟩ := idok_iff.1 h
  have key : idokB a (b + 1) (2 * c + s) = true ∧ widthP b = 2 * widthP (b + 1) := by
    obtain rfl | rfl | rfl | rfl | rfl := level_cases h2 h3
    · exact ⟨idok_iff.2 ⟨h0, h1, by omega, by omega, by omega, by change c < 1 at h5; change 2 * c + s < 2; omega⟩, by decide⟩
    · exact ⟨idok_iff.2 ⟨h0, h1, by omega, by omega, by omega, by change c < 2 at h5; change 2 * c + s < 4; omega⟩, by decide⟩
    · exact ⟨idok_iff.2 ⟨h0, h1, by omega, by omega, by omega, by change c < 4 at h5; change 2 * c + s < 8; omega⟩, by decide⟩
    · exact ⟨idok_iff.2 ⟨h0, h1, by omega, by omega, by omega, by change c < 8 at h5; change 2 * c + s < 16; omega⟩, by decide⟩
    · exact absurd rfl hb
  refine ⟨key.1, ?_, key.2⟩
  unfold startP
  rw [if_pos key.1, if_pos hs, key.2, Int.add_mul, Int.mul_comm 2 c, Int.mul_assoc]
  omega
def siblingB (a b c a' b' c' : Int) : Bool := decide (idokB a b c = true ∧ idokB a' b' c' = true ∧ a = a' ∧ b = b' ∧ c % 2 = 0 ∧ c' = c + 1)
theorem even_mod {c : Int} (h : 0 ≤ c) : Int.tmod c 2 = c % 2 := Int.tmod_eq_emod_of_nonneg h
theorem idx_bd {a b c : Int} (h : idokB a b c = true) : 0 ≤ c ∧ c ≤ 15 := by
  obtain ⟨h0, h1, h2, h3, h4, h5⟩ := idok_iff.1 h
  have h6 : (2 : Int) ^ b.toNat ≤ 16 := by obtain rfl | rfl | rfl | rfl | rfl := level_cases h2 h3 <;> decide
  omega

/-! quotients -/
def divFloorP (a b : Int) : Int := if b ≤ 0 then 0 else if Int.tmod a b < 0 then wrap64 (wrap64 (Int.tdiv a b) - 1) else wrap64 (Int.tdiv a b)


/-! draws: a cursor (place i, number h) over the bytes l -/
theorem and_mask (x : Int) (m : Nat) (hm : m ≤ 9223372036854775807) : 0 ≤ Go.bits .and .i64 x (m : Int) ∧ Go.bits .and .i64 x (m : Int) ≤ m := by
  have h : ∃ a : Nat, Go.bits .and .i64 x (m : Int) = IntKind.i64.wrap ((a &&& m : Nat) : Int) := by
    refine ⟨(BitVec.ofInt 64 x).toNat, ?_⟩
    have hb : m % 18446744073709551616 = m := Nat.mod_eq_of_lt (by omega)
    show IntKind.i64.wrap (((BitVec.ofInt 64 x &&& BitVec.ofInt 64 (m : Int)).toNat : Nat) : Int) = _
    rw [BitVec.toNat_and, show (BitVec.ofInt 64 (m : Int)).toNat = m from by rw [BitVec.ofInt_natCast, BitVec.toNat_ofNat]; exact hb]
  obtain ⟨a, ha⟩ := h
  have h2 : a &&& m ≤ m := Nat.and_le_right
  rw [ha, IntKind.wrap_i64]
  omega
theorem and255 (x : Int) : 0 ≤ Go.bits .and .i64 x 255 ∧ Go.bits .and .i64 x 255 ≤ 255 := and_mask x 255 (by omega)
theorem s_byte (l : List Int) (i h : Int) (hl : l.length ≤ 9223372036854775806) (hi : 0 ≤ i) : ∃ r i' h', spec_l01Byte.f l i h = some (r, i', h') ∧ 0 ≤ i' ∧ 0 ≤ r ∧ r ≤ 255 := by
  unfold spec_l01Byte.f
  by_cases h1 : i < (l.length : Int)
  · rw [if_pos h1, if_pos hi]
    exact ⟨_, _, _, rfl, by rw [w64 (by omega) (by omega)]; omega, (and255 _).1, (and255 _).2⟩
  · rw [if_neg h1]
    exact ⟨_, _, _, rfl, hi, (and255 _).1, (and255 _).2⟩
theorem s_below (l : List Int) (i h n : Int) (hl : l.length ≤ 9223372036854775806) (hi : 0 ≤ i) : ∃ r i' h', spec_l01Below.f l i h n = some (r, i', h') ∧ 0 ≤ i' ∧ 0 ≤ r ∧ (0 < n → r < n) ∧ (n ≤ 0 → r = 0) := by
  unfold spec_l01Below.f
  by_cases h1 : n ≤ 0
  · rw [if_pos h1]
    exact ⟨_, _, _, rfl, hi, by omega, by omega, fun _ => rfl⟩
  · rw [if_neg h1]
    by_cases h2 : n ≤ 256
    · rw [if_pos h2]
      obtain ⟨r, i', h', e, hi', h0, h3⟩ := s_byte l i h hl hi
      rw [e]
      simp only [Option.bind_some]
      rw [if_neg (show ¬ n = 0 by omega)]
      exact ⟨_, _, _, rfl, hi', Int.tmod_nonneg _ h0, fun _ => Int.tmod_lt_of_pos _ (by omega), by omega⟩
    · rw [if_neg h2]
      obtain ⟨r1, i1, h1', e1, hi1, a1, b1⟩ := s_byte l i h hl hi
      obtain ⟨r2, i2, h2', e2, hi2, a2, b2⟩ := s_byte l i1 h1' hl hi1
      obtain ⟨r3, i3, h3', e3, hi3, a3, b3⟩ := s_byte l i2 h2' hl hi2
      obtain ⟨r4, i4, h4', e4, hi4, a4, b4⟩ := s_byte l i3 h3' hl hi3
      rw [e1]; simp only [Option.bind_some]
      rw [e2]; simp only [Option.bind_some]
      rw [e3]; simp only [Option.bind_some]
      rw [e4]; simp only [Option.bind_some]
      rw [if_neg (show ¬ n = 0 by omega)]
      refine ⟨_, _, _, rfl, hi4, ?_, fun _ => Int.tmod_lt_of_pos _ (by omega), by omega⟩
      apply Int.tmod_nonneg
      rw [w64 (n := r1 * 16777216) (by omega) (by omega), w64 (n := r2 * 65536) (by omega) (by omega), w64 (n := r1 * 16777216 + r2 * 65536) (by omega) (by omega), w64 (n := r3 * 256) (by omega) (by omega), w64 (n := r1 * 16777216 + r2 * 65536 + r3 * 256) (by omega) (by omega), w64 (by omega) (by omega)]
      omega
theorem s_once (l : List Int) (i h n : Int) (hl : l.length ≤ 9223372036854775806) (hi : 0 ≤ i) : ∃ (r : Bool) (i' h' : Int), spec_l01Once.f l i h n = some (r, i', h') ∧ 0 ≤ i' := by
  unfold spec_l01Once.f
  obtain ⟨r, i', h', e, hi', _⟩ := s_below l i h n hl hi
  rw [e]
  exact ⟨_, _, _, rfl, hi'⟩
theorem s_cur_l0 (l : List Int) (hl : l.length ≤ 1048576) : ∀ (d i : Nat) (h : Int), i + d = l.length → ∃ h', Ev (fun k => spec_l01New.l0 k l h (i : Int)) (l, 0, h') := by
  intro d
  induction d with
  | zero =>
    intro i h hd
    refine ⟨h, Ev.step (fun k => rfl) ?_⟩
    have h1 : ¬ ((i : Int) < (l.length : Int)) := by omega
    simp only [spec_l01New.l0, h1, if_false]
    exact Ev.now _
  | succ d ih =>
    intro i h hd
    have h1 : (i : Int) < (l.length : Int) := by omega
    have h3 : (0 : Int) ≤ (i : Int) := by omega
    by_cases h2 : (i : Int) < 4000
    · obtain ⟨h', e⟩ := ih (i + 1) (Go.bits .and .i64 (wrap64 ((wrap64 ((wrap64 (h * 131)) + (wrap64 (rd l (i : Int))))) + 7)) 1073741823) (by omega)
      refine ⟨h', Ev.step (fun k => rfl) ?_⟩
      simp only [spec_l01New.l0, h1, h2, h3, if_true, wsucc (show i < 4611686018427387904 by omega)]
      exact e
    · refine ⟨h, Ev.step (fun k => rfl) ?_⟩
      simp only [spec_l01New.l0, h1, h2, if_true, if_false]
      exact Ev.now _
theorem s_new (l : List Int) (hl : l.length ≤ 1048576) : ∃ h', Ev (fun k => spec_l01New.f k l) (l, 0, h') := by
  obtain ⟨h', e⟩ := s_cur_l0 l hl l.length 0 (wrap64 (98231 + (l.length : Int))) (by omega)
  exact ⟨h', by simpa [spec_l01New.f] using e⟩
theorem big_eq (l : List Int) : laws_big.f l = some (decide ((l.length : Int) > 1048576)) := rfl


/-! hexadecimal digits -/
def HEXD : ByteArray := ⟨#[48, 49, 50, 51, 52, 53, 54, 55, 56, 57, 97, 98, 99, 100, 101, 102]⟩
def figP (x : Int) : Int := if x < 10 then 48 + x else 87 + x
theorem fig_bt : ∀ n : Fin 16, bt HEXD (n.val : Int) = figP (n.val : Int) := by decide
theorem fig_at {x : Int} (h0 : 0 ≤ x) (h1 : x < 16) : bt HEXD x = figP x := by
  have := fig_bt ⟨x.toNat, by omega⟩
  simp only at this
  rwa [Int.toNat_of_nonneg h0] at this

def hexFrom (s : ByteArray) : Nat → List Int
  | 0 => []
  | n + 1 => hexFrom s n ++ [figP (bt s n / 16), figP (bt s n % 16)]
theorem hexFrom_length (s : ByteArray) : ∀ n, (hexFrom s n).length = 2 * n := by
  intro n
  induction n with
  | zero => rfl
  | succ n ih => simp [hexFrom, ih]; omega
def hexP (s : ByteArray) : ByteArray := strOfNums (hexFrom s s.size)
theorem i_hex_l0 (s : ByteArray) (hs : s.size ≤ 20000) : ∀ (d i : Nat), i + d = s.size → Ev (fun k => impl_hexText.l0 k s (hexFrom s i) (s.size : Int) (i : Int)) (hexP s) := by
  intro d
  induction d with
  | zero =>
    intro i h
    refine Ev.step (fun k => rfl) ?_
    have h1 : ¬ ((i : Int) < (s.size : Int)) := by omega
    simp only [impl_hexText.l0, h1, if_false]
    rw [show i = s.size by omega]
    exact Ev.now _
  | succ d ih =>
    intro i h
    refine Ev.step (fun k => rfl) ?_
    have h1 : (i : Int) < (s.size : Int) := by omega
    have h3 : (0 : Int) ≤ (i : Int) := by omega
    have hb := bt_range s (i : Int)
    have e0 : Go.bits .and .u8 (bt s (i : Int)) 15 = bt s (i : Int) % 16 := u8_and15 _ hb.1 (by omega)
    have g1 : 0 ≤ bt s (i : Int) / 16 := by omega
    have g2 : bt s (i : Int) / 16 < 16 := by omega
    have g3 : 0 ≤ bt s (i : Int) % 16 := by omega
    have g4 : bt s (i : Int) % 16 < 16 := by omega
    have h4 : (hexFrom s i).length + [figP (bt s i / 16), figP (bt s i % 16)].length < 140737488355328 := by
      rw [hexFrom_length]; simp; omega
    have f1 := fig_at g1 g2
    have f2 := fig_at g3 g4
    unfold HEXD at f1 f2
    simp only [impl_hexText.l0, h1, h3, if_true, e0, g1, g2, g3, g4, f1, f2, Option.bind_some, h4, wsucc (show i < 4611686018427387904 by omega)]
    exact ih (i + 1) (by omega)
theorem i_enc (s : ByteArray) : Ev (fun k => impl_EncodeHex.f k s) (if s.size ≤ 20000 then (hexP s, true) else ((⟨#[]⟩ : ByteArray), false)) := by
  unfold impl_EncodeHex.f
  by_cases h : s.size ≤ 20000
  · have h' : ¬ (s.size : Int) > 20000 := by omega
    simp only [h, h', if_true, if_false]
    refine Ev.bind (a := hexP s) ?_ (Ev.now _)
    unfold impl_hexText.f
    have h2 : wrap64 (2 * (s.size : Int)) = 2 * (s.size : Int) := w64 (by omega) (by omega)
    have h3 : (0 : Int) ≤ 2 * (s.size : Int) := by omega
    have h4 : (2 * (s.size : Int)).toNat ≤ 281474976710656 := by omega
    simp only [h2, h3, h4, if_true]
    exact i_hex_l0 s h s.size 0 (by omega)
  · have h' : (s.size : Int) > 20000 := by omega
    simp only [h, h', if_true, if_false]
    exact Ev.now _


/-! clamping -/
def clampP (n a b : Int) : Int := if b < a then a else if n < a then a else if b < n then b else n




def digP (c : Int) : Int := if 48 ≤ c ∧ c ≤ 57 then c - 48 else if 97 ≤ c ∧ c ≤ 102 then c - 87 else -1
theorem dig_bd (c : Int) : -1 ≤ digP c ∧ digP c ≤ 15 := by unfold digP; split <;> (try split) <;> omega
theorem i_dig {c : Int} (h0 : 0 ≤ c) (h1 : c ≤ 255) : Ev (fun k => impl_hexDigit.f k c) (if digP c < 0 then 16 else digP c) := by
  have hd := dig_bd c
  unfold impl_hexDigit.f
  by_cases c1 : c ≥ 48
  · by_cases c2 : c ≤ 57
    · have : digP c = c - 48 := by unfold digP; rw [if_pos ⟨c1, c2⟩]
      rw [this, if_neg (show ¬ c - 48 < 0 by omega)]
      simp only [c1, c2, if_true, decide_true]
      refine Ev.step (fun k => rfl) ?_
      simp only [impl_hexDigit.j0, if_true, show (c - 48) % 256 = c - 48 from by omega]
      exact Ev.now _
    · simp only [c1, c2, if_true, decide_false]
      refine Ev.step (fun k => rfl) ?_
      by_cases c3 : c ≥ 97
      · by_cases c4 : c ≤ 102
        · have : digP c = c - 87 := by unfold digP; rw [if_neg (by omega), if_pos ⟨c3, c4⟩]
          rw [this, if_neg (show ¬ c - 87 < 0 by omega)]
          simp only [impl_hexDigit.j0, Bool.false_eq_true, if_false, c3, c4, if_true, show ((c - 97) % 256 + 10) % 256 = c - 87 from by omega]
          exact Ev.now _
        · have : digP c = -1 := by unfold digP; rw [if_neg (by omega), if_neg (by omega)]
          rw [this, if_pos (by omega)]
          simp only [impl_hexDigit.j0, Bool.false_eq_true, if_false, c3, c4, if_true]
          exact Ev.now _
      · have : digP c = -1 := by unfold digP; rw [if_neg (by omega), if_neg (by omega)]
        rw [this, if_pos (by omega)]
        simp only [impl_hexDigit.j0, Bool.false_eq_true, if_false, c3]
        exact Ev.now _
  · have : digP c = -1 := by unfold digP; rw [if_neg (by omega), if_neg (by omega)]
    have c3 : ¬ c ≥ 97 := by omega
    rw [this, if_pos (by omega)]
    simp only [c1, if_false]
    refine Ev.step (fun k => rfl) ?_
    simp only [impl_hexDigit.j0, Bool.false_eq_true, if_false, c3]
    exact Ev.now _
theorem or_fin : ∀ a b : Fin 16, Go.bits .or .u8 (((a.val : Int) * 16) % 256) (b.val : Int) = 16 * (a.val : Int) + (b.val : Int) := by decide +kernel
theorem or_eq {a b : Int} (h0 : 0 ≤ a) (h1 : a < 16) (h2 : 0 ≤ b) (h3 : b < 16) : Go.bits .or .u8 ((a * 16) % 256) b = 16 * a + b := by
  have := or_fin ⟨a.toNat, by omega⟩ ⟨b.toNat, by omega⟩
  simp only at this
  rwa [Int.toNat_of_nonneg h0, Int.toNat_of_nonneg h2] at this
def EMPTY : ByteArray := ⟨#[]⟩
theorem w2 {i : Nat} (h : i < 4611686018427387904) : wrap64 ((i : Int) + 2) = ((i + 2 : Nat) : Int) := by rw [w64 (by omega) (by omega)]; omega
def decGo (s : ByteArray) : Nat → Nat → List Int → ByteArray × Bool
  | _, 0, acc => (strOfNums acc, true)
  | i, d + 1, acc => if digP (bt s i) < 0 then (EMPTY, false) else if digP (bt s ((i + 1 : Nat) : Int)) < 0 then (EMPTY, false) else decGo s (i + 2) d (acc ++ [16 * digP (bt s i) + digP (bt s ((i + 1 : Nat) : Int))])
theorem i_dec_l0 (s : ByteArray) (hs : s.size ≤ 1048576) : ∀ (d i : Nat) (acc : List Int), i + 2 * d = s.size → acc.length ≤ i → Ev (fun k => impl_readHex.l0 k s acc (i : Int)) (decGo s i d acc) := by
  intro d
  induction d with
  | zero =>
    intro i acc h ha
    refine Ev.step (fun k => rfl) ?_
    have h1 : ¬ ((i : Int) < (s.size : Int)) := by omega
    simp only [impl_readHex.l0, h1, if_false, decGo]
    exact Ev.now _
  | succ d ih =>
    intro i acc h ha
    refine Ev.step (fun k => rfl) ?_
    have h1 : (i : Int) < (s.size : Int) := by omega
    have h2 : ((i + 1 : Nat) : Int) < (s.size : Int) := by omega
    have h3 : (0 : Int) ≤ (i : Int) := by omega
    have h4 : (0 : Int) ≤ ((i + 1 : Nat) : Int) := by omega
    have h5 : acc.length < 140737488355328 := by omega
    have b1 := bt_range s (i : Int)
    have b2 := bt_range s ((i + 1 : Nat) : Int)
    have d1 := dig_bd (bt s (i : Int))
    have d2 := dig_bd (bt s ((i + 1 : Nat) : Int))
    simp only [impl_readHex.l0, h1, h3, if_true, wsucc (show i < 4611686018427387904 by omega), h2, h4, decGo]
    refine Ev.bind (i_dig b1.1 b1.2) ?_
    refine Ev.bind (i_dig b2.1 b2.2) ?_
    by_cases c1 : digP (bt s (i : Int)) < 0
    · simp only [c1, if_true]; exact Ev.now _
    · have c1' : ¬ digP (bt s (i : Int)) = 16 := by omega
      by_cases c2 : digP (bt s ((i + 1 : Nat) : Int)) < 0
      · simp only [c1, c1', c2, if_true, if_false]; exact Ev.now _
      · have c2' : ¬ digP (bt s ((i + 1 : Nat) : Int)) = 16 := by omega
        simp only [c1, c1', c2, c2', if_false, h5, if_true, or_eq (show 0 ≤ digP (bt s (i : Int)) by omega) (by omega) (show 0 ≤ digP (bt s ((i + 1 : Nat) : Int)) by omega) (by omega), w2 (show i < 4611686018427387904 by omega)]
        exact ih (i + 2) _ (by omega) (by simp; omega)
theorem str_size (l : List Int) : (strOfNums l).size = l.length := by
  unfold strOfNums
  show (List.toArray _).size = _
  simp
theorem decGo_size (s : ByteArray) : ∀ (d i : Nat) (acc : List Int), (decGo s i d acc).2 = true → (decGo s i d acc).1.size = acc.length + d := by
  intro d
  induction d with
  | zero => intro i acc _; simp only [decGo, str_size]; rfl
  | succ d ih =>
    intro i acc h
    unfold decGo at h ⊢
    by_cases c1 : digP (bt s (i : Int)) < 0
    · rw [if_pos c1] at h; cases h
    · rw [if_neg c1] at h ⊢
      by_cases c2 : digP (bt s ((i + 1 : Nat) : Int)) < 0
      · rw [if_pos c2] at h; cases h
      · rw [if_neg c2] at h ⊢
        rw [ih _ _ h]; simp; omega
theorem decGo_fail (s : ByteArray) : ∀ (d i : Nat) (acc : List Int), (decGo s i d acc).2 = false → decGo s i d acc = (EMPTY, false) := by
  intro d
  induction d with
  | zero => intro i acc h; cases h
  | succ d ih =>
    intro i acc h
    unfold decGo at h ⊢
    by_cases c1 : digP (bt s (i : Int)) < 0
    · rw [if_pos c1]
    · rw [if_neg c1] at h ⊢
      by_cases c2 : digP (bt s ((i + 1 : Nat) : Int)) < 0
      · rw [if_pos c2]
      · rw [if_neg c2] at h ⊢
        exact ih _ _ h
def decP (s : ByteArray) : ByteArray × Bool := if s.size ≤ 40000 ∧ s.size % 2 = 0 then decGo s 0 (s.size / 2) [] else (EMPTY, false)
theorem i_dec (s : ByteArray) (hs : s.size ≤ 1048576) : Ev (fun k => impl_DecodeHex.f k s) (decP s) := by
  unfold impl_DecodeHex.f impl_readHex.f decP
  by_cases h2 : s.size % 2 = 0
  · have h3 : ¬ ((s.size : Int) % 2 = 1) := by omega
    have e0 : wrap64 ((s.size : Int) / 2) = (s.size : Int) / 2 := w64 (by omega) (by omega)
    have h4 : (0 : Int) ≤ (s.size : Int) / 2 := by omega
    have h5 : ((s.size : Int) / 2).toNat ≤ 281474976710656 := by omega
    simp only [h3, if_false, e0, h4, h5, if_true]
    refine Ev.bind (i_dec_l0 s hs (s.size / 2) 0 [] (by omega) (by simp)) ?_
    cases hb : (decGo s 0 (s.size / 2) []).2 with
    | true =>
      have hz := decGo_size s _ _ _ hb
      simp only [List.length_nil, Nat.zero_add] at hz
      by_cases h6 : s.size ≤ 40000
      · have h7 : ¬ (((decGo s 0 (s.size / 2) []).1.size : Int) > 20000) := by rw [hz]; omega
        simp only [if_true, h7, if_false, h6, h2, and_self]
        have : decGo s 0 (s.size / 2) [] = ((decGo s 0 (s.size / 2) []).1, true) := Prod.ext rfl hb
        rw [← this]
        exact Ev.now _
      · have h7 : ((decGo s 0 (s.size / 2) []).1.size : Int) > 20000 := by rw [hz]; omega
        simp only [if_true, h7, h6, false_and, if_false]
        exact Ev.now _
    | false =>
      have hf := decGo_fail s _ _ _ hb
      simp only [Bool.false_eq_true, if_false]
      by_cases h6 : s.size ≤ 40000
      · simp only [h6, h2, and_self, if_true, hf]; exact Ev.now _
      · simp only [h6, false_and, if_false]; exact Ev.now _
  · have h3 : (s.size : Int) % 2 = 1 := by omega
    simp only [h3, if_true, h2, and_false, if_false, Option.bind_some, Bool.false_eq_true]
    exact Ev.now _
theorem rdi (l : List Int) (i : Nat) (h : i < l.length) : rd l (i : Int) = l[i] := by unfold rd; simp [h]
def sumW (a : Int) : List Int → Int
  | [] => a
  | x :: r => sumW (wrap64 (a + x)) r






end Go.Proofs.YtpjmlgcpeebkdaaDoor.CoreFnHexText
