/- What the printed functions beneath FnPowers compute, in plain words on numbers and lists; no condition of its own. -/
import Derived.Test.YtlkdekllphgikaaPFnPowersx1
set_option linter.unusedVariables false
set_option linter.unusedSimpArgs false
namespace Go.Proofs.Ytlkdekllphgikaa.CoreFnPowers
open Go.RowKit Go.Proofs.Ytlkdekllphgikaa.PFnPowers Go.Proofs.YtlkdekllphgikaaW.PrintWords Go.Proofs.YtlkdekllphgikaaW.PrintLast Go.Proofs.YtlkdekllphgikaaW.PrintMore

theorem w64 {n : Int} (h : -9223372036854775808 ≤ n) (h' : n ≤ 9223372036854775807) : wrap64 n = n := by unfold wrap64; omega
theorem wsucc {i : Nat} (h : i < 4611686018427387904) : wrap64 ((i : Int) + 1) = ((i + 1 : Nat) : Int) := by rw [w64 (by omega) (by omega)]; omega
theorem wlen1 {n : Nat} (h : n < 4611686018427387904) : wrap64 ((n : Int) - 1) = (n : Int) - 1 := w64 (by omega) (by omega)
theorem level_cases {b : Int} (h0 : 0 ≤ b) (h1 : b ≤ 4) : b = 0 ∨ b = 1 ∨ b = 2 ∨ b = 3 ∨ b = 4 := by omega
theorem u64_small {b : Int} (h0 : 0 ≤ b) (h1 : b ≤ 9223372036854775807) : IntKind.u64.wrap b = b := by
  rw [IntKind.wrap_u64]; omega
theorem shl1 {b : Int} (h0 : 0 ≤ b) (h1 : b ≤ 4) : shl .i64 1 b = 2 ^ b.toNat := by
  obtain rfl | rfl | rfl | rfl | rfl := level_cases h0 h1 <;> rfl
theorem shr16 {b : Int} (h0 : 0 ≤ b) (h1 : b ≤ 4) : shr .i64 16 b = 16 / 2 ^ b.toNat := by
  obtain rfl | rfl | rfl | rfl | rfl := level_cases h0 h1 <;> rfl

/-! cells -/
def idokB (a b c : Int) : Bool := decide (0 ≤ a ∧ a ≤ 7 ∧ 0 ≤ b ∧ b ≤ 4 ∧ 0 ≤ c ∧ c < 2 ^ b.toNat)
def widthP (b : Int) : Int := if 0 ≤ b ∧ b ≤ 4 then 16 / 2 ^ b.toNat else 0
def startP (a b c : Int) : Int := if idokB a b c = true then a * 16 + c * widthP b else -1
def endP (a b c : Int) : Int := startP a b c + widthP b
theorem idok_iff {a b c : Int} : idokB a b c = true ↔ (0 ≤ a ∧ a ≤ 7 ∧ 0 ≤ b ∧ b ≤ 4 ∧ 0 ≤ c ∧ c < 2 ^ b.toNat) := by unfold idokB; exact decide_eq_true_iff
theorem width_pos {b : Int} (h0 : 0 ≤ b) (h1 : b ≤ 4) : 1 ≤ widthP b ∧ widthP b ≤ 16 ∧ widthP b * 2 ^ b.toNat = 16 := by
  obtain rfl | rfl | rfl | rfl | rfl := level_cases h0 h1 <;> decide
theorem width_bd (b : Int) : 0 ≤ widthP b ∧ widthP b ≤ 16 := by
  by_cases h : 0 ≤ b ∧ b ≤ 4
  · have := width_pos h.1 h.2; omega
  · unfold widthP; rw [if_neg h]; omega
theorem cw_bd {b c : Int} (h0 : 0 ≤ b) (h1 : b ≤ 4) (h2 : 0 ≤ c) (h3 : c < 2 ^ b.toNat) : 0 ≤ c * widthP b ∧ c * widthP b + widthP b ≤ 16 := by
  obtain rfl | rfl | rfl | rfl | rfl := level_cases h0 h1
  · have : widthP 0 = 16 := by decide
    rw [this]; have h3' : c < 1 := h3; omega
  · have : widthP 1 = 8 := by decide
    rw [this]; have h3' : c < 2 := h3; omega
  · have : widthP 2 = 4 := by decide
    rw [this]; have h3' : c < 4 := h3; omega
  · have : widthP 3 = 2 := by decide
    rw [this]; have h3' : c < 8 := h3; omega
  · have : widthP 4 = 1 := by decide
    rw [this]; have h3' : c < 16 := h3; omega
theorem start_bd (a b c : Int) : -1 ≤ startP a b c ∧ startP a b c ≤ 127 := by
  unfold startP
  by_cases h : idokB a b c = true
  · rw [if_pos h]
    obtain ⟨h0, h1, h2, h3, h4, h5⟩ := idok_iff.1 h
    have := cw_bd h2 h3 h4 h5
    have := width_pos h2 h3
    omega
  · rw [if_neg h]; omega

theorem start_wrap {a b c : Int} (h : idokB a b c = true) : wrap64 (wrap64 (a * 16) + wrap64 (c * widthP b)) = a * 16 + c * widthP b := by
  obtain ⟨h0, h1, h2, h3, h4, h5⟩ := idok_iff.1 h
  have h6 := cw_bd h2 h3 h4 h5
  have h7 := width_pos h2 h3
  rw [w64 (n := a * 16) (by omega) (by omega), w64 (n := c * widthP b) (by omega) (by omega), w64 (by omega) (by omega)]
theorem end_wrap (a b c : Int) : wrap64 (startP a b c + widthP b) = endP a b c := by
  have h1 := start_bd a b c
  have h2 := width_bd b
  rw [w64 (by omega) (by omega)]; rfl


/-! one cell within another -/
def containsB (a b c a' b' c' : Int) : Bool := decide (idokB a b c = true ∧ idokB a' b' c' = true ∧ a = a' ∧ b ≤ b' ∧ c' / 2 ^ (b' - b).toNat = c)
theorem diff_wrap {b b' : Int} (h0 : 0 ≤ b) (h1 : b ≤ 4) (h2 : 0 ≤ b') (h3 : b' ≤ 4) : wrap64 (b' - b) = b' - b := w64 (by omega) (by omega)
theorem shr_small' {c d : Int} (h0 : 0 ≤ d) (h1 : d ≤ 4) : shr .i64 c d = c / 2 ^ d.toNat := by
  unfold shr
  rw [Nat.min_eq_left (show d.toNat ≤ IntKind.bits .i64 by have : IntKind.bits .i64 = 64 := rfl; omega)]

/-! parents, children, siblings -/
def parentP (a b c : Int) : Int × Int × Int × Bool := if idokB a b c = true ∧ b ≠ 0 then (a, b - 1, c / 2, true) else (0, 0, 0, false)
theorem half_wrap {a b c : Int} (h : idokB a b c = true) : wrap64 (b - 1) = b - 1 ∧ wrap64 (Int.tdiv c 2) = c / 2 := by
  obtain ⟨h0, h1, h2, h3, h4, h5⟩ := idok_iff.1 h
  have h6 : (2 : Int) ^ b.toNat ≤ 16 := by obtain rfl | rfl | rfl | rfl | rfl := level_cases h2 h3 <;> decide
  refine ⟨w64 (by omega) (by omega), ?_⟩
  rw [Int.tdiv_eq_ediv_of_nonneg h4, w64 (by omega) (by omega)]
def childP (a b c s : Int) : Int × Int × Int × Bool := if idokB a b c = true ∧ b ≠ 4 ∧ 0 ≤ s ∧ s ≤ 1 then (a, b + 1, 2 * c + s, true) else (0, 0, 0, false)
theorem child_wrap {a b c s : Int} (h : idokB a b c = true) (hs : 0 ≤ s ∧ s ≤ 1) : wrap64 (b + 1) = b + 1 ∧ wrap64 (wrap64 (2 * c) + s) = 2 * c + s := by
  obtain ⟨h0, h1, h2, h3, h4, h5⟩ := idok_iff.1 h
  have h6 : (2 : Int) ^ b.toNat ≤ 16 := by obtain rfl | rfl | rfl | rfl | rfl := level_cases h2 h3 <;> decide
  refine ⟨w64 (by omega) (by omega), ?_⟩
  rw [w64 (n := 2 * c) (by omega) (by omega), w64 (by omega) (by omega)]
theorem child_key {a b c : Int} (h : idokB a b c = true) (hb : b ≠ 4) (s : Int) (s0 : 0 ≤ s) (s1 : s ≤ 1) : idokB a (b + 1) (2 * c + s) = true ∧ startP a (b + 1) (2 * c + s) = startP a b c + s * widthP (b + 1) ∧ widthP b = 2 * widthP (b + 1) := by
  have hs := h
  obtain ⟨h0, h1, h2, h3, h4, h5⟩ := idok_iff.1 h
  have key : idokB a (b + 1) (2 * c + s) = true ∧ widthP b = 2 * widthP (b + 1) := by
    obtain rfl | rfl | rfl | rfl | rfl := level_cases h2 h3
    · exact ⟨idok_iff.2 ⟨h0, h1, by omega, by omega, by omega, by change c < 1 at h5; change 2 * c + s < 2; omega⟩, by decide⟩
    · exact ⟨idok_iff.2 ⟨h0, h1, by omega, by omega, by omega, by change c < 2 at h5; change 2 * c + s < 4; omega⟩, by decide⟩
    · exact ⟨idok_iff.2 ⟨h0, h1, by omega, by omega, by omega, by change c < 4 at h5; change 2 * c + s < 8; omega⟩, by decide⟩
    · exact ⟨idok_iff.2 ⟨h0, h1, by omega, by omega, by omega, by change c < 8 at h5; change 2 * c + s < 16; omega⟩, by decide⟩
    · exact absurd rfl hb
  refine ⟨key.1, ?_, key.2⟩
  unfold startP
  rw [if_pos key.1, if_pos hs, key.2, Int.add_mul, Int.mul_comm 2 c, Int.mul_assoc]
  omega
def siblingB (a b c a' b' c' : Int) : Bool := decide (idokB a b c = true ∧ idokB a' b' c' = true ∧ a = a' ∧ b = b' ∧ c % 2 = 0 ∧ c' = c + 1)
theorem even_mod {c : Int} (h : 0 ≤ c) : Int.tmod c 2 = c % 2 := Int.tmod_eq_emod_of_nonneg h
theorem idx_bd {a b c : Int} (h : idokB a b c = true) : 0 ≤ c ∧ c ≤ 15 := by
  obtain ⟨h0, h1, h2, h3, h4, h5⟩ := idok_iff.1 h
  have h6 : (2 : Int) ^ b.toNat ≤ 16 := by obtain rfl | rfl | rfl | rfl | rfl := level_cases h2 h3 <;> decide
  omega

/-! quotients -/
def divFloorP (a b : Int) : Int := if b ≤ 0 then 0 else if Int.tmod a b < 0 then wrap64 (wrap64 (Int.tdiv a b) - 1) else wrap64 (Int.tdiv a b)


/-! draws: a cursor (place i, number h) over the bytes l -/
theorem and_mask (x : Int) (m : Nat) (hm : m ≤ 9223372036854775807) : 0 ≤ Go.bits .and .i64 x (m : Int) ∧ Go.bits .and .i64 x (m : Int) ≤ m := by
  have h : ∃ a : Nat, Go.bits .and .i64 x (m : Int) = IntKind.i64.wrap ((a &&& m : Nat) : Int) := by
    refine ⟨(BitVec.ofInt 64 x).toNat, ?_⟩
    have hb : m % 18446744073709551616 = m := Nat.mod_eq_of_lt (by omega)
    show IntKind.i64.wrap (((BitVec.ofInt 64 x &&& BitVec.ofInt 64 (m : Int)).toNat : Nat) : Int) = _
    rw [BitVec.toNat_and, show (BitVec.ofInt 64 (m : Int)).toNat = m from by rw [BitVec.ofInt_natCast, BitVec.toNat_ofNat]; exact hb]
  obtain ⟨a, ha⟩ := h
  have h2 : a &&& m ≤ m := Nat.and_le_right
  rw [ha, IntKind.wrap_i64]
  omega
theorem and255 (x : Int) : 0 ≤ Go.bits .and .i64 x 255 ∧ Go.bits .and .i64 x 255 ≤ 255 := and_mask x 255 (by omega)
theorem s_byte (l : List Int) (i h : Int) (hl : l.length ≤ 9223372036854775806) (hi : 0 ≤ i) : ∃ r i' h', spec_l01Byte.f l i h = some (r, i', h') ∧ 0 ≤ i' ∧ 0 ≤ r ∧ r ≤ 255 := by
  unfold spec_l01Byte.f
  by_cases h1 : i < (l.length : Int)
  · rw [if_pos h1, if_pos hi]
    exact ⟨_, _, _, rfl, by rw [w64 (by omega) (by omega)]; omega, (and255 _).1, (and255 _).2⟩
  · rw [if_neg h1]
    exact ⟨_, _, _, rfl, hi, (and255 _).1, (and255 _).2⟩
theorem s_below (l : List Int) (i h n : Int) (hl : l.length ≤ 9223372036854775806) (hi : 0 ≤ i) : ∃ r i' h', spec_l01Below.f l i h n = some (r, i', h') ∧ 0 ≤ i' ∧ 0 ≤ r ∧ (0 < n → r < n) ∧ (n ≤ 0 → r = 0) := by
  unfold spec_l01Below.f
  by_cases h1 : n ≤ 0
  · rw [if_pos h1]
    exact ⟨_, _, _, rfl, hi, by omega, by omega, fun _ => rfl⟩
  · rw [if_neg h1]
    by_cases h2 : n ≤ 256
    · rw [if_pos h2]
      obtain ⟨r, i', h', e, hi', h0, h3⟩ := s_byte l i h hl hi
      rw [e]
      simp only [Option.bind_some]
      rw [if_neg (show ¬ n = 0 by omega)]
      exact ⟨_, _, _, rfl, hi', Int.tmod_nonneg _ h0, fun _ => Int.tmod_lt_of_pos _ (by omega), by omega⟩
    · rw [if_neg h2]
      obtain ⟨r1, i1, h1', e1, hi1, a1, b1⟩ := s_byte l i h hl hi
      obtain ⟨r2, i2, h2', e2, hi2, a2, b2⟩ := s_byte l i1 h1' hl hi1
      obtain ⟨r3, i3, h3', e3, hi3, a3, b3⟩ := s_byte l i2 h2' hl hi2
      obtain ⟨r4, i4, h4', e4, hi4, a4, b4⟩ := s_byte l i3 h3' hl hi3
      rw [e1]; simp only [Option.bind_some]
      rw [e2]; simp only [Option.bind_some]
      rw [e3]; simp only [Option.bind_some]
      rw [e4]; simp only [Option.bind_some]
      rw [if_neg (show ¬ n = 0 by omega)]
      refine ⟨_, _, _, rfl, hi4, ?_, fun _ => Int.tmod_lt_of_pos _ (by omega), by omega⟩
      apply Int.tmod_nonneg
      rw [w64 (n := r1 * 16777216) (by omega) (by omega), w64 (n := r2 * 65536) (by omega) (by omega), w64 (n := r1 * 16777216 + r2 * 65536) (by omega) (by omega), w64 (n := r3 * 256) (by omega) (by omega), w64 (n := r1 * 16777216 + r2 * 65536 + r3 * 256) (by omega) (by omega), w64 (by omega) (by omega)]
      omega
theorem s_cur_l0 (l : List Int) (hl : l.length ≤ 1048576) : ∀ (d i : Nat) (h : Int), i + d = l.length → ∃ h', Ev (fun k => spec_l01New.l0 k l h (i : Int)) (l, 0, h') := by
  intro d
  induction d with
  | zero =>
    intro i h hd
    refine ⟨h, Ev.step (fun k => rfl) ?_⟩
    have h1 : ¬ ((i : Int) < (l.length : Int)) := by omega
    simp only [spec_l01New.l0, h1, if_false]
    exact Ev.now _
  | succ d ih =>
    intro i h hd
    have h1 : (i : Int) < (l.length : Int) := by omega
    have h3 : (0 : Int) ≤ (i : Int) := by omega
    by_cases h2 : (i : Int) < 4000
    · obtain ⟨h', e⟩ := ih (i + 1) (Go.bits .and .i64 (wrap64 ((wrap64 ((wrap64 (h * 131)) + (wrap64 (rd l (i : Int))))) + 7)) 1073741823) (by omega)
      refine ⟨h', Ev.step (fun k => rfl) ?_⟩
      simp only [spec_l01New.l0, h1, h2, h3, if_true, wsucc (show i < 4611686018427387904 by omega)]
      exact e
    · refine ⟨h, Ev.step (fun k => rfl) ?_⟩
      simp only [spec_l01New.l0, h1, h2, if_true, if_false]
      exact Ev.now _
theorem s_new (l : List Int) (hl : l.length ≤ 1048576) : ∃ h', Ev (fun k => spec_l01New.f k l) (l, 0, h') := by
  obtain ⟨h', e⟩ := s_cur_l0 l hl l.length 0 (wrap64 (98231 + (l.length : Int))) (by omega)
  exact ⟨h', by simpa [spec_l01New.f] using e⟩
theorem s_places_l0 (l : List Int) (hl : l.length ≤ 1048576) : ∀ (d j : Nat) (i h : Int) (out : List Int), j + d = 12 → out.length = j → (∀ x ∈ out, 0 ≤ x ∧ x < 10000) → 0 ≤ i → ∃ ps, Ev (fun k => spec_DrawPlaces.l0 k out (j : Int) l i h) ps ∧ ps.length = 12 ∧ ∀ x ∈ ps, 0 ≤ x ∧ x < 10000 := by
  intro d
  induction d with
  | zero =>
    intro j i h out hd ho hx hi
    refine ⟨out, Ev.step (fun k => rfl) ?_, by omega, hx⟩
    have h1 : ¬ ((j : Int) < 12) := by omega
    simp only [spec_DrawPlaces.l0, h1, if_false]
    exact Ev.now _
  | succ d ih =>
    intro j i h out hd ho hx hi
    have h1 : (j : Int) < 12 := by omega
    obtain ⟨r, i', h', e, hi', h0, h2, _⟩ := s_below l i h 10000 (by omega) hi
    have h3 : out.length < 17592186044416 := by omega
    obtain ⟨ps, e2, hp⟩ := ih (j + 1) i' h' (out ++ [r]) (by omega) (by simp [ho]) (fun x hx' => by
      rcases List.mem_append.1 hx' with h | h
      · exact hx x h
      · have := List.mem_singleton.1 h
        subst this
        exact ⟨h0, h2 (by omega)⟩) hi'
    refine ⟨ps, Ev.step (fun k => rfl) ?_, hp⟩
    simp only [spec_DrawPlaces.l0, h1, if_true, e, Option.bind_some, h3, wsucc (show j < 4611686018427387904 by omega)]
    exact e2
theorem s_places (l : List Int) (hl : l.length ≤ 1048576) : ∃ ps, Ev (fun k => spec_DrawPlaces.f k l) ps ∧ ps.length = 12 ∧ ∀ x ∈ ps, 0 ≤ x ∧ x < 10000 := by
  obtain ⟨h', e⟩ := s_new l hl
  obtain ⟨ps, e2, hp⟩ := s_places_l0 l hl 12 0 0 h' [] rfl rfl (fun x hx => by cases hx) (by omega)
  refine ⟨ps, ?_, hp⟩
  unfold spec_DrawPlaces.f
  refine Ev.bind e ?_
  exact e2
theorem big_eq (l : List Int) : laws_big.f l = some (decide ((l.length : Int) > 1048576)) := rfl

/-! logarithms -/
def logP (a : Int) : Int := if a ≤ 0 then -1 else ((Lib.bitLen a.toNat : Nat) : Int) - 1
theorem bitLen_zero : Lib.bitLen 0 = 0 := rfl
theorem bitLen_le : ∀ (n x : Nat), x < 2 ^ n → n ≤ 64 → Lib.bitLen x ≤ n := by
  intro n
  induction n with
  | zero => intro x h _; obtain rfl : x = 0 := by omega
            exact Nat.le_refl _
  | succ n ih =>
    intro x h hn
    by_cases h0 : x = 0
    · subst h0; rw [bitLen_zero]; omega
    · have h64 : x < 2 ^ 64 := Nat.lt_of_lt_of_le h (Nat.pow_le_pow_right (by omega) hn)
      rw [Lib.bitLen_half x h0 h64]
      have := ih (x / 2) (by rw [Nat.pow_succ] at h; omega) (by omega)
      omega
theorem i_log (a : Int) (h1 : a ≤ 9223372036854775807) : impl_LogTwo.f a = some (logP a) := by
  unfold impl_LogTwo.f logP
  by_cases h : a ≤ 0
  · rw [if_pos h, if_pos h]
  · rw [if_neg h, if_neg h, u64_small (by omega) h1]
    have hb := bitLen_le 63 a.toNat (by omega) (by omega)
    unfold bits_Len64.f
    rw [if_pos (by omega), if_pos (by omega)]
    simp only [Option.bind_some]
    rw [w64 (by omega) (by omega)]

/-! hexadecimal digits -/
def HEXD : ByteArray := ⟨#[48, 49, 50, 51, 52, 53, 54, 55, 56, 57, 97, 98, 99, 100, 101, 102]⟩
def figP (x : Int) : Int := if x < 10 then 48 + x else 87 + x
theorem fig_bt : ∀ n : Fin 16, bt HEXD (n.val : Int) = figP (n.val : Int) := by decide
theorem fig_at {x : Int} (h0 : 0 ≤ x) (h1 : x < 16) : bt HEXD x = figP x := by
  have := fig_bt ⟨x.toNat, by omega⟩
  simp only at this
  rwa [Int.toNat_of_nonneg h0] at this

def hexFrom (s : ByteArray) : Nat → List Int
  | 0 => []
  | n + 1 => hexFrom s n ++ [figP (bt s n / 16), figP (bt s n % 16)]
theorem hexFrom_length (s : ByteArray) : ∀ n, (hexFrom s n).length = 2 * n := by
  intro n
  induction n with
  | zero => rfl
  | succ n ih => simp [hexFrom, ih]; omega
def hexP (s : ByteArray) : ByteArray := strOfNums (hexFrom s s.size)


/-! clamping -/
def clampP (n a b : Int) : Int := if b < a then a else if n < a then a else if b < n then b else n

theorem bitLen_bounds : ∀ (n x : Nat), x < 2 ^ n → n ≤ 63 → x ≠ 0 → 1 ≤ Lib.bitLen x ∧ 2 ^ (Lib.bitLen x - 1) ≤ x ∧ x < 2 ^ Lib.bitLen x := by
  intro n
  induction n with
  | zero => intro x h _ h0; omega
  | succ n ih =>
    intro x h hn h0
    have h64 : x < 2 ^ 64 := Nat.lt_of_lt_of_le h (Nat.pow_le_pow_right (by omega) (by omega))
    rw [Lib.bitLen_half x h0 h64]
    by_cases h1 : x / 2 = 0
    · rw [h1, bitLen_zero]
      have : x = 1 := by omega
      subst this
      decide
    · obtain ⟨a1, a2, a3⟩ := ih (x / 2) (by rw [Nat.pow_succ] at h; omega) (by omega) h1
      obtain ⟨m, hm⟩ : ∃ m, Lib.bitLen (x / 2) = m + 1 := ⟨Lib.bitLen (x / 2) - 1, by omega⟩
      rw [hm] at a2 a3 ⊢
      simp only [Nat.add_sub_cancel] at a2
      rw [Nat.pow_succ] at a3
      refine ⟨by omega, ?_, ?_⟩
      · rw [show 1 + (m + 1) - 1 = m + 1 by omega, Nat.pow_succ]; omega
      · rw [show 1 + (m + 1) = m + 1 + 1 by omega, Nat.pow_succ, Nat.pow_succ]; omega
theorem shl_one_fin : ∀ n : Fin 63, shl .i64 1 (n.val : Int) = ((2 ^ n.val : Nat) : Int) := by decide +kernel
theorem shl_one {y : Int} (h0 : 0 ≤ y) (h1 : y ≤ 62) : shl .i64 1 y = ((2 ^ y.toNat : Nat) : Int) := by
  have := shl_one_fin ⟨y.toNat, by omega⟩
  simp only at this
  rwa [Int.toNat_of_nonneg h0] at this
theorem logP_pow : ∀ n : Fin 60, logP ((2 ^ n.val : Nat) : Int) = (n.val : Int) := by decide +kernel
def isPowB (n : Int) : Bool := if n > 0 then Go.bits .and .i64 n (wrap64 (n - 1)) == 0 else false
theorem pow_isPow : ∀ n : Fin 60, (Go.bits .and .i64 ((2 ^ n.val : Nat) : Int) (((2 ^ n.val : Nat) : Int) - 1) == 0) = true := by decide +kernel
theorem pow_notPow : ∀ n : Fin 60, 2 ≤ n.val → (Go.bits .and .i64 (((2 ^ n.val : Nat) : Int) - 1) (((2 ^ n.val : Nat) : Int) - 1 - 1) == 0) = false := by decide +kernel
theorem pow_big : ∀ n : Fin 60, 1 ≤ ((2 ^ n.val : Nat) : Int) ∧ ((2 ^ n.val : Nat) : Int) ≤ 1152921504606846976 ∧ (2 ≤ n.val → 4 ≤ ((2 ^ n.val : Nat) : Int)) := by decide +kernel
theorem i_isPow (n : Int) : impl_IsPowerOfTwo.f n = some (isPowB n) := by
  unfold impl_IsPowerOfTwo.f isPowB
  by_cases h : n > 0
  · rw [if_pos h, if_pos h]
  · rw [if_neg h, if_neg h]
theorem i_split {n : Int} (h : 0 ≤ n) (h1 : n ≤ 9223372036854775807) : impl_SplitEven.f n = some (n - n / 2, n / 2) := by
  unfold impl_SplitEven.f
  rw [if_neg (by omega), Int.tdiv_eq_ediv_of_nonneg h, w64 (n := n / 2) (by omega) (by omega), w64 (by omega) (by omega)]



def EMPTY : ByteArray := ⟨#[]⟩
theorem w2 {i : Nat} (h : i < 4611686018427387904) : wrap64 ((i : Int) + 2) = ((i + 2 : Nat) : Int) := by rw [w64 (by omega) (by omega)]; omega





end Go.Proofs.Ytlkdekllphgikaa.CoreFnPowers
