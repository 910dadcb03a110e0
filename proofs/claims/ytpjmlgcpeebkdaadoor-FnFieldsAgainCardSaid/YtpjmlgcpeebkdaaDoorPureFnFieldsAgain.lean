/- The fields of a line, joined by single spaces, have the same fields, for every draw (one of more than 1048576 bytes is passed over by the statement itself); no condition. -/
import Derived.Test.YtpjmlgcpeebkdaaDoorCFnFieldsAgain
import Derived.Lib.Fields
import Derived.Lib.ItoaNum
set_option linter.unusedSimpArgs false
set_option linter.unusedVariables false
namespace Go.Proofs.YtpjmlgcpeebkdaaDoor.Pure
open Go.RowKit Go.Proofs.YtpjmlgcpeebkdaaDoor.PFnFieldsAgain Go.Proofs.YtpjmlgcpeebkdaaDoorW.PrintWords Go.Proofs.YtpjmlgcpeebkdaaDoorW.PrintLast Go.Proofs.YtpjmlgcpeebkdaaDoorW.PrintMore Go.Proofs.YtpjmlgcpeebkdaaDoor.CoreFnFieldsAgain

theorem toList_loop (s : ByteArray) : ∀ (d i : Nat) (r : List UInt8), s.size - i = d → ByteArray.toList.loop s i r = r.reverse ++ s.data.toList.drop i := by
  intro d
  induction d with
  | zero =>
    intro i r h
    have hl : s.data.toList.length = s.size := by rw [Array.length_toList]; rfl
    rw [ByteArray.toList.loop, if_neg (by omega), List.drop_eq_nil_of_le (by omega), List.append_nil]
  | succ d ih =>
    intro i r h
    have hl : s.data.toList.length = s.size := by rw [Array.length_toList]; rfl
    have hi : i < s.data.toList.length := by omega
    have hg : s.get! i = s.data.toList[i] := by
      show s.data[i]! = _
      rw [getElem!_pos s.data i (by rw [Array.length_toList] at hi; exact hi)]
      simp
    rw [ByteArray.toList.loop, if_pos (by omega), ih (i + 1) _ (by omega), List.drop_eq_getElem_cons hi, hg]
    simp
theorem toList_data (s : ByteArray) : s.toList = s.data.toList := by
  unfold ByteArray.toList
  rw [toList_loop s s.size 0 [] rfl]
  simp

/-! the fields of a line -/
abbrev badB (b : UInt8) : Bool := impl_SplitFields.p (b.toNat : Int)
theorem badB_iff (b : UInt8) : badB b = true ↔ (b.toNat < 32 ∨ 126 < b.toNat) := by
  unfold badB impl_SplitFields.p
  simp
  omega
theorem isSp_good {b : UInt8} (h : ¬ (b.toNat < 32 ∨ 126 < b.toNat)) : Lib.isSp b = decide (b.toNat = 32) := by
  have e : ∀ n : UInt8, (b == n) = decide (b.toNat = n.toNat) := fun n => by
    rw [Bool.eq_iff_iff, beq_iff_eq, decide_eq_true_iff]
    exact UInt8.toNat_inj.symm
  unfold Lib.isSp
  rw [e 9, e 10, e 11, e 12, e 13, e 32]
  have c9 : (9 : UInt8).toNat = 9 := rfl
  have c10 : (10 : UInt8).toNat = 10 := rfl
  have c11 : (11 : UInt8).toNat = 11 := rfl
  have c12 : (12 : UInt8).toNat = 12 := rfl
  have c13 : (13 : UInt8).toNat = 13 := rfl
  have c32 : (32 : UInt8).toNat = 32 := rfl
  rw [c9, c10, c11, c12, c13, c32]
  rw [decide_eq_false (show ¬ b.toNat = 9 by omega), decide_eq_false (show ¬ b.toNat = 10 by omega), decide_eq_false (show ¬ b.toNat = 11 by omega), decide_eq_false (show ¬ b.toNat = 12 by omega), decide_eq_false (show ¬ b.toNat = 13 by omega)]
  simp
def ba (l : List UInt8) : ByteArray := ⟨l.toArray⟩
theorem ba_list (l : List UInt8) : (ba l).data.toList = l := by simp [ba]
theorem ba_of (s : ByteArray) : ba s.data.toList = s := by cases s; simp [ba]
def splitP (s : ByteArray) : List ByteArray × Bool := if s.size ≤ 600 then (if s.data.toList.any badB = true then ([], false) else (if ((Lib.fields s.data.toList).map ba).length ≤ 24 then ((Lib.fields s.data.toList).map ba, true) else ([], false))) else ([], false)
theorem i_split (s : ByteArray) : impl_SplitFields.f s = some (splitP s) := by
  unfold impl_SplitFields.f splitP
  have e : (bytesOf s).any impl_SplitFields.p = s.data.toList.any badB := by unfold bytesOf; rw [List.any_map]; rfl
  rw [e]
  split
  · split
    · rfl
    · show (if ((Lib.fields s.data.toList).map ba).length ≤ 24 then some ((Lib.fields s.data.toList).map ba, true) else some ([], false)) = _
      split <;> rfl
  · rfl
theorem split_len (s : ByteArray) : (splitP s).1.length ≤ 24 := by
  unfold splitP
  split
  · split
    · simp
    · split
      · rename_i h; exact h
      · simp
  · simp
theorem extract_list (s : ByteArray) (b e : Nat) : (s.extract b e).data.toList = (s.data.toList.take e).drop b := by
  have : (s.extract b e).data = s.data.extract b e := by simp
  rw [this, Array.toList_extract, List.extract_eq_take_drop, List.drop_take]
theorem bt_list (s : ByteArray) (i : Nat) (h : i < s.data.toList.length) : bt s (i : Int) = ((s.data.toList[i]).toNat : Int) := by
  have hs : (i : Int).toNat < s.size := by rw [Int.toNat_natCast]; simpa using h
  rw [← bt_at s (i : Int) hs]
  simp only [Int.toNat_natCast]
  rfl
theorem take_snoc (L : List UInt8) (b i : Nat) (h : i < L.length) (hb : b ≤ i) : (L.take (i + 1)).drop b = (L.take i).drop b ++ [L[i]] := by
  rw [List.take_add_one, List.getElem?_eq_getElem h]
  simp only [Option.toList_some]
  rw [List.drop_append_of_le_length (by rw [List.length_take]; omega)]
def endP (out : List ByteArray) (cur l : List UInt8) : List ByteArray × Bool := if l.any badB = true then ([], false) else (if (out ++ (Lib.fieldsGo cur l).map ba).length ≤ 24 then (out ++ (Lib.fieldsGo cur l).map ba, true) else ([], false))
theorem s_split_l0 (s : ByteArray) (hs : s.size ≤ 600) : ∀ (d i b : Nat) (out : List ByteArray), i + d = s.size → b ≤ i → out.length ≤ i → Ev (fun k => spec_SplitFields.l0 k s out (b : Int) (i : Int)) (endP out ((s.data.toList.take i).drop b) (s.data.toList.drop i)) := by
  have hl : s.data.toList.length = s.size := by rw [Array.length_toList]; rfl
  intro d
  induction d with
  | zero =>
    intro i b out hi hb ho
    have hd : s.data.toList.drop i = [] := List.drop_eq_nil_of_le (by omega)
    rw [hd]
    refine Ev.step (fun k => rfl) ?_
    simp only [spec_SplitFields.l0, show ((i : Int) ≤ (s.size : Int)) by omega, show ¬ ((i : Int) < (s.size : Int)) by omega, if_true, if_false]
    refine Ev.step (fun k => rfl) ?_
    simp only [spec_SplitFields.j1, Bool.false_eq_true, show ¬ ((i : Int) < (s.size : Int)) by omega, if_false]
    refine Ev.step (fun k => rfl) ?_
    have fin : ∀ (o : List ByteArray) (b' : Int), Ev (fun k => spec_SplitFields.l0 k s o b' (wrap64 ((i : Int) + 1))) (if o.length ≤ 24 then (o, true) else ([], false)) := by
      intro o b'
      refine Ev.step (fun k => rfl) ?_
      simp only [spec_SplitFields.l0, wsucc (show i < 4611686018427387904 by omega), show ¬ (((i + 1 : Nat) : Int) ≤ (s.size : Int)) by omega, if_false]
      by_cases h : o.length ≤ 24
      · simp only [h, show ¬ ((o.length : Int) > 24) by omega, if_true, if_false]
        exact Ev.now _
      · simp only [h, show ((o.length : Int) > 24) by omega, if_true, if_false]
        exact Ev.now _
    simp only [spec_SplitFields.j2, Bool.false_eq_true, if_false]
    by_cases hbi : b < i
    · simp only [show ((b : Int) < (i : Int)) by omega, show (0 : Int) ≤ (b : Int) by omega, show (b : Int) ≤ (i : Int) by omega, show (i : Int) ≤ (s.size : Int) by omega, show out.length < 8796093022208 by omega, if_true, Int.toNat_natCast]
      have e1 : s.extract b i = ba ((s.data.toList.take i).drop b) := by rw [← extract_list, ba_of]
      have e2 : ((s.data.toList.take i).drop b).isEmpty = false := by
        rw [List.isEmpty_eq_false_iff]
        intro e
        have := congrArg List.length e
        simp at this
        omega
      rw [e1]
      have := fin (out ++ [ba ((s.data.toList.take i).drop b)]) (wrap64 ((i : Int) + 1))
      unfold endP
      simp only [List.any_nil, Bool.false_eq_true, if_false, Lib.fieldsGo, e2, List.map_cons, List.map_nil]
      exact this
    · simp only [show ¬ ((b : Int) < (i : Int)) by omega, if_false]
      have e2 : ((s.data.toList.take i).drop b) = [] := List.drop_eq_nil_of_le (by rw [List.length_take]; omega)
      have := fin out (wrap64 ((i : Int) + 1))
      unfold endP
      rw [e2]
      simp only [List.any_nil, Bool.false_eq_true, if_false, Lib.fieldsGo, List.isEmpty_nil, if_true, List.map_nil, List.append_nil]
      exact this
  | succ d ih =>
    intro i b out hi hb ho
    have hil : i < s.data.toList.length := by omega
    have hbt := bt_list s i hil
    have hsn := take_snoc s.data.toList b i hil hb
    have hself : (s.data.toList.take (i + 1)).drop (i + 1) = [] := List.drop_eq_nil_of_le (by rw [List.length_take]; omega)
    rw [List.drop_eq_getElem_cons hil]
    generalize hx : s.data.toList[i] = x at hbt hsn
    refine Ev.step (fun k => rfl) ?_
    simp only [spec_SplitFields.l0, show ((i : Int) ≤ (s.size : Int)) by omega, show ((i : Int) < (s.size : Int)) by omega, show (0 : Int) ≤ (i : Int) by omega, if_true, hbt]
    by_cases hbad : x.toNat < 32 ∨ 126 < x.toNat
    · have hE : endP out ((s.data.toList.take i).drop b) (x :: s.data.toList.drop (i + 1)) = ([], false) := by
        unfold endP
        rw [List.any_cons, (badB_iff x).2 hbad, Bool.true_or, if_pos rfl]
      rw [hE]
      by_cases h1 : (x.toNat : Int) < 32
      · simp only [h1, if_true]
        refine Ev.step (fun k => rfl) ?_
        simp only [spec_SplitFields.j1, if_true]
        exact Ev.now _
      · simp only [h1, if_false, show decide ((x.toNat : Int) > 126) = true from decide_eq_true (by omega)]
        refine Ev.step (fun k => rfl) ?_
        simp only [spec_SplitFields.j1, if_true]
        exact Ev.now _
    · have hgood : badB x = false := by
        rw [Bool.eq_false_iff]
        exact fun e => hbad ((badB_iff x).1 e)
      have hsp := isSp_good hbad
      simp only [show ¬ ((x.toNat : Int) < 32) by omega, if_false, show decide ((x.toNat : Int) > 126) = false from decide_eq_false (by omega)]
      refine Ev.step (fun k => rfl) ?_
      simp only [spec_SplitFields.j1, Bool.false_eq_true, show ((i : Int) < (s.size : Int)) by omega, show (0 : Int) ≤ (i : Int) by omega, if_true, if_false, hbt]
      refine Ev.step (fun k => rfl) ?_
      by_cases h32 : x.toNat = 32
      · have e32 : ((x.toNat : Int) != 32) = false := by rw [h32]; rfl
        have hspt : Lib.isSp x = true := by rw [hsp]; exact decide_eq_true h32
        simp only [spec_SplitFields.j2, e32, Bool.false_eq_true, if_false]
        by_cases hbi : b < i
        · simp only [show ((b : Int) < (i : Int)) by omega, show (0 : Int) ≤ (b : Int) by omega, show (b : Int) ≤ (i : Int) by omega, show (i : Int) ≤ (s.size : Int) by omega, show out.length < 8796093022208 by omega, if_true, Int.toNat_natCast]
          have e1 : s.extract b i = ba ((s.data.toList.take i).drop b) := by rw [← extract_list, ba_of]
          have e2 : ((s.data.toList.take i).drop b).isEmpty = false := by
            rw [List.isEmpty_eq_false_iff]
            intro e
            have := congrArg List.length e
            simp at this
            omega
          rw [e1, wsucc (show i < 4611686018427387904 by omega)]
          have := ih (i + 1) (i + 1) (out ++ [ba ((s.data.toList.take i).drop b)]) (by omega) (Nat.le_refl _) (by simp; omega)
          rw [hself] at this
          have hE : endP out ((s.data.toList.take i).drop b) (x :: s.data.toList.drop (i + 1)) = endP (out ++ [ba ((s.data.toList.take i).drop b)]) [] (s.data.toList.drop (i + 1)) := by
            unfold endP
            simp only [List.any_cons, hgood, Bool.false_or, Lib.fieldsGo, hspt, e2, if_true, Bool.false_eq_true, if_false, List.map_cons, List.append_assoc, List.singleton_append]
          rw [hE]
          exact this
        · simp only [show ¬ ((b : Int) < (i : Int)) by omega, if_false]
          have e2 : ((s.data.toList.take i).drop b) = [] := List.drop_eq_nil_of_le (by rw [List.length_take]; omega)
          rw [wsucc (show i < 4611686018427387904 by omega)]
          have := ih (i + 1) (i + 1) out (by omega) (Nat.le_refl _) (by omega)
          rw [hself] at this
          have hE : endP out ((s.data.toList.take i).drop b) (x :: s.data.toList.drop (i + 1)) = endP out [] (s.data.toList.drop (i + 1)) := by
            unfold endP
            rw [e2]
            simp only [List.any_cons, hgood, Bool.false_or, Lib.fieldsGo, hspt, List.isEmpty_nil, if_true]
          rw [hE]
          exact this
      · have e32 : ((x.toNat : Int) != 32) = true := by
          rw [bne_iff_ne]
          exact fun e => h32 (by exact_mod_cast e)
        have hspt : Lib.isSp x = false := by rw [hsp]; exact decide_eq_false h32
        simp only [spec_SplitFields.j2, e32, if_true, wsucc (show i < 4611686018427387904 by omega)]
        have := ih (i + 1) b out (by omega) (by omega) (by omega)
        rw [hsn] at this
        have hE : endP out ((s.data.toList.take i).drop b) (x :: s.data.toList.drop (i + 1)) = endP out ((s.data.toList.take i).drop b ++ [x]) (s.data.toList.drop (i + 1)) := by
          unfold endP
          simp only [List.any_cons, hgood, Bool.false_or, Lib.fieldsGo, hspt, Bool.false_eq_true, if_false]
        rw [hE]
        exact this
theorem s_split (s : ByteArray) : Ev (fun k => spec_SplitFields.f k s) (splitP s) := by
  unfold spec_SplitFields.f splitP
  simp only [Option.bind_some]
  by_cases h : s.size ≤ 600
  · simp only [show ¬ ((s.size : Int) > 600) by omega, if_false, h, if_true]
    have := s_split_l0 s h s.size 0 0 [] (by omega) (by omega) (by simp)
    simpa [endP, Lib.fields] using this
  · simp only [show ((s.size : Int) > 600) by omega, if_true, h, if_false]
    exact Ev.now _

theorem str_size (l : List Int) : (strOfNums l).size = l.length := by unfold strOfNums; simp [ByteArray.size]
theorem long_l0 (n : Nat) (c : Int) (hn : n ≤ 1048576) : ∀ (d i : Nat) (xs : List Int), i + d = n → xs.length = n → ∃ s, Ev (fun k => spec_l01Long.l0 k (n : Int) c xs (i : Int)) s ∧ s.size = n := by
  intro d
  induction d with
  | zero =>
    intro i xs h hx
    refine ⟨strOfNums xs, Ev.step (fun k => rfl) ?_, by rw [str_size, hx]⟩
    simp only [spec_l01Long.l0, show ¬ ((i : Int) < (n : Int)) by omega, if_false]
    exact Ev.now _
  | succ d ih =>
    intro i xs h hx
    obtain ⟨s, e, hs⟩ := ih (i + 1) (xs.set i c) (by omega) (by simp [hx])
    refine ⟨s, Ev.step (fun k => rfl) ?_, hs⟩
    simp only [spec_l01Long.l0, show ((i : Int) < (n : Int)) by omega, show (0 : Int) ≤ (i : Int) by omega, show ((i : Int) < (xs.length : Int)) by omega, if_true, wsucc (show i < 4611686018427387904 by omega), Int.toNat_natCast]
    exact e
theorem long (n : Nat) (c : Int) (hn : n ≤ 1048576) : ∃ s, Ev (fun k => spec_l01Long.f k (n : Int) c) s ∧ s.size = n := by
  unfold spec_l01Long.f
  obtain ⟨s, e, hs⟩ := long_l0 n c hn n 0 (List.replicate n 0) (by omega) (by simp)
  refine ⟨s, ?_, hs⟩
  simp only [show (0 : Int) ≤ (n : Int) by omega, if_true, Int.toNat_natCast, show n ≤ 281474976710656 by omega]
  exact e

/-! the draw -/
theorem pickS (l : List Int) (i h : Int) (xs : List ByteArray) (hl : l.length ≤ 1048576) (hi : 0 ≤ i) (hx : 0 < xs.length) : ∃ r i' h', spec_l01Pick.f l i h xs = some (r, i', h') ∧ 0 ≤ i' ∧ r ∈ xs := by
  unfold spec_l01Pick.f
  obtain ⟨r, i', h', e, hi', h0, h1, _⟩ := s_below l i h (xs.length : Int) (by omega) hi
  have h2 := h1 (by omega)
  rw [e]
  simp only [Option.bind_some]
  rw [if_pos h0, if_pos h2]
  refine ⟨_, _, _, rfl, hi', ?_⟩
  unfold rdOf
  have h3 : r.toNat < xs.length := by omega
  rw [List.getD_eq_getElem?_getD, List.getElem?_eq_getElem h3]
  exact List.getElem_mem h3
theorem d_l1 (l : List Int) (hl : l.length ≤ 1048576) (n : Int) (i : Nat) (hi : i ≤ 25) (K : ∀ (s : ByteArray) (c h : Int), s.size ≤ 10 * (i + 1) → 0 ≤ c → ∃ r, Ev (fun k => spec_DrawSplitFields.l0 k n s ((i + 1 : Nat) : Int) l c h) r) : ∀ (e j : Nat) (s : ByteArray) (c h : Int), j + e = 5 → s.size ≤ 10 * i + 3 + j → 0 ≤ c → ∃ r, Ev (fun k => spec_DrawSplitFields.l1 k n s (i : Int) (j : Int) l c h) r := by
  intro e
  induction e with
  | zero =>
    intro j s c h hj hs hc
    obtain ⟨r, c1, h1, e1, hc1, r0, r1, _⟩ := s_below l c h 5 (by omega) hc
    have r2 := r1 (by omega)
    obtain ⟨t, ht⟩ := K s c1 h1 (by omega) hc1
    refine ⟨t, Ev.step (fun k => rfl) ?_⟩
    simp only [spec_DrawSplitFields.l1, e1, Option.bind_some, show ¬ ((j : Int) ≤ r) by omega, if_false, wsucc (show i < 4611686018427387904 by omega)]
    exact ht
  | succ e ih =>
    intro j s c h hj hs hc
    obtain ⟨r, c1, h1, e1, hc1, r0, r1, _⟩ := s_below l c h 5 (by omega) hc
    have r2 := r1 (by omega)
    by_cases hr : (j : Int) ≤ r
    · obtain ⟨q, c2, h2, e2, hc2, q0, q1, _⟩ := s_below l c1 h1 94 (by omega) hc1
      have hz := str_size [(wrap64 (33 + q)) % 256]
      simp only [List.length_singleton] at hz
      obtain ⟨t, ht⟩ := ih (j + 1) (s ++ strOfNums [(wrap64 (33 + q)) % 256]) c2 h2 (by omega) (by rw [ByteArray.size_append, hz]; omega) hc2
      refine ⟨t, Ev.step (fun k => rfl) ?_⟩
      simp only [spec_DrawSplitFields.l1, e1, Option.bind_some, hr, if_true, e2, hz, show s.size + 1 ≤ 9223372036854775807 by omega, wsucc (show j < 4611686018427387904 by omega)]
      exact ht
    · obtain ⟨t, ht⟩ := K s c1 h1 (by omega) hc1
      refine ⟨t, Ev.step (fun k => rfl) ?_⟩
      simp only [spec_DrawSplitFields.l1, e1, Option.bind_some, hr, if_false, wsucc (show i < 4611686018427387904 by omega)]
      exact ht
theorem d_l0 (l : List Int) (hl : l.length ≤ 1048576) (n : Nat) (hn : n ≤ 25) : ∀ (d i : Nat) (s : ByteArray) (c h : Int), i + d = n → s.size ≤ 10 * i → 0 ≤ c → ∃ r, Ev (fun k => spec_DrawSplitFields.l0 k (n : Int) s (i : Int) l c h) r := by
  intro d
  induction d with
  | zero =>
    intro i s c h hi hs hc
    obtain ⟨r, c1, h1, e1, hc1, r0, r1, _⟩ := s_below l c h 12 (by omega) hc
    by_cases z0 : r = 0
    · obtain ⟨t, c2, h2, e2, hc2, ht⟩ := pickS l c1 h1 ([(⟨#[32]⟩ : ByteArray), (⟨#[32, 32]⟩ : ByteArray), (⟨#[9]⟩ : ByteArray), (⟨#[10]⟩ : ByteArray), (⟨#[127]⟩ : ByteArray), (⟨#[233]⟩ : ByteArray)] : List ByteArray) hl hc1 (by decide)
      have hz : t.size ≤ 2 := by
        simp only [List.mem_cons, List.not_mem_nil, or_false] at ht
        rcases ht with rfl | rfl | rfl | rfl | rfl | rfl <;> decide
      refine ⟨s ++ t, Ev.step (fun k => rfl) ?_⟩
      simp only [spec_DrawSplitFields.l0, show ¬ ((i : Int) < (n : Int)) by omega, if_false, e1, Option.bind_some, z0, if_true, e2, show s.size + t.size ≤ 9223372036854775807 by omega]
      exact Ev.now _
    · by_cases z1 : r = 1
      · obtain ⟨q, c2, h2, e2, hc2, q0, q1, _⟩ := s_below l c1 h1 2 (by omega) hc1
        have q2 := q1 (by omega)
        have ew : wrap64 ((wrap64 (600 - (s.size : Int))) + q) = ((600 - s.size + q.toNat : Nat) : Int) := by
          rw [w64 (n := 600 - (s.size : Int)) (by omega) (by omega), w64 (by omega) (by omega)]
          omega
        obtain ⟨t, ht, hts⟩ := long (600 - s.size + q.toNat) 32 (by omega)
        refine ⟨s ++ t, Ev.step (fun k => rfl) ?_⟩
        simp only [spec_DrawSplitFields.l0, show ¬ ((i : Int) < (n : Int)) by omega, if_false, e1, Option.bind_some, z0, z1, if_true, show ((s.size : Int) < 600) by omega, e2, ew, show ¬ ((1 : Int) = 0) by omega]
        refine Ev.bind ht ?_
        simp only [show s.size + t.size ≤ 9223372036854775807 by omega, if_true]
        exact Ev.now _
      · refine ⟨s, Ev.step (fun k => rfl) ?_⟩
        simp only [spec_DrawSplitFields.l0, show ¬ ((i : Int) < (n : Int)) by omega, if_false, e1, Option.bind_some, z0, z1]
        exact Ev.now _
  | succ d ih =>
    intro i s c h hi hs hc
    have L1 := d_l1 l hl (n : Int) i (by omega) (fun s' c' h' hs' hc' => ih (i + 1) s' c' h' (by omega) hs' hc') 5 0
    have J3 : ∀ (s : ByteArray) (c h : Int), s.size ≤ 10 * i + 3 → 0 ≤ c → ∃ r, Ev (fun k => spec_DrawSplitFields.j3 k (n : Int) s (i : Int) l c h) r := by
      intro s c h hs hc
      obtain ⟨t, ht⟩ := L1 s c h (by omega) (by omega) hc
      refine ⟨t, Ev.step (fun k => rfl) ?_⟩
      simp only [spec_DrawSplitFields.j3]
      exact ht
    have J2 : ∀ (b : Bool) (c h : Int), 0 ≤ c → ∃ r, Ev (fun k => spec_DrawSplitFields.j2 k (n : Int) s (i : Int) b l c h) r := by
      intro b c h hc
      cases b with
      | true =>
        obtain ⟨r1, c1, h1, e1, hc1, a0, a1, _⟩ := s_below l c h 2 (by omega) hc
        have a2 := a1 (by omega)
        obtain ⟨r2, c2, h2, e2, hc2, b0, b1, _⟩ := s_below l c1 h1 3 (by omega) hc1
        have b2 := b1 (by omega)
        have hp : 0 ≤ r1 * r2 ∧ r1 * r2 ≤ 2 := by
          have : r1 = 0 ∨ r1 = 1 := by omega
          rcases this with rfl | rfl <;> omega
        have ew : wrap64 (1 + (wrap64 (r1 * r2))) = (((1 + r1 * r2).toNat : Nat) : Int) := by
          rw [w64 (n := r1 * r2) (by omega) (by omega), w64 (by omega) (by omega)]
          omega
        obtain ⟨t, ht, hts⟩ := long (1 + r1 * r2).toNat 32 (by omega)
        obtain ⟨q, hq⟩ := J3 (s ++ t) c2 h2 (by rw [ByteArray.size_append]; omega) hc2
        refine ⟨q, Ev.step (fun k => rfl) ?_⟩
        simp only [spec_DrawSplitFields.j2, if_true, e1, Option.bind_some, e2, ew]
        refine Ev.bind ht ?_
        simp only [show s.size + t.size ≤ 9223372036854775807 by omega, if_true]
        exact hq
      | false =>
        obtain ⟨q, hq⟩ := J3 s c h (by omega) hc
        refine ⟨q, Ev.step (fun k => rfl) ?_⟩
        simp only [spec_DrawSplitFields.j2, Bool.false_eq_true, if_false]
        exact hq
    by_cases h0 : (i : Int) > 0
    · obtain ⟨q, hq⟩ := J2 true c h hc
      refine ⟨q, Ev.step (fun k => rfl) ?_⟩
      simp only [spec_DrawSplitFields.l0, show ((i : Int) < (n : Int)) by omega, h0, if_true]
      exact hq
    · obtain ⟨b, c1, h1, e1, hc1⟩ := s_once l c h 5 (by omega) hc
      obtain ⟨q, hq⟩ := J2 b c1 h1 hc1
      refine ⟨q, Ev.step (fun k => rfl) ?_⟩
      simp only [spec_DrawSplitFields.l0, show ((i : Int) < (n : Int)) by omega, h0, if_true, if_false, e1, Option.bind_some]
      exact hq
theorem drawn (l : List Int) (hl : l.length ≤ 1048576) : ∃ s, Ev (fun k => spec_DrawSplitFields.f k l) s := by
  unfold spec_DrawSplitFields.f
  obtain ⟨h, e⟩ := s_new l hl
  obtain ⟨r, c1, h1, e1, hc1, r0, r1, _⟩ := s_below l 0 h 9 (by omega) (by omega)
  have r2 := r1 (by omega)
  obtain ⟨b, c2, h2, e2, hc2⟩ := s_once l c1 h1 15 (by omega) hc1
  have J0 : ∀ (n : Nat) (c h : Int), n ≤ 25 → 0 ≤ c → ∃ s, Ev (fun k => spec_DrawSplitFields.j0 k (n : Int) l c h) s := by
    intro n c h hn hc
    obtain ⟨t, ht⟩ := d_l0 l hl n hn n 0 ⟨#[]⟩ c h (by omega) (by decide) hc
    refine ⟨t, Ev.step (fun k => rfl) ?_⟩
    simp only [spec_DrawSplitFields.j0]
    exact ht
  cases b with
  | true =>
    obtain ⟨q, c3, h3, e3, hc3, q0, q1, _⟩ := s_below l c2 h2 2 (by omega) hc2
    have q2 := q1 (by omega)
    obtain ⟨t, ht⟩ := J0 (24 + q.toNat) c3 h3 (by omega) hc3
    have ew : wrap64 (24 + q) = ((24 + q.toNat : Nat) : Int) := by rw [w64 (by omega) (by omega)]; omega
    refine ⟨t, ?_⟩
    refine Ev.bind e ?_
    simp only [e1, Option.bind_some, e2, if_true, e3, ew]
    exact ht
  | false =>
    obtain ⟨t, ht⟩ := J0 r.toNat c2 h2 (by omega) hc2
    rw [show ((r.toNat : Nat) : Int) = r by omega] at ht
    refine ⟨t, ?_⟩
    refine Ev.bind e ?_
    simp only [e1, Option.bind_some, e2, Bool.false_eq_true, if_false]
    exact ht
/-! the fields, joined -/
def joinL (fs : List (List UInt8)) : List UInt8 := fs.flatMap (fun f => f ++ [32])
theorem sp32 : Lib.isSp 32 = true := by decide
theorem go_word : ∀ (f cur r : List UInt8), (∀ b ∈ f, Lib.isSp b = false) → Lib.fieldsGo cur (f ++ r) = Lib.fieldsGo (cur ++ f) r
  | [], cur, r, _ => by simp
  | b :: f, cur, r, h => by
    have hb := h b (by simp)
    show Lib.fieldsGo cur (b :: (f ++ r)) = _
    rw [Lib.fieldsGo, hb]
    simp only [Bool.false_eq_true, if_false]
    rw [go_word f (cur ++ [b]) r (fun x hx => h x (by simp [hx]))]
    simp
theorem go_join : ∀ (fs : List (List UInt8)), (∀ f ∈ fs, f ≠ [] ∧ ∀ b ∈ f, Lib.isSp b = false) → Lib.fields (joinL fs) = fs
  | [], _ => rfl
  | f :: fs, h => by
    have hf := h f (by simp)
    have e : joinL (f :: fs) = f ++ ((32 : UInt8) :: joinL fs) := by simp [joinL]
    have hn : ([] ++ f).isEmpty = false := by
      rw [List.nil_append, List.isEmpty_eq_false_iff]
      exact hf.1
    unfold Lib.fields
    rw [e, go_word f [] _ hf.2, Lib.fieldsGo, sp32, if_pos rfl, hn]
    simp only [Bool.false_eq_true, if_false, List.nil_append]
    have := go_join fs (fun g hg => h g (by simp [hg]))
    unfold Lib.fields at this
    rw [this]
theorem go_mem : ∀ (l cur : List UInt8), (∀ b ∈ cur, Lib.isSp b = false) → ∀ f ∈ Lib.fieldsGo cur l, f ≠ [] ∧ (∀ b ∈ f, Lib.isSp b = false ∧ (b ∈ cur ∨ b ∈ l)) ∧ f.length ≤ cur.length + l.length
  | [], cur, hc, f, hf => by
    rw [Lib.fieldsGo] at hf
    by_cases h : cur.isEmpty = true
    · rw [if_pos h] at hf; cases hf
    · rw [if_neg h] at hf
      rw [List.mem_singleton] at hf
      subst hf
      refine ⟨fun e => h (by rw [e]; rfl), fun b hb => ⟨hc b hb, .inl hb⟩, by simp⟩
  | b :: l, cur, hc, f, hf => by
    rw [Lib.fieldsGo] at hf
    by_cases hb : Lib.isSp b = true
    · rw [if_pos hb] at hf
      have ih := go_mem l [] (fun _ h => by cases h)
      have key : f ∈ Lib.fieldsGo [] l → f ≠ [] ∧ (∀ x ∈ f, Lib.isSp x = false ∧ (x ∈ cur ∨ x ∈ b :: l)) ∧ f.length ≤ cur.length + (b :: l).length := by
        intro hf
        obtain ⟨i1, i2, i3⟩ := ih f hf
        refine ⟨i1, fun x hx => ⟨(i2 x hx).1, .inr ?_⟩, ?_⟩
        · rcases (i2 x hx).2 with h | h
          · cases h
          · simp [h]
        · simp at i3 ⊢; omega
      by_cases h : cur.isEmpty = true
      · rw [if_pos h] at hf
        exact key hf
      · rw [if_neg h] at hf
        rcases List.mem_cons.1 hf with rfl | hf
        · exact ⟨fun e => h (by rw [e]; rfl), fun x hx => ⟨hc x hx, .inl hx⟩, by omega⟩
        · exact key hf
    · rw [if_neg hb] at hf
      have hb' : Lib.isSp b = false := Bool.eq_false_iff.mpr hb
      obtain ⟨i1, i2, i3⟩ := go_mem l (cur ++ [b]) (fun x hx => by
        rcases List.mem_append.1 hx with h | h
        · exact hc x h
        · rw [List.mem_singleton.1 h]; exact hb') f hf
      refine ⟨i1, fun x hx => ⟨(i2 x hx).1, ?_⟩, by simp at i3 ⊢; omega⟩
      rcases (i2 x hx).2 with h | h
      · rcases List.mem_append.1 h with h | h
        · exact .inl h
        · right; rw [List.mem_singleton.1 h]; simp
      · right; simp [h]
theorem split_false {s : ByteArray} {l : List ByteArray} (h : splitP s = (l, false)) : l = [] := by
  unfold splitP at h
  split at h
  · split at h
    · exact (Prod.mk.inj h).1.symm
    · split at h
      · exact absurd (Prod.mk.inj h).2 (by decide)
      · exact (Prod.mk.inj h).1.symm
  · exact (Prod.mk.inj h).1.symm
theorem split_true {s : ByteArray} {l : List ByteArray} (h : splitP s = (l, true)) : ∃ fs : List (List UInt8), l = fs.map ba ∧ fs.length ≤ 24 ∧ ∀ f ∈ fs, f ≠ [] ∧ (∀ b ∈ f, Lib.isSp b = false ∧ badB b = false) ∧ f.length ≤ 600 := by
  have hz : s.data.toList.length = s.size := by rw [Array.length_toList]; rfl
  unfold splitP at h
  split at h
  · rename_i hs
    split at h
    · exact absurd (Prod.mk.inj h).2 (by decide)
    · rename_i ha
      split at h
      · rename_i hl
        refine ⟨Lib.fields s.data.toList, (Prod.mk.inj h).1.symm, by simpa using hl, ?_⟩
        intro f hf
        obtain ⟨i1, i2, i3⟩ := go_mem s.data.toList [] (fun _ h => by cases h) f hf
        have ha2 : s.data.toList.any badB = false := Bool.eq_false_iff.mpr ha
        refine ⟨i1, fun b hb => ⟨(i2 b hb).1, ?_⟩, by simp at i3; omega⟩
        rcases (i2 b hb).2 with h' | h'
        · cases h'
        · exact Bool.eq_false_iff.mpr (List.any_eq_false.1 ha2 b h')
      · exact absurd (Prod.mk.inj h).2 (by decide)
  · exact absurd (Prod.mk.inj h).2 (by decide)
theorem split_join {fs : List (List UInt8)} (hl : fs.length ≤ 24) (h : ∀ f ∈ fs, f ≠ [] ∧ (∀ b ∈ f, Lib.isSp b = false ∧ badB b = false) ∧ f.length ≤ 600) (hs : (ba (joinL fs)).size ≤ 600) : splitP (ba (joinL fs)) = (fs.map ba, true) := by
  unfold splitP
  rw [if_pos hs, ba_list, go_join fs (fun f hf => ⟨(h f hf).1, fun b hb => ((h f hf).2.1 b hb).1⟩)]
  have ha : (joinL fs).any badB = false := by
    rw [List.any_eq_false]
    intro b hb
    unfold joinL at hb
    obtain ⟨f, hf, hb⟩ := List.mem_flatMap.1 hb
    rcases List.mem_append.1 hb with hb | hb
    · exact Bool.eq_false_iff.1 ((h f hf).2.1 b hb).2
    · rw [List.mem_singleton.1 hb]; decide
  rw [ha, if_neg (by decide), if_pos (by simpa using hl)]
theorem same_l0 (l : List ByteArray) (h : l.length ≤ 1000) : ∀ (d i : Nat), i + d = l.length → Ev (fun k => laws_sameTexts.l0 k l l (i : Int)) true := by
  intro d
  induction d with
  | zero =>
    intro i hi
    refine Ev.step (fun k => rfl) ?_
    simp only [laws_sameTexts.l0, show ¬ ((i : Int) < (l.length : Int)) by omega, if_false]
    exact Ev.now _
  | succ d ih =>
    intro i hi
    refine Ev.step (fun k => rfl) ?_
    simp only [laws_sameTexts.l0, show ((i : Int) < (l.length : Int)) by omega, show (0 : Int) ≤ (i : Int) by omega, if_true, wsucc (show i < 4611686018427387904 by omega)]
    exact ih (i + 1) (by omega)
theorem same (l : List ByteArray) (h : l.length ≤ 1000) : Ev (fun k => laws_sameTexts.f k l l) true := by
  unfold laws_sameTexts.f
  simp only [if_true]
  exact same_l0 l h l.length 0 (by omega)
theorem loop (fs : List (List UInt8)) (hl : fs.length ≤ 24) (h : ∀ f ∈ fs, f ≠ [] ∧ (∀ b ∈ f, Lib.isSp b = false ∧ badB b = false) ∧ f.length ≤ 600) : ∀ (d i : Nat) (L : List UInt8), i + d = fs.length → L = joinL (fs.take i) → L.length ≤ 601 * i → Ev (fun k => laws_FnFieldsAgain.l0 k (fs.map ba) true (ba L) (i : Int)) true := by
  have bas : ∀ L : List UInt8, (ba L).size = L.length := fun L => by simp [ba, ByteArray.size]
  intro d
  induction d with
  | zero =>
    intro i L hi hL hz
    refine Ev.step (fun k => rfl) ?_
    have hi2 : fs.take i = fs := List.take_of_length_le (by omega)
    rw [hi2] at hL
    subst hL
    have hm : (fs.map ba).length = fs.length := List.length_map ..
    simp only [laws_FnFieldsAgain.l0, show ¬ ((i : Int) < ((fs.map ba).length : Int)) by omega, if_false, i_split, Option.bind_some, if_true]
    by_cases c : (ba (joinL fs)).size ≤ 600
    · simp only [show ¬ (((ba (joinL fs)).size : Int) > 600) by omega, if_false, split_join hl h c, if_true]
      refine Ev.bind (same _ (by omega)) ?_
      exact Ev.now _
    · simp only [show (((ba (joinL fs)).size : Int) > 600) by omega, if_true]
      exact Ev.now _
  | succ d ih =>
    intro i L hi hL hz
    refine Ev.step (fun k => rfl) ?_
    have hif : i < fs.length := by omega
    have hm : (fs.map ba).length = fs.length := List.length_map ..
    have hr : rdOf ByteArray.empty (fs.map ba) (i : Int) = ba fs[i] := by
      unfold rdOf
      rw [Int.toNat_natCast, List.getD_eq_getElem?_getD, List.getElem?_eq_getElem (by omega)]
      simp
    have hfl := (h fs[i] (List.getElem_mem hif)).2.2
    have hs1 : (ba L ++ ba fs[i]).size = L.length + fs[i].length := by rw [ByteArray.size_append, bas, bas]
    have e : ba L ++ ba fs[i] ++ (⟨#[32]⟩ : ByteArray) = ba (L ++ (fs[i] ++ [32])) := by
      unfold ba
      simp [ByteArray.ext_iff]
    simp only [laws_FnFieldsAgain.l0, show ((i : Int) < ((fs.map ba).length : Int)) by omega, show (0 : Int) ≤ (i : Int) by omega, if_true, hr, bas, show L.length + fs[i].length ≤ 9223372036854775807 by omega, hs1, show L.length + fs[i].length + 1 ≤ 9223372036854775807 by omega, wsucc (show i < 4611686018427387904 by omega), e]
    refine ih (i + 1) (L ++ (fs[i] ++ [32])) (by omega) ?_ (by simp; omega)
    have et : fs.take (i + 1) = fs.take i ++ [fs[i]] := by rw [List.take_add_one, List.getElem?_eq_getElem hif]; rfl
    rw [et, hL]
    unfold joinL
    rw [List.flatMap_append]
    simp only [List.flatMap_cons, List.flatMap_nil, List.append_nil]

theorem FnFieldsAgain : laws_FnFieldsAgain.Pure := by
  intro l _ _ _
  refine Ev.rounds ?_
  unfold laws_FnFieldsAgain.f
  simp only [big_eq, Option.bind_some, decide_eq_true_eq]
  by_cases h : (l.length : Int) > 1048576
  · simp only [h, if_true]; exact Ev.now _
  · simp only [h, if_false]
    obtain ⟨s, e⟩ := drawn l (by omega)
    refine Ev.bind e ?_
    have ss := s_split s
    rw [i_split]
    generalize hm : splitP s = m at ss
    obtain ⟨p, ok⟩ := m
    simp only [Option.bind_some]
    refine Ev.bind ss ?_
    cases ok with
    | true =>
      simp only [if_true]
      obtain ⟨fs, rfl, hl, hf⟩ := split_true hm
      exact loop fs hl hf fs.length 0 [] (by omega) rfl (by simp)
    | false =>
      obtain rfl := split_false hm
      have hF : impl_FormatInt.f (-3) = some ⟨(Lib.itoa (-3)).toArray⟩ := by
        unfold impl_FormatInt.f strconv_Itoa.f
        rw [if_pos (by decide), if_pos (by decide)]
        rfl
      have hI : Lib.itoa (-3) = [45, 51] := by
        unfold Lib.itoa
        rw [if_pos (by decide)]
        show (45 : UInt8) :: Lib.decDigits 3 = _
        rw [Lib.decDigits_one (by omega)]
        rfl
      have h8 : ((ByteArray.toList ⟨([45, 51] : List UInt8).toArray⟩) == ([45, 51] : List UInt8)) = true := by decide +kernel
      simp only [Bool.false_eq_true, if_false, List.length_nil, Int.natCast_zero, if_true, hF, hI, Option.bind_some]
      first
        | (rw [h8]; exact Ev.now _)
        | (simp only [h8, Int.ofNat_eq_natCast, if_true]; exact Ev.now _)

end Go.Proofs.YtpjmlgcpeebkdaaDoor.Pure
