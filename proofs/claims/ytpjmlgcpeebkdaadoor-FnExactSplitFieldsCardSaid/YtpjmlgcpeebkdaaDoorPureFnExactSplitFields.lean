/- SplitFields of the program and of the reference answer alike, for every line (one of more than 1048576 bytes is passed over by the statement itself), and its results share no memory with one another; no condition. -/
import Derived.Test.YtpjmlgcpeebkdaaDoorCFnExactSplitFields
import Derived.Lib.Fields
set_option linter.unusedSimpArgs false
set_option linter.unusedVariables false
namespace Go.Proofs.YtpjmlgcpeebkdaaDoor.Pure
open Go.RowKit Go.Proofs.YtpjmlgcpeebkdaaDoor.PFnExactSplitFields Go.Proofs.YtpjmlgcpeebkdaaDoorW.PrintWords Go.Proofs.YtpjmlgcpeebkdaaDoorW.PrintLast Go.Proofs.YtpjmlgcpeebkdaaDoorW.PrintMore Go.Proofs.YtpjmlgcpeebkdaaDoor.CoreFnExactSplitFields

theorem toList_loop (s : ByteArray) : ∀ (d i : Nat) (r : List UInt8), s.size - i = d → ByteArray.toList.loop s i r = r.reverse ++ s.data.toList.drop i := by
  intro d
  induction d with
  | zero =>
    intro i r h
    have hl : s.data.toList.length = s.size := by rw [Array.length_toList]; rfl
    rw [ByteArray.toList.loop, if_neg (by omega), List.drop_eq_nil_of_le (by omega), List.append_nil]
  | succ d ih =>
    intro i r h
    have hl : s.data.toList.length = s.size := by rw [Array.length_toList]; rfl
    have hi : i < s.data.toList.length := by omega
    have hg : s.get! i = s.data.toList[i] := by
      show s.data[i]! = _
      rw [getElem!_pos s.data i (by rw [Array.length_toList] at hi; exact hi)]
      simp
    rw [ByteArray.toList.loop, if_pos (by omega), ih (i + 1) _ (by omega), List.drop_eq_getElem_cons hi, hg]
    simp
theorem toList_data (s : ByteArray) : s.toList = s.data.toList := by
  unfold ByteArray.toList
  rw [toList_loop s s.size 0 [] rfl]
  simp

/-! the fields of a line -/
abbrev badB (b : UInt8) : Bool := impl_SplitFields.p (b.toNat : Int)
theorem badB_iff (b : UInt8) : badB b = true ↔ (b.toNat < 32 ∨ 126 < b.toNat) := by
  unfold badB impl_SplitFields.p
  simp
  omega
theorem isSp_good {b : UInt8} (h : ¬ (b.toNat < 32 ∨ 126 < b.toNat)) : Lib.isSp b = decide (b.toNat = 32) := by
  have e : ∀ n : UInt8, (b == n) = decide (b.toNat = n.toNat) := fun n => by
    rw [Bool.eq_iff_iff, beq_iff_eq, decide_eq_true_iff]
    exact UInt8.toNat_inj.symm
  unfold Lib.isSp
  rw [e 9, e 10, e 11, e 12, e 13, e 32]
  have c9 : (9 : UInt8).toNat = 9 := rfl
  have c10 : (10 : UInt8).toNat = 10 := rfl
  have c11 : (11 : UInt8).toNat = 11 := rfl
  have c12 : (12 : UInt8).toNat = 12 := rfl
  have c13 : (13 : UInt8).toNat = 13 := rfl
  have c32 : (32 : UInt8).toNat = 32 := rfl
  rw [c9, c10, c11, c12, c13, c32]
  rw [decide_eq_false (show ¬ b.toNat = 9 by omega), decide_eq_false (show ¬ b.toNat = 10 by omega), decide_eq_false (show ¬ b.toNat = 11 by omega), decide_eq_false (show ¬ b.toNat = 12 by omega), decide_eq_false (show ¬ b.toNat = 13 by omega)]
  simp
def ba (l : List UInt8) : ByteArray := ⟨l.toArray⟩
theorem ba_list (l : List UInt8) : (ba l).data.toList = l := by simp [ba]
theorem ba_of (s : ByteArray) : ba s.data.toList = s := by cases s; simp [ba]
def splitP (s : ByteArray) : List ByteArray × Bool := if s.size ≤ 600 then (if s.data.toList.any badB = true then ([], false) else (if ((Lib.fields s.data.toList).map ba).length ≤ 24 then ((Lib.fields s.data.toList).map ba, true) else ([], false))) else ([], false)
theorem i_split (s : ByteArray) : impl_SplitFields.f s = some (splitP s) := by
  unfold impl_SplitFields.f splitP
  have e : (bytesOf s).any impl_SplitFields.p = s.data.toList.any badB := by unfold bytesOf; rw [List.any_map]; rfl
  rw [e]
  split
  · split
    · rfl
    · show (if ((Lib.fields s.data.toList).map ba).length ≤ 24 then some ((Lib.fields s.data.toList).map ba, true) else some ([], false)) = _
      split <;> rfl
  · rfl
theorem split_len (s : ByteArray) : (splitP s).1.length ≤ 24 := by
  unfold splitP
  split
  · split
    · simp
    · split
      · rename_i h; exact h
      · simp
  · simp
theorem extract_list (s : ByteArray) (b e : Nat) : (s.extract b e).data.toList = (s.data.toList.take e).drop b := by
  have : (s.extract b e).data = s.data.extract b e := by simp
  rw [this, Array.toList_extract, List.extract_eq_take_drop, List.drop_take]
theorem bt_list (s : ByteArray) (i : Nat) (h : i < s.data.toList.length) : bt s (i : Int) = ((s.data.toList[i]).toNat : Int) := by
  have hs : (i : Int).toNat < s.size := by rw [Int.toNat_natCast]; simpa using h
  rw [← bt_at s (i : Int) hs]
  simp only [Int.toNat_natCast]
  rfl
theorem take_snoc (L : List UInt8) (b i : Nat) (h : i < L.length) (hb : b ≤ i) : (L.take (i + 1)).drop b = (L.take i).drop b ++ [L[i]] := by
  rw [List.take_add_one, List.getElem?_eq_getElem h]
  simp only [Option.toList_some]
  rw [List.drop_append_of_le_length (by rw [List.length_take]; omega)]
def endP (out : List ByteArray) (cur l : List UInt8) : List ByteArray × Bool := if l.any badB = true then ([], false) else (if (out ++ (Lib.fieldsGo cur l).map ba).length ≤ 24 then (out ++ (Lib.fieldsGo cur l).map ba, true) else ([], false))
theorem s_split_l0 (s : ByteArray) (hs : s.size ≤ 600) : ∀ (d i b : Nat) (out : List ByteArray), i + d = s.size → b ≤ i → out.length ≤ i → Ev (fun k => spec_SplitFields.l0 k s out (b : Int) (i : Int)) (endP out ((s.data.toList.take i).drop b) (s.data.toList.drop i)) := by
  have hl : s.data.toList.length = s.size := by rw [Array.length_toList]; rfl
  intro d
  induction d with
  | zero =>
    intro i b out hi hb ho
    have hd : s.data.toList.drop i = [] := List.drop_eq_nil_of_le (by omega)
    rw [hd]
    refine Ev.step (fun k => rfl) ?_
    simp only [spec_SplitFields.l0, show ((i : Int) ≤ (s.size : Int)) by omega, show ¬ ((i : Int) < (s.size : Int)) by omega, if_true, if_false]
    refine Ev.step (fun k => rfl) ?_
    simp only [spec_SplitFields.j1, Bool.false_eq_true, show ¬ ((i : Int) < (s.size : Int)) by omega, if_false]
    refine Ev.step (fun k => rfl) ?_
    have fin : ∀ (o : List ByteArray) (b' : Int), Ev (fun k => spec_SplitFields.l0 k s o b' (wrap64 ((i : Int) + 1))) (if o.length ≤ 24 then (o, true) else ([], false)) := by
      intro o b'
      refine Ev.step (fun k => rfl) ?_
      simp only [spec_SplitFields.l0, wsucc (show i < 4611686018427387904 by omega), show ¬ (((i + 1 : Nat) : Int) ≤ (s.size : Int)) by omega, if_false]
      by_cases h : o.length ≤ 24
      · simp only [h, show ¬ ((o.length : Int) > 24) by omega, if_true, if_false]
        exact Ev.now _
      · simp only [h, show ((o.length : Int) > 24) by omega, if_true, if_false]
        exact Ev.now _
    simp only [spec_SplitFields.j2, Bool.false_eq_true, if_false]
    by_cases hbi : b < i
    · simp only [show ((b : Int) < (i : Int)) by omega, show (0 : Int) ≤ (b : Int) by omega, show (b : Int) ≤ (i : Int) by omega, show (i : Int) ≤ (s.size : Int) by omega, show out.length < 8796093022208 by omega, if_true, Int.toNat_natCast]
      have e1 : s.extract b i = ba ((s.data.toList.take i).drop b) := by rw [← extract_list, ba_of]
      have e2 : ((s.data.toList.take i).drop b).isEmpty = false := by
        rw [List.isEmpty_eq_false_iff]
        intro e
        have := congrArg List.length e
        simp at this
        omega
      rw [e1]
      have := fin (out ++ [ba ((s.data.toList.take i).drop b)]) (wrap64 ((i : Int) + 1))
      unfold endP
      simp only [List.any_nil, Bool.false_eq_true, if_false, Lib.fieldsGo, e2, List.map_cons, List.map_nil]
      exact this
    · simp only [show ¬ ((b : Int) < (i : Int)) by omega, if_false]
      have e2 : ((s.data.toList.take i).drop b) = [] := List.drop_eq_nil_of_le (by rw [List.length_take]; omega)
      have := fin out (wrap64 ((i : Int) + 1))
      unfold endP
      rw [e2]
      simp only [List.any_nil, Bool.false_eq_true, if_false, Lib.fieldsGo, List.isEmpty_nil, if_true, List.map_nil, List.append_nil]
      exact this
  | succ d ih =>
    intro i b out hi hb ho
    have hil : i < s.data.toList.length := by omega
    have hbt := bt_list s i hil
    have hsn := take_snoc s.data.toList b i hil hb
    have hself : (s.data.toList.take (i + 1)).drop (i + 1) = [] := List.drop_eq_nil_of_le (by rw [List.length_take]; omega)
    rw [List.drop_eq_getElem_cons hil]
    generalize hx : s.data.toList[i] = x at hbt hsn
    refine Ev.step (fun k => rfl) ?_
    simp only [spec_SplitFields.l0, show ((i : Int) ≤ (s.size : Int)) by omega, show ((i : Int) < (s.size : Int)) by omega, show (0 : Int) ≤ (i : Int) by omega, if_true, hbt]
    by_cases hbad : x.toNat < 32 ∨ 126 < x.toNat
    · have hE : endP out ((s.data.toList.take i).drop b) (x :: s.data.toList.drop (i + 1)) = ([], false) := by
        unfold endP
        rw [List.any_cons, (badB_iff x).2 hbad, Bool.true_or, if_pos rfl]
      rw [hE]
      by_cases h1 : (x.toNat : Int) < 32
      · simp only [h1, if_true]
        refine Ev.step (fun k => rfl) ?_
        simp only [spec_SplitFields.j1, if_true]
        exact Ev.now _
      · simp only [h1, if_false, show decide ((x.toNat : Int) > 126) = true from decide_eq_true (by omega)]
        refine Ev.step (fun k => rfl) ?_
        simp only [spec_SplitFields.j1, if_true]
        exact Ev.now _
    · have hgood : badB x = false := by
        rw [Bool.eq_false_iff]
        exact fun e => hbad ((badB_iff x).1 e)
      have hsp := isSp_good hbad
      simp only [show ¬ ((x.toNat : Int) < 32) by omega, if_false, show decide ((x.toNat : Int) > 126) = false from decide_eq_false (by omega)]
      refine Ev.step (fun k => rfl) ?_
      simp only [spec_SplitFields.j1, Bool.false_eq_true, show ((i : Int) < (s.size : Int)) by omega, show (0 : Int) ≤ (i : Int) by omega, if_true, if_false, hbt]
      refine Ev.step (fun k => rfl) ?_
      by_cases h32 : x.toNat = 32
      · have e32 : ((x.toNat : Int) != 32) = false := by rw [h32]; rfl
        have hspt : Lib.isSp x = true := by rw [hsp]; exact decide_eq_true h32
        simp only [spec_SplitFields.j2, e32, Bool.false_eq_true, if_false]
        by_cases hbi : b < i
        · simp only [show ((b : Int) < (i : Int)) by omega, show (0 : Int) ≤ (b : Int) by omega, show (b : Int) ≤ (i : Int) by omega, show (i : Int) ≤ (s.size : Int) by omega, show out.length < 8796093022208 by omega, if_true, Int.toNat_natCast]
          have e1 : s.extract b i = ba ((s.data.toList.take i).drop b) := by rw [← extract_list, ba_of]
          have e2 : ((s.data.toList.take i).drop b).isEmpty = false := by
            rw [List.isEmpty_eq_false_iff]
            intro e
            have := congrArg List.length e
            simp at this
            omega
          rw [e1, wsucc (show i < 4611686018427387904 by omega)]
          have := ih (i + 1) (i + 1) (out ++ [ba ((s.data.toList.take i).drop b)]) (by omega) (Nat.le_refl _) (by simp; omega)
          rw [hself] at this
          have hE : endP out ((s.data.toList.take i).drop b) (x :: s.data.toList.drop (i + 1)) = endP (out ++ [ba ((s.data.toList.take i).drop b)]) [] (s.data.toList.drop (i + 1)) := by
            unfold endP
            simp only [List.any_cons, hgood, Bool.false_or, Lib.fieldsGo, hspt, e2, if_true, Bool.false_eq_true, if_false, List.map_cons, List.append_assoc, List.singleton_append]
          rw [hE]
          exact this
        · simp only [show ¬ ((b : Int) < (i : Int)) by omega, if_false]
          have e2 : ((s.data.toList.take i).drop b) = [] := List.drop_eq_nil_of_le (by rw [List.length_take]; omega)
          rw [wsucc (show i < 4611686018427387904 by omega)]
          have := ih (i + 1) (i + 1) out (by omega) (Nat.le_refl _) (by omega)
          rw [hself] at this
          have hE : endP out ((s.data.toList.take i).drop b) (x :: s.data.toList.drop (i + 1)) = endP out [] (s.data.toList.drop (i + 1)) := by
            unfold endP
            rw [e2]
            simp only [List.any_cons, hgood, Bool.false_or, Lib.fieldsGo, hspt, List.isEmpty_nil, if_true]
          rw [hE]
          exact this
      · have e32 : ((x.toNat : Int) != 32) = true := by
          rw [bne_iff_ne]
          exact fun e => h32 (by exact_mod_cast e)
        have hspt : Lib.isSp x = false := by rw [hsp]; exact decide_eq_false h32
        simp only [spec_SplitFields.j2, e32, if_true, wsucc (show i < 4611686018427387904 by omega)]
        have := ih (i + 1) b out (by omega) (by omega) (by omega)
        rw [hsn] at this
        have hE : endP out ((s.data.toList.take i).drop b) (x :: s.data.toList.drop (i + 1)) = endP out ((s.data.toList.take i).drop b ++ [x]) (s.data.toList.drop (i + 1)) := by
          unfold endP
          simp only [List.any_cons, hgood, Bool.false_or, Lib.fieldsGo, hspt, Bool.false_eq_true, if_false]
        rw [hE]
        exact this
theorem s_split (s : ByteArray) : Ev (fun k => spec_SplitFields.f k s) (splitP s) := by
  unfold spec_SplitFields.f splitP
  simp only [Option.bind_some]
  by_cases h : s.size ≤ 600
  · simp only [show ¬ ((s.size : Int) > 600) by omega, if_false, h, if_true]
    have := s_split_l0 s h s.size 0 0 [] (by omega) (by omega) (by simp)
    simpa [endP, Lib.fields] using this
  · simp only [show ((s.size : Int) > 600) by omega, if_true, h, if_false]
    exact Ev.now _

/-! the marks -/
theorem mark_text_l0 : ∀ (m : Nat) (n : Int) (acc : ByteArray), 0 ≤ n → n < 10 ^ m → n ≤ 1000000 → acc.size + m ≤ 1000000 → ∃ t, Ev (fun k => laws_markText.l0 k n acc) t := by
  intro m
  induction m with
  | zero =>
    intro n acc h0 h1 hn1 hs
    refine ⟨(⟨#[109]⟩ : ByteArray) ++ acc, Ev.step (fun k => rfl) ?_⟩
    have h2 : n < 1 := h1
    simp only [laws_markText.l0, show ¬ (n > 0) by omega, if_false, show 1 + acc.size ≤ 9223372036854775807 by omega, if_true]
    exact Ev.now _
  | succ m ih =>
    intro n acc h0 h1 hn1 hs
    by_cases hn : n > 0
    · have hp : (10 : Int) ^ (m + 1) = 10 ^ m * 10 := Int.pow_succ ..
      have hd : Int.tdiv n 10 = n / 10 := Int.tdiv_eq_ediv_of_nonneg h0
      have h2 : 0 ≤ n / 10 := by omega
      have h3 : n / 10 < 10 ^ m := by rw [hp] at h1; omega
      have ew : wrap64 (Int.tdiv n 10) = n / 10 := by rw [hd]; exact w64 (by omega) (by omega)
      have hz : ∀ x : Int, (strOfNums [x]).size = 1 := fun x => by simp [strOfNums, ByteArray.size]
      obtain ⟨t, ht⟩ := ih (n / 10) (strOfNums [wrap64 (48 + Int.tmod n 10) % 256] ++ acc) h2 h3 (by omega) (by rw [ByteArray.size_append, hz]; omega)
      refine ⟨t, Ev.step (fun k => rfl) ?_⟩
      simp only [laws_markText.l0, hn, if_true, Option.bind_some, ew]
      simp only [hz, show 1 + acc.size ≤ 9223372036854775807 by omega, if_true]
      exact ht
    · refine ⟨(⟨#[109]⟩ : ByteArray) ++ acc, Ev.step (fun k => rfl) ?_⟩
      simp only [laws_markText.l0, hn, if_false, show 1 + acc.size ≤ 9223372036854775807 by omega, if_true]
      exact Ev.now _
theorem mark_text (n : Int) (h0 : 1 ≤ n) (h1 : n ≤ 1000000) : ∃ t, Ev (fun k => laws_markText.f k n) t := by
  have h7 : (10 : Int) ^ 7 = 10000000 := by decide
  obtain ⟨t, ht⟩ := mark_text_l0 7 n ⟨#[]⟩ (by omega) (by rw [h7]; omega) h1 (by decide)
  refine ⟨t, ?_⟩
  unfold laws_markText.f
  simp only [show ¬ (n ≤ 0) by omega, if_false]
  exact ht
open Classical in
noncomputable def mtx (n : Int) : ByteArray := if h : ∃ t, Ev (fun k => laws_markText.f k n) t then Classical.choose h else ⟨#[]⟩
theorem mtx_ev (n : Int) (h0 : 1 ≤ n) (h1 : n ≤ 1000000) : Ev (fun k => laws_markText.f k n) (mtx n) := by
  have h := mark_text n h0 h1
  unfold mtx
  rw [dif_pos h]
  exact Classical.choose_spec h
noncomputable def markS (kk : Int) : Nat → List ByteArray
  | 0 => []
  | n + 1 => mtx kk :: markS (kk + 1) n
theorem markS_len : ∀ (n : Nat) (kk : Int), (markS kk n).length = n
  | 0, _ => rfl
  | n + 1, kk => by simp [markS, markS_len n]
theorem set_at (pre : List ByteArray) (x y : ByteArray) (r : List ByteArray) : (pre ++ x :: r).set ((pre.length : Int)).toNat y = pre ++ y :: r := by
  rw [Int.toNat_natCast, List.set_append_right _ _ (Nat.le_refl _)]; simp
theorem rd_at (pre : List ByteArray) (x : ByteArray) (r : List ByteArray) : rdOf ByteArray.empty (pre ++ x :: r) (pre.length : Int) = x := by
  unfold rdOf
  rw [Int.toNat_natCast]
  simp
theorem mark_l0 : ∀ (rest pre : List ByteArray) (kk : Int), pre.length + rest.length ≤ 1000 → 1 ≤ kk → kk ≤ 1 + pre.length → Ev (fun k => laws_markStringS.l0 k (pre ++ rest) kk (pre.length : Int)) (kk + rest.length, pre ++ markS kk rest.length) := by
  intro rest
  induction rest with
  | nil =>
    intro pre kk h h0 h1
    refine Ev.step (fun k => rfl) ?_
    simp only [laws_markStringS.l0, show ¬ ((pre.length : Int) < ((pre ++ ([] : List ByteArray)).length : Int)) by simp, if_false]
    simpa [markS] using Ev.now (kk, pre)
  | cons x r ih =>
    intro pre kk h h0 h1
    rw [List.length_cons] at h
    refine Ev.step (fun k => rfl) ?_
    simp only [laws_markStringS.l0, show (pre.length : Int) < ((pre ++ x :: r).length : Int) by simp; omega, if_true]
    refine Ev.bind (mtx_ev kk h0 (by omega)) ?_
    simp only [show (0 : Int) ≤ (pre.length : Int) by omega, if_true, set_at]
    rw [w64 (n := kk + 1) (by omega) (by omega), wsucc (show pre.length < 4611686018427387904 by omega)]
    have := ih (pre ++ [mtx kk]) (kk + 1) (by simp; omega) (by omega) (by simp; omega)
    rw [List.append_assoc, List.append_assoc] at this
    simp only [List.singleton_append, List.length_append, List.length_singleton] at this
    simp only [markS, List.length_cons]
    rw [show kk + ((r.length + 1 : Nat) : Int) = kk + 1 + (r.length : Int) by omega]
    exact this
theorem mark_ev (l : List ByteArray) (h : l.length ≤ 1000) : Ev (fun k => laws_markStringS.f k l 1) (1 + l.length, markS 1 l.length) := by
  have := mark_l0 l [] 1 (by simpa using h) (by omega) (by simp)
  simpa [laws_markStringS.f] using this
theorem held_l0 : ∀ (n : Nat) (pre : List ByteArray) (kk : Int), pre.length + n ≤ 1000 → 1 ≤ kk → kk ≤ 1 + pre.length → Ev (fun k => laws_heldStringS.l0 k (pre ++ markS kk n) kk (pre.length : Int)) (kk + n) := by
  intro n
  induction n with
  | zero =>
    intro pre kk h h0 h1
    refine Ev.step (fun k => rfl) ?_
    simp only [markS, laws_heldStringS.l0, show ¬ ((pre.length : Int) < ((pre ++ ([] : List ByteArray)).length : Int)) by simp, if_false]
    simpa using Ev.now kk
  | succ n ih =>
    intro pre kk h h0 h1
    refine Ev.step (fun k => rfl) ?_
    simp only [markS, laws_heldStringS.l0, show (pre.length : Int) < ((pre ++ mtx kk :: markS (kk + 1) n).length : Int) by simp; omega, show (0 : Int) ≤ (pre.length : Int) by omega, if_true, rd_at]
    refine Ev.bind (mtx_ev kk h0 (by omega)) ?_
    simp only [if_true]
    rw [w64 (n := kk + 1) (by omega) (by omega), wsucc (show pre.length < 4611686018427387904 by omega)]
    have := ih (pre ++ [mtx kk]) (kk + 1) (by simp; omega) (by omega) (by simp; omega)
    rw [List.append_assoc] at this
    simp only [List.singleton_append, List.length_append, List.length_singleton] at this
    rw [show kk + ((n + 1 : Nat) : Int) = kk + 1 + (n : Int) by omega]
    exact this
theorem held_ev (n : Nat) (h : n ≤ 1000) : Ev (fun k => laws_heldStringS.f k (markS 1 n) 1) (1 + n) := by
  have := held_l0 n [] 1 (by simpa using h) (by omega) (by simp)
  simpa [laws_heldStringS.f] using this
theorem eqS_l0 (l : List ByteArray) (h : l.length ≤ 1000) : ∀ (d i : Nat), i + d = l.length → Ev (fun k => laws_eqStringS.l0 k l l (i : Int)) true := by
  intro d
  induction d with
  | zero =>
    intro i hi
    refine Ev.step (fun k => rfl) ?_
    simp only [laws_eqStringS.l0, show ¬ ((i : Int) < (l.length : Int)) by omega, if_false]
    exact Ev.now _
  | succ d ih =>
    intro i hi
    refine Ev.step (fun k => rfl) ?_
    simp only [laws_eqStringS.l0, show ((i : Int) < (l.length : Int)) by omega, show (0 : Int) ≤ (i : Int) by omega, if_true, wsucc (show i < 4611686018427387904 by omega)]
    exact ih (i + 1) (by omega)
theorem eqS (l : List ByteArray) (h : l.length ≤ 1000) : Ev (fun k => laws_eqStringS.f k l l) true := by
  unfold laws_eqStringS.f
  simp only [if_true]
  exact eqS_l0 l h l.length 0 (by omega)

theorem FnExactSplitFields : laws_FnExactSplitFields.Pure := by
  intro s _
  refine Ev.rounds ?_
  unfold laws_FnExactSplitFields.f
  by_cases hs : (s.size : Int) > 1048576
  · simp only [hs, if_true]
    exact Ev.now true
  · simp only [hs, if_false]
    refine Ev.bind (s_split s) ?_
    have hl := split_len s
    have ip := i_split s
    generalize hm : splitP s = m at hl ip
    obtain ⟨l, ok⟩ := m
    simp only at hl
    simp only [ip, Option.bind_some]
    refine Ev.bind (eqS l (by omega)) ?_
    simp only [if_true, bne_self_eq_false]
    refine Ev.step (fun k => rfl) ?_
    simp only [laws_FnExactSplitFields.j0, Bool.false_eq_true, if_false]
    refine Ev.bind (mark_ev l (by omega)) ?_
    refine Ev.bind (held_ev l.length (by omega)) ?_
    have h2 : ¬ ((1 : Int) + (l.length : Int) < 0) := by omega
    simp only [h2, if_true, if_false, ip, Option.bind_some]
    refine Ev.bind (eqS l (by omega)) ?_
    simp only [if_true, bne_self_eq_false]
    refine Ev.step (fun k => rfl) ?_
    simp only [laws_FnExactSplitFields.j1, Bool.false_eq_true, if_false]
    refine Ev.bind (held_ev l.length (by omega)) ?_
    simp only [h2, if_true, if_false]
    exact Ev.now _

end Go.Proofs.YtpjmlgcpeebkdaaDoor.Pure
