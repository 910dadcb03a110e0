/- slices.Replace over []Id where i < j, walked road by road over raw rows: in place, shrinking, at the end, and grown; conditions: the list's row is the caller's own memory and the new elements lie in another row. -/
import Derived.Test.YtbkkehjhfgocfaaProg
import Derived.Test.YtbkkehjhfgocfaaOwn
import Derived.Below
import Derived.Tactics
import Derived.WalkKit
import Derived.KernelRfl
import Derived.Deep.LoopGhost
import Derived.Deep.QuietTactic
import Derived.BigQuiet
import Derived.WideLaws
import Derived.Deep.RegionHeld3
import Derived.OrdersHeld
import Derived.RowKit
import Derived.RowKit3
import Derived.Laws.Externs
import Derived.Laws.IdiomCopy
import Derived.Lib.SliceRun
import Derived.Shelf.RegionOpenPlain
namespace Go.Proofs.Ytbkkehjhfgocfaa.ReplId
open Go Go.RowKit Go.Proofs.Ytbkkehjhfgocfaa
set_option linter.unusedVariables false
set_option linter.unusedSimpArgs false

theorem info : (Try.prog.info? 36).map (fun i => (i.zero, i.size, i.bytes)) = some (some (.agg #[(.int .i64 0), (.int .i64 0), (.int .i64 0)]), 3, 24) := by kernel_rfl
theorem step_copy {ops : Array Oper} {o : Oper} {a : Act} {w : World} {K : Act → World → Prop} {Q : Exit → Act → World → Prop} {E : Prop} {P : Program}
    (hg : o.guard = none) (d x : Operand) (dT sT : TypeId) (hop : o.op = Op.call { callee := Callee.builtin Builtin.copy, args := #[d, x], argTypes := #[dT, sT] })
    (v u : Value) (hd : a.eval d = v) (hx : a.eval x = u) {v' : Value} {w' : World} (hr : (Builtin.copy_ #[dT, sT] o.type #[v, u]).run P w = .ok v' w') (hK : K (a.put o.dst v') w') :
    if Region.wanted o (yielded ops a.tmps) = true then Oper.wp P o a w K Q else E := by
  have hw : Region.wanted o (yielded ops a.tmps) = true := by simp [Region.wanted, hg]
  rw [if_pos hw]
  unfold Oper.wp
  simp [execOp, hop, resolve, invoke, builtin, hd, hx, hr, Result.andThen]
  exact hK

theorem wrap_nat (a b : Nat) (h : a + b ≤ 9223372036854775807) : IntKind.i64.wrap ((a : Int) + (b : Int)) = (a : Int) + (b : Int) := by rw [IntKind.wrap_i64]; omega

/-- No overlap: two blocks. -/
theorem overlaps_no (W : World) (g vb o la ca lb cb : Nat) (cur cv : Array Value) (hne : g ≠ vb) (hg : W.heap[g]? = some (.cells cur 36 (0, 0))) (hv : W.heap[vb]? = some (.cells cv 36 (0, 0))) (h0 : cv.size ≠ 0) :
    (callFunc 130 #[.slice (some ⟨g, o, none⟩) la ca, .slice (some ⟨vb, 0, none⟩) lb cb]).run Try.prog W = .ok (.value (.bool false)) W := by
  obtain ⟨i, hi, hz⟩ := Option.map_eq_some_iff.1 info
  simp only [Prod.mk.injEq] at hz
  rw [run_callFunc_extern Try.func130 (by kernel_rfl) (by kernel_rfl) (by kernel_rfl) (e := Extern.SlicesOverlaps.overlaps #[24, 24] #[4]) (by kernel_rfl),
    Lib.run_overlaps_apart W 24 4 36 Try.underlying24 3 (fun w => by simp [sizeOf, typeInfo, hi, hz.2.1]) ⟨g, o, none⟩ ⟨vb, 0, none⟩ la ca lb cb hne 36 36 cur.size cv.size (by simp [World.shape?, hg]) (by simp [World.shape?, hv]) h0 (by simp [World.frozen?, hg]) (by simp [World.frozen?, hg])]
  rfl

set_option maxHeartbeats 8000000 in
set_option maxRecDepth 100000 in
theorem shift (w : World) (g cap n i j m vb c' : Nat) (cur : Array Value) (pc : List Value) (hg : w.heap[g]? = some (.cells cur 36 (0, 0))) (hcs : cur.size = cap * 3) (hnc : n ≤ cap) (hcm : cap ≤ 9223372036854775807) (base : Nat) (hb : base ≤ g)
    (hij : i < j) (hjn : j < n) (hm : 0 < m) (hroom : i + m + (n - j) ≤ cap) (hgt : j < i + m) (hne : g ≠ vb) (hv : w.heap[vb]? = some (.cells pc.toArray 36 (0, 0))) (hpl : pc.length = m * 3)
    (h1c : ∀ v ∈ (cur.toList.take (n * 3)), v.oneCell' = true) (h1p : ∀ v ∈ pc, v.oneCell' = true) :
    Calls Try.prog 113 #[.slice (some ⟨g, 0, none⟩) n cap, .int .i64 i, .int .i64 j, .slice (some ⟨vb, 0, none⟩) m c'] w fun e w' =>
      ∃ v', e = .returned v' ∧ Anew base 36 3 g w w' v' (i + m + (n - j)) ((cur.toList.take (n * 3)).take (i * 3) ++ pc ++ (cur.toList.take (n * 3)).drop (j * 3)) := by
  obtain ⟨inf, hinf, hiz⟩ := Option.map_eq_some_iff.1 info
  simp only [Prod.mk.injEq] at hiz
  obtain ⟨_, hisz, hiby⟩ := hiz
  have ht := Try.underlying24
  have mixed : Try.prog.follows Departure.mixedOrders = true := by kernel_rfl
  have hz2 : ¬ ((i : Int) = (j : Int)) := by omega
  have hz3 : ¬ ((j : Int) = (n : Int)) := by omega
  have hz4 : ¬ ((cap : Int) < (i : Int) + (m : Int) + ((n - j : Nat) : Int)) := by omega
  have hz5 : ¬ ((i : Int) + (m : Int) ≤ (j : Int)) := by omega
  have hdl : ((cur.toList.take (n * 3)).drop (j * 3)).length = (n - j) * 3 := by
    have : n * 3 ≤ cap * 3 := Nat.mul_le_mul_right _ hnc
    rw [List.length_drop, List.length_take, Array.length_toList, hcs]; omega
  obtain ⟨tl, htl⟩ : ∃ tl, (cur.toList.take (n * 3)).drop (j * 3) = tl := ⟨_, rfl⟩
  rw [htl] at hdl ⊢
  have hcp1 : ∀ (W : World), W.heap = w.heap → ∀ ty dc sc, (Builtin.copy_ #[24, 24] ty #[.slice (some ⟨g, (i + m) * 3, none⟩) (n - j) dc, .slice (some ⟨g, j * 3, none⟩) (n - j) sc]).run Try.prog W = .ok (goInt ((n - j : Nat) : Int)) (W.setRow g (splice cur ((i + m) * 3) tl)) := fun W hW ty dc sc =>
    run_copy_row W _ _ ty 36 inf ht hinf g ((i + m) * 3) _ _ _ _ _ _ cur tl (by rw [hW]; exact hg) (Nat.min_self _) (by rw [hdl, hisz])
      (fun k v hk => by
        rw [Addr.add_lit, cell_of_row W g _ cur 36 (0, 0) (by rw [hW]; exact hg)]
        rw [← htl, List.getElem?_drop, List.getElem?_take] at hk
        split at hk
        · simpa using hk
        · cases hk)
      (by rw [hdl, hcs]; omega) (fun v hv => h1c v (List.mem_of_mem_drop (by rw [htl]; exact hv)))
  obtain ⟨W1, hW1⟩ : ∃ W1, W1 = w.drew.drew.setRow g (splice cur ((i + m) * 3) tl) := ⟨_, rfl⟩
  have hg1 : W1.heap[g]? = some (.cells (splice cur ((i + m) * 3) tl) 36 (0, 0)) := by rw [hW1]; exact setRow_heap _ g cur _ _ _ hg
  have hv1 : W1.heap[vb]? = some (.cells pc.toArray 36 (0, 0)) := by rw [hW1, setRow_other _ g vb _ (Ne.symm hne)]; exact hv
  have hcp2 : ∀ (W : World), W = W1 → ∀ ty dc, (Builtin.copy_ #[24, 24] ty #[.slice (some ⟨g, i * 3, none⟩) (i + m + (n - j) - i) dc, .slice (some ⟨vb, 0, none⟩) m c']).run Try.prog W = .ok (goInt m) (W.setRow g (splice (splice cur ((i + m) * 3) tl) (i * 3) pc)) := fun W hW ty dc => by
    subst hW
    exact run_copy_row W _ _ ty 36 inf ht hinf g (i * 3) _ _ _ _ _ m _ pc hg1 (by simp only [Nat.min_def]; split <;> omega) (by rw [hpl, hisz])
      (fun k v hk => by
        rw [Addr.add_lit, cell_of_row W vb _ _ 36 (0, 0) hv1]
        simpa using hk)
      (by rw [splice_size _ _ _ (by rw [hdl, hcs]; omega), hpl, hcs]; omega) h1p
  have hov : ∀ la ca lb cb, (callFunc 130 #[.slice (some ⟨g, (i + m) * 3, none⟩) la ca, .slice (some ⟨vb, 0, none⟩) lb cb]).run Try.prog w.drew = .ok (.value (.bool false)) w.drew := fun la ca lb cb =>
    overlaps_no w.drew g vb _ la ca lb cb cur pc.toArray hne hg hv (by simp [hpl]; omega)
  have hw1 : IntKind.i64.wrap ((i : Int) + (m : Int)) = (i : Int) + (m : Int) := by rw [IntKind.wrap_i64]; omega
  have hw2 : IntKind.i64.wrap ((i : Int) + (m : Int) + ((n - j : Nat) : Int)) = (i : Int) + (m : Int) + ((n - j : Nat) : Int) := by rw [IntKind.wrap_i64]; omega
  have hb1 : (i : Int) ≤ (cap : Int) := by omega
  have hb2 : (j : Int) ≤ (n : Int) := by omega
  have hin : i ≤ cap := by omega
  have hjn' : j ≤ n := by omega
  have hci : ¬ (cap = i) := by omega
  have hcj : ¬ (cap = j) := by omega
  have hcim : ¬ (cap = i + m) := by omega
  have hc1 : (0 : Int) ≤ (i : Int) + (m : Int) := by omega
  have hc2 : (i : Int) + (m : Int) ≤ (i : Int) + (m : Int) + ((n - j : Nat) : Int) := by omega
  have hc3 : ((i : Int) + (m : Int)).toNat = i + m := by omega
  go_enter Try.func113, Try.ntmps113
  go_wp2_with (simp only [hov])
  go_region
  go_wp2_with (simp only [hov])
  go_region_law_o (refine step_copy rfl _ _ 24 24 rfl (.slice (some ⟨g, (i + m) * 3, none⟩) (n - j) (cap - (i + m))) (.slice (some ⟨g, j * 3, none⟩) (n - j) (cap - j)) (by simp [Act.eval, Act.put]) (by simp [Act.eval, Act.put]) (hcp1 w.drew.drew rfl _ (cap - (i + m)) (cap - j)) ?_)
  go_wp2_with (refine wpList_copy_run rfl _ _ 24 24 rfl _ _ rfl rfl (hcp2 _ hW1.symm _ _) ?_)
  go_ret
  refine ⟨_, rfl, own_in_place (c := splice (splice cur ((i + m) * 3) tl) (i * 3) pc) hb (setRow_heap _ g _ _ _ _ (setRow_heap _ g cur _ _ _ hg)) (by rw [splice_size _ _ _ (by rw [splice_size _ _ _ (by rw [hdl, hcs]; omega), hpl, hcs]; omega), splice_size _ _ _ (by rw [hdl, hcs]; omega)]; exact hcs) hroom hcm ?_, grown_of_setRow _ _ _ _ (grown_of_setRow _ _ _ _ (grown_of_drew _ _ _ (grown_of_drew _ _ _ (grown_refl _ _)))), .inl rfl⟩
  rw [show (i + m + (n - j)) * 3 = (i + m) * 3 + tl.length by rw [hdl]; omega, splice_ahead cur (i * 3) ((i + m) * 3) pc tl (by rw [hpl]; omega) (by rw [hdl, hcs]; omega), List.take_take, Nat.min_eq_left (by omega)]

set_option maxHeartbeats 8000000 in
set_option maxRecDepth 100000 in
theorem shrink (w : World) (g cap n i j m vb c' : Nat) (cur : Array Value) (pc : List Value) (hg : w.heap[g]? = some (.cells cur 36 (0, 0))) (hcs : cur.size = cap * 3) (hnc : n ≤ cap) (hcm : cap ≤ 9223372036854775807) (base : Nat) (hb : base ≤ g)
    (hjn : j < n) (hm : 0 < m) (hlt : i + m < j) (hne : g ≠ vb) (hv : w.heap[vb]? = some (.cells pc.toArray 36 (0, 0))) (hpl : pc.length = m * 3)
    (h1c : ∀ v ∈ (cur.toList.take (n * 3)), v.oneCell' = true) (h1p : ∀ v ∈ pc, v.oneCell' = true) :
    Calls Try.prog 113 #[.slice (some ⟨g, 0, none⟩) n cap, .int .i64 i, .int .i64 j, .slice (some ⟨vb, 0, none⟩) m c'] w fun e w' =>
      ∃ v', e = .returned v' ∧ Anew base 36 3 g w w' v' (i + m + (n - j)) ((cur.toList.take (n * 3)).take (i * 3) ++ pc ++ (cur.toList.take (n * 3)).drop (j * 3)) := by
  obtain ⟨inf, hinf, hiz⟩ := Option.map_eq_some_iff.1 info
  simp only [Prod.mk.injEq] at hiz
  obtain ⟨hiz, hisz, hiby⟩ := hiz
  have ht := Try.underlying24
  have mixed : Try.prog.follows Departure.mixedOrders = true := by kernel_rfl
  have hz2 : ¬ ((i : Int) = (j : Int)) := by omega
  have hz3 : ¬ ((j : Int) = (n : Int)) := by omega
  have hz4 : ¬ ((cap : Int) < (i : Int) + (m : Int) + ((n - j : Nat) : Int)) := by omega
  have hz5 : (i : Int) + (m : Int) ≤ (j : Int) := by omega
  have hdl : ((cur.toList.take (n * 3)).drop (j * 3)).length = (n - j) * 3 := by
    have : n * 3 ≤ cap * 3 := Nat.mul_le_mul_right _ hnc
    rw [List.length_drop, List.length_take, Array.length_toList, hcs]; omega
  obtain ⟨tl, htl⟩ : ∃ tl, (cur.toList.take (n * 3)).drop (j * 3) = tl := ⟨_, rfl⟩
  rw [htl] at hdl ⊢
  have hcpA : ∀ (W : World), W.heap = w.heap → ∀ ty dc, (Builtin.copy_ #[24, 24] ty #[.slice (some ⟨g, i * 3, none⟩) (i + m + (n - j) - i) dc, .slice (some ⟨vb, 0, none⟩) m c']).run Try.prog W = .ok (goInt m) (W.setRow g (splice cur (i * 3) pc)) := fun W hW ty dc =>
    run_copy_row W _ _ ty 36 inf ht hinf g (i * 3) _ _ _ _ _ m _ pc (by rw [hW]; exact hg) (by simp only [Nat.min_def]; split <;> omega) (by rw [hpl, hisz])
      (fun k v hk => by
        rw [Addr.add_lit, cell_of_row W vb _ _ 36 (0, 0) (by rw [hW]; exact hv)]
        simpa using hk)
      (by rw [hpl, hcs]; omega) h1p
  have hs1 : (splice cur (i * 3) pc).size = cap * 3 := by rw [splice_size _ _ _ (by rw [hpl, hcs]; omega), hcs]
  have hcpB : ∀ (W : World), W.heap[g]? = some (.cells (splice cur (i * 3) pc) 36 (0, 0)) → ∀ ty dc sc, (Builtin.copy_ #[24, 24] ty #[.slice (some ⟨g, (i + m) * 3, none⟩) (n - j) dc, .slice (some ⟨g, j * 3, none⟩) (n - j) sc]).run Try.prog W = .ok (goInt ((n - j : Nat) : Int)) (W.setRow g (splice (splice cur (i * 3) pc) ((i + m) * 3) tl)) := fun W hW ty dc sc =>
    run_copy_row W _ _ ty 36 inf ht hinf g ((i + m) * 3) _ _ _ _ _ _ _ tl hW (Nat.min_self _) (by rw [hdl, hisz])
      (fun k v hk => by
        rw [Addr.add_lit, cell_of_row W g _ _ 36 (0, 0) hW]
        rw [← htl, List.getElem?_drop, List.getElem?_take] at hk
        split at hk
        · have hpa : pc.toArray.size = m * 3 := by simpa using hpl
          rw [← Array.getElem?_toList, splice_toList, List.append_assoc, List.getElem?_append_right (by rw [List.length_take, Array.length_toList]; omega), List.getElem?_append_right (by rw [List.length_take, Array.length_toList]; simp only [hpl, hpa]; omega), List.getElem?_drop, ← hk, Array.getElem?_toList, Array.getElem?_toList]
          congr 1
          simp only [List.length_take, Array.length_toList, hpl, hpa, hcs, Nat.min_eq_left (show i * 3 ≤ cap * 3 by omega)]
          omega
        · cases hk)
      (by rw [hdl, hs1]; omega) (fun v hv => h1c v (List.mem_of_mem_drop (by rw [htl]; exact hv)))
  have hs2 : (splice (splice cur (i * 3) pc) ((i + m) * 3) tl).size = cap * 3 := by rw [splice_size _ _ _ (by rw [hdl, hs1]; omega), hs1]
  obtain ⟨W1, hW1⟩ : ∃ W1, W1 = w.drew.setRow g (splice cur (i * 3) pc) := ⟨_, rfl⟩
  have hg1 : W1.heap[g]? = some (.cells (splice cur (i * 3) pc) 36 (0, 0)) := by rw [hW1]; exact setRow_heap _ g cur _ _ _ hg
  obtain ⟨W2, hW2⟩ : ∃ W2, W2 = W1.drew.setRow g (splice (splice cur (i * 3) pc) ((i + m) * 3) tl) := ⟨_, rfl⟩
  have hg2 : W2.heap[g]? = some (.cells (splice (splice cur (i * 3) pc) ((i + m) * 3) tl) 36 (0, 0)) := by rw [hW2]; exact setRow_heap _ g _ _ _ _ hg1
  have hclr : ∀ c, ∃ zs : List Value, zs.length = (n - (i + m + (n - j))) * 3 ∧ ∀ ty, (Builtin.clear_ #[24] ty #[.slice (some ⟨g, (i + m + (n - j)) * 3, none⟩) (n - (i + m + (n - j))) c]).run Try.prog W2 = .ok (.tuple #[]) (W2.setRow g (splice (splice (splice cur (i * 3) pc) ((i + m) * 3) tl) ((i + m + (n - j)) * 3) zs)) := by
    intro c
    obtain ⟨zs, hzs, hrun⟩ := run_clear_row (P := Try.prog) W2 24 36 inf _ ht hinf hiz g ((i + m + (n - j)) * 3) (n - (i + m + (n - j))) c _ hg2 (by rw [hisz]; rfl) (by omega) (by rw [hs2, hisz]; omega) (by intro v hv; revert v; simp [Value.cells]; decide) (by omega)
    exact ⟨zs, by rw [hzs, hisz], fun ty => hrun ty⟩
  obtain ⟨zs, hzs, hclr⟩ := hclr (cap - (i + m + (n - j)))
  have hw1 : IntKind.i64.wrap ((i : Int) + (m : Int)) = (i : Int) + (m : Int) := by rw [IntKind.wrap_i64]; omega
  have hw2 : IntKind.i64.wrap ((i : Int) + (m : Int) + ((n - j : Nat) : Int)) = (i : Int) + (m : Int) + ((n - j : Nat) : Int) := by rw [IntKind.wrap_i64]; omega
  have hb1 : (i : Int) ≤ (cap : Int) := by omega
  have hb2 : (j : Int) ≤ (n : Int) := by omega
  have hin : i ≤ cap := by omega
  have hjn' : j ≤ n := by omega
  have hci : ¬ (cap = i) := by omega
  have hcj : ¬ (cap = j) := by omega
  have hcim : ¬ (cap = i + m) := by omega
  have hct : ¬ (cap = i + m + (n - j)) := by omega
  have hc1 : (0 : Int) ≤ (i : Int) + (m : Int) := by omega
  have hc2 : (i : Int) + (m : Int) ≤ (i : Int) + (m : Int) + ((n - j : Nat) : Int) := by omega
  have hc3 : ((i : Int) + (m : Int)).toNat = i + m := by omega
  subst hW2
  subst hW1
  go_enter Try.func113, Try.ntmps113
  go_wp2
  go_region
  go_wp2_with (refine wpList_copy_run rfl _ _ 24 24 rfl _ _ rfl rfl (hcpA w.drew rfl _ _) ?_)
  go_region_law_o (refine step_copy rfl _ _ 24 24 rfl (.slice (some ⟨g, (i + m) * 3, none⟩) (n - j) (cap - (i + m))) (.slice (some ⟨g, j * 3, none⟩) (n - j) (cap - j)) (by simp [Act.eval, Act.put]) (by simp [Act.eval, Act.put]) (hcpB (w.drew.setRow g (splice cur (i * 3) pc)).drew hg1 _ (cap - (i + m)) (cap - j)) ?_)
  go_wp2_with (refine wpList_clear_run rfl _ 24 rfl _ rfl (hclr _) ?_)
  go_ret
  have hs3 : (splice (splice (splice cur (i * 3) pc) ((i + m) * 3) tl) ((i + m + (n - j)) * 3) zs).size = cap * 3 := by rw [splice_size _ _ _ (by rw [hzs, hs2]; omega), hs2]
  refine ⟨_, rfl, own_in_place (c := splice (splice (splice cur (i * 3) pc) ((i + m) * 3) tl) ((i + m + (n - j)) * 3) zs) hb (setRow_heap _ g _ _ _ _ hg2) hs3 (by omega) hcm ?_, grown_of_setRow _ _ _ _ (grown_of_setRow _ _ _ _ (grown_of_drew _ _ _ (grown_of_setRow _ _ _ _ (grown_of_drew _ _ _ (grown_refl _ _))))), .inl rfl⟩
  rw [splice_take _ _ _ (by rw [hs2]; omega), show (i + m + (n - j)) * 3 = (i + m) * 3 + tl.length by rw [hdl]; omega, splice_behind cur (i * 3) ((i + m) * 3) pc tl (by rw [hpl]; omega) (by rw [hdl, hcs]; omega), List.take_take, Nat.min_eq_left (by omega)]

set_option maxHeartbeats 8000000 in
set_option maxRecDepth 100000 in
theorem end_room (w : World) (g cap n i m vb c' : Nat) (cur : Array Value) (pc : List Value) (hg : w.heap[g]? = some (.cells cur 36 (0, 0))) (hcs : cur.size = cap * 3) (hnc : n ≤ cap) (hcm : cap ≤ 9223372036854775807) (base : Nat) (hb : base ≤ g)
    (hij : i < n) (hm : 0 < m) (hroom : i + m ≤ cap) (hge : n ≤ i + m) (hne : g ≠ vb) (hv : w.heap[vb]? = some (.cells pc.toArray 36 (0, 0))) (hpl : pc.length = m * 3) (h1p : ∀ v ∈ pc, v.oneCell' = true) :
    Calls Try.prog 113 #[.slice (some ⟨g, 0, none⟩) n cap, .int .i64 i, .int .i64 n, .slice (some ⟨vb, 0, none⟩) m c'] w fun e w' =>
      ∃ v', e = .returned v' ∧ Anew base 36 3 g w w' v' (i + m) ((cur.toList.take (n * 3)).take (i * 3) ++ pc) := by
  obtain ⟨inf, hinf, hiz⟩ := Option.map_eq_some_iff.1 info
  simp only [Prod.mk.injEq] at hiz
  obtain ⟨hiz, hisz, hiby⟩ := hiz
  have ht := Try.underlying24
  have hcl : cur.toList.length = cap * 3 := by rw [Array.length_toList, hcs]
  have hz2 : ¬ ((i : Int) = (n : Int)) := by omega
  have hap : ∀ ty, (Builtin.append_ #[24, 24] ty #[.slice (some ⟨g, 0, none⟩) i cap, .slice (some ⟨vb, 0, none⟩) m c']).run Try.prog w = .ok (.slice (some ⟨g, 0, none⟩) (i + m) cap) (w.setRow g (splice cur (i * 3) pc)) := fun ty => by
    have h := run_append_room (P := Try.prog) w 24 ty 36 inf ht hinf g i cap cur hg ⟨vb, 0, none⟩ m c' pc (by rw [hpl, hisz]) (fun k v hk => by
        rw [Addr.add_lit, cell_of_row w vb _ _ 36 (0, 0) hv]
        simpa using hk) h1p hroom (by rw [hpl, hcs, hisz]; omega)
    rw [hisz] at h
    exact h
  have hb1 : (i : Int) ≤ (cap : Int) := by omega
  have hin : i ≤ cap := by omega
  have hin2 : i ≤ n := by omega
  have hci : ¬ (cap = i) := by omega
  have hc2 : ¬ (((i + m : Nat) : Int) < (n : Int)) := by omega
  have hc3 : ¬ ((i : Int) + (m : Int) < (n : Int)) := by omega
  go_enter Try.func113, Try.ntmps113
  go_wp2_with (refine wpList_append_run rfl _ _ 24 24 rfl _ _ rfl rfl (hap _) ?_)
  go_ret
  refine ⟨_, rfl, own_in_place (c := splice cur (i * 3) pc) hb (setRow_heap _ g _ _ _ _ hg) (by rw [splice_size _ _ _ (by rw [hpl, hcs]; omega)]; exact hcs) hroom hcm ?_, grown_of_setRow _ _ _ _ (grown_refl _ _), .inl rfl⟩
  rw [splice_toList, show (i + m) * 3 = i * 3 + pc.length by rw [hpl]; omega, List.take_take, Nat.min_eq_left (by omega), List.take_append_of_le_length (by rw [List.length_append, List.length_take, hcl]; omega)]
  exact List.take_of_length_le (by rw [List.length_append, List.length_take]; omega)

set_option maxHeartbeats 8000000 in
set_option maxRecDepth 100000 in
theorem end_less (w : World) (g cap n i m vb c' : Nat) (cur : Array Value) (pc : List Value) (hg : w.heap[g]? = some (.cells cur 36 (0, 0))) (hcs : cur.size = cap * 3) (hnc : n ≤ cap) (hcm : cap ≤ 9223372036854775807) (base : Nat) (hb : base ≤ g)
    (hm : 0 < m) (hlt : i + m < n) (hne : g ≠ vb) (hv : w.heap[vb]? = some (.cells pc.toArray 36 (0, 0))) (hpl : pc.length = m * 3) (h1p : ∀ v ∈ pc, v.oneCell' = true) :
    Calls Try.prog 113 #[.slice (some ⟨g, 0, none⟩) n cap, .int .i64 i, .int .i64 n, .slice (some ⟨vb, 0, none⟩) m c'] w fun e w' =>
      ∃ v', e = .returned v' ∧ Anew base 36 3 g w w' v' (i + m) ((cur.toList.take (n * 3)).take (i * 3) ++ pc) := by
  obtain ⟨inf, hinf, hiz⟩ := Option.map_eq_some_iff.1 info
  simp only [Prod.mk.injEq] at hiz
  obtain ⟨hiz, hisz, hiby⟩ := hiz
  have ht := Try.underlying24
  have hcl : cur.toList.length = cap * 3 := by rw [Array.length_toList, hcs]
  have hz2 : ¬ ((i : Int) = (n : Int)) := by omega
  have hap : ∀ ty, (Builtin.append_ #[24, 24] ty #[.slice (some ⟨g, 0, none⟩) i cap, .slice (some ⟨vb, 0, none⟩) m c']).run Try.prog w = .ok (.slice (some ⟨g, 0, none⟩) (i + m) cap) (w.setRow g (splice cur (i * 3) pc)) := fun ty => by
    have h := run_append_room (P := Try.prog) w 24 ty 36 inf ht hinf g i cap cur hg ⟨vb, 0, none⟩ m c' pc (by rw [hpl, hisz]) (fun k v hk => by
        rw [Addr.add_lit, cell_of_row w vb _ _ 36 (0, 0) hv]
        simpa using hk) h1p (by omega) (by rw [hpl, hcs, hisz]; omega)
    rw [hisz] at h
    exact h
  have hs1 : (splice cur (i * 3) pc).size = cap * 3 := by rw [splice_size _ _ _ (by rw [hpl, hcs]; omega), hcs]
  have hg1 : (w.setRow g (splice cur (i * 3) pc)).heap[g]? = some (.cells (splice cur (i * 3) pc) 36 (0, 0)) := setRow_heap _ g cur _ _ _ hg
  have hclr : ∀ c, ∃ zs : List Value, zs.length = (n - (i + m)) * 3 ∧ ∀ ty, (Builtin.clear_ #[24] ty #[.slice (some ⟨g, (i + m) * 3, none⟩) (n - (i + m)) c]).run Try.prog (w.setRow g (splice cur (i * 3) pc)) = .ok (.tuple #[]) ((w.setRow g (splice cur (i * 3) pc)).setRow g (splice (splice cur (i * 3) pc) ((i + m) * 3) zs)) := by
    intro c
    obtain ⟨zs, hzs, hrun⟩ := run_clear_row (P := Try.prog) (w.setRow g (splice cur (i * 3) pc)) 24 36 inf _ ht hinf hiz g ((i + m) * 3) (n - (i + m)) c _ hg1 (by rw [hisz]; rfl) (by omega) (by rw [hs1, hisz]; omega) (by intro v hv; revert v; simp [Value.cells]; decide) (by omega)
    exact ⟨zs, by rw [hzs, hisz], fun ty => hrun ty⟩
  obtain ⟨zs, hzs, hclr⟩ := hclr (cap - (i + m))
  have hb1 : (i : Int) ≤ (cap : Int) := by omega
  have hin : i ≤ cap := by omega
  have hin2 : i ≤ n := by omega
  have him : i + m ≤ n := by omega
  have hci : ¬ (cap = i) := by omega
  have hcim : ¬ (cap = i + m) := by omega
  have hc2 : ((i + m : Nat) : Int) < (n : Int) := by omega
  have hc3 : (i : Int) + (m : Int) < (n : Int) := by omega
  have hc4 : (0 : Int) ≤ (i : Int) + (m : Int) := by omega
  have hc5 : (i : Int) + (m : Int) ≤ (n : Int) := by omega
  have hc6 : ((i : Int) + (m : Int)).toNat = i + m := by omega
  go_enter Try.func113, Try.ntmps113
  go_wp2_with (first
    | refine wpList_append_run rfl _ _ 24 24 rfl _ _ rfl rfl (hap _) ?_
    | refine wpList_clear_run rfl _ 24 rfl _ rfl (hclr _) ?_)
  go_ret
  have hs2 : (splice (splice cur (i * 3) pc) ((i + m) * 3) zs).size = cap * 3 := by rw [splice_size _ _ _ (by rw [hzs, hs1]; omega), hs1]
  refine ⟨_, rfl, own_in_place (c := splice (splice cur (i * 3) pc) ((i + m) * 3) zs) hb (setRow_heap _ g _ _ _ _ hg1) hs2 (by omega) hcm ?_, grown_of_setRow _ _ _ _ (grown_of_setRow _ _ _ _ (grown_refl _ _)), .inl rfl⟩
  rw [splice_take _ _ _ (by rw [hs1]; omega), splice_toList, show (i + m) * 3 = i * 3 + pc.length by rw [hpl]; omega, List.take_take, Nat.min_eq_left (by omega), List.take_append_of_le_length (by rw [List.length_append, List.length_take, hcl]; omega)]
  exact List.take_of_length_le (by rw [List.length_append, List.length_take]; omega)

set_option maxHeartbeats 8000000 in
set_option maxRecDepth 100000 in
theorem end_grow (w : World) (g cap n i m vb c' : Nat) (cur : Array Value) (pc : List Value) (hg : w.heap[g]? = some (.cells cur 36 (0, 0))) (hcs : cur.size = cap * 3) (hnc : n ≤ cap) (hcm : cap ≤ 9223372036854775807) (base : Nat) (hb : base ≤ g)
    (hbig : (i + m) * 24 ≤ 140737488355328) (hij : i < n) (hroom : cap < i + m) (hne : g ≠ vb) (hv : w.heap[vb]? = some (.cells pc.toArray 36 (0, 0))) (hpl : pc.length = m * 3) :
    Calls Try.prog 113 #[.slice (some ⟨g, 0, none⟩) n cap, .int .i64 i, .int .i64 n, .slice (some ⟨vb, 0, none⟩) m c'] w fun e w' =>
      ∃ v', e = .returned v' ∧ Anew base 36 3 g w w' v' (i + m) ((cur.toList.take (n * 3)).take (i * 3) ++ pc) := by
  obtain ⟨inf, hinf, hiz⟩ := Option.map_eq_some_iff.1 info
  simp only [Prod.mk.injEq] at hiz
  obtain ⟨hiz, hisz, hiby⟩ := hiz
  have ht := Try.underlying24
  have hcl : cur.toList.length = cap * 3 := by rw [Array.length_toList, hcs]
  have hz2 : ¬ ((i : Int) = (n : Int)) := by omega
  have hol : (cur.toList.take (i * 3)).length = i * 3 := by rw [List.length_take, hcl]; omega
  obtain ⟨G, hG⟩ : ∃ G, grownCap w (i + m) cap 36 = G := ⟨_, rfl⟩
  obtain ⟨Z, hZ⟩ : ∃ Z, Builtin.zeroCells (Value.cells (.agg #[(.int .i64 0), (.int .i64 0), (.int .i64 0)])) (G - (i + m)) = Z := ⟨_, rfl⟩
  have hZs : Z.size = (G - (i + m)) * 3 := by rw [← hZ, size_zeroCells]; rfl
  have hGn : i + m ≤ G := by rw [← hG]; exact grownCap_ge w _ _ _
  have hG63 : G ≤ maxLen := by rw [← hG]; exact grownCap_le_maxLen w (i + m) cap 36 (by unfold maxLen; omega)
  have hap : ∀ ty, (Builtin.append_ #[24, 24] ty #[.slice (some ⟨g, 0, none⟩) i cap, .slice (some ⟨vb, 0, none⟩) m c']).run Try.prog w = .ok (.slice (some ⟨w.heap.size, 0, none⟩) (i + m) G) (w.drew.alloc (.cells ((cur.toList.take (i * 3)).toArray ++ pc.toArray ++ Z) 36)) := fun ty => by
    have h := run_append_grow (P := Try.prog) w 24 ty 36 inf _ ht hinf hiz ⟨g, 0, none⟩ i cap (cur.toList.take (i * 3)) (by rw [hol, hisz]) (fun k v hk => by
        rw [Addr.add_lit, cell_of_row w g _ _ 36 (0, 0) hg]
        rw [List.getElem?_take] at hk
        split at hk
        · simpa using hk
        · cases hk) ⟨vb, 0, none⟩ m c' pc (by rw [hpl, hisz]) (fun k v hk => by
        rw [Addr.add_lit, cell_of_row w vb _ _ 36 (0, 0) hv]
        simpa using hk) hroom (by omega) (growslice_fits hroom (by rw [hiby]; exact hbig))
    rw [hG, hZ] at h
    exact h
  have hb1 : (i : Int) ≤ (cap : Int) := by omega
  have hin : i ≤ cap := by omega
  have hin2 : i ≤ n := by omega
  have hci : ¬ (cap = i) := by omega
  have hc2 : ¬ (((i + m : Nat) : Int) < (n : Int)) := by omega
  have hc3 : ¬ ((i : Int) + (m : Int) < (n : Int)) := by omega
  go_enter Try.func113, Try.ntmps113
  go_wp2_with (refine wpList_append_run rfl _ _ 24 24 rfl _ _ rfl rfl (hap _) ?_)
  go_ret
  have hbw : g < w.heap.size := (Array.getElem?_eq_some_iff.1 hg).1
  refine ⟨_, rfl, ⟨?_, .inr ⟨w.heap.size, G, _, rfl, by omega, heap_alloc_new w.drew _, hGn, hG63, ?_, ?_⟩⟩, grown_of_alloc _ _ _ _ (grown_of_drew _ _ _ (grown_refl _ _)), .inr ⟨w.heap.size, rfl, Nat.le_refl _⟩⟩
  · rw [List.length_append, List.take_take, Nat.min_eq_left (by omega), hol, hpl]; omega
  · simp only [Array.size_append, List.size_toArray, List.length_append, hol, hpl, hZs]; omega
  · simp only [Array.toList_append, List.take_take, Nat.min_eq_left (show i * 3 ≤ n * 3 by omega)]
    rw [show (i + m) * 3 = (cur.toList.take (i * 3) ++ pc).length by rw [List.length_append, hol, hpl]; omega]
    exact List.take_left

set_option maxHeartbeats 8000000 in
set_option maxRecDepth 100000 in
theorem grow (w : World) (g cap n i j m vb c' : Nat) (cur : Array Value) (pc : List Value) (hg : w.heap[g]? = some (.cells cur 36 (0, 0))) (hcs : cur.size = cap * 3) (hnc : n ≤ cap) (hcm : cap ≤ 9223372036854775807) (base : Nat) (hb : base ≤ g)
    (hij : i < j) (hjn : j < n) (hm : 0 < m) (hbig : (i + m + (n - j)) * 24 ≤ 140737488355328) (hroom : cap < i + m + (n - j)) (hne : g ≠ vb) (hv : w.heap[vb]? = some (.cells pc.toArray 36 (0, 0))) (hpl : pc.length = m * 3)
    (h1c : ∀ v ∈ (cur.toList.take (n * 3)), v.oneCell' = true) (h1p : ∀ v ∈ pc, v.oneCell' = true) :
    Calls Try.prog 113 #[.slice (some ⟨g, 0, none⟩) n cap, .int .i64 i, .int .i64 j, .slice (some ⟨vb, 0, none⟩) m c'] w fun e w' =>
      ∃ v', e = .returned v' ∧ Anew base 36 3 g w w' v' (i + m + (n - j)) ((cur.toList.take (n * 3)).take (i * 3) ++ pc ++ (cur.toList.take (n * 3)).drop (j * 3)) := by
  obtain ⟨inf, hinf, hiz⟩ := Option.map_eq_some_iff.1 info
  simp only [Prod.mk.injEq] at hiz
  obtain ⟨hiz, hisz, hiby⟩ := hiz
  have ht := Try.underlying24
  have mixed : Try.prog.follows Departure.mixedOrders = true := by kernel_rfl
  have hbw : g < w.heap.size := (Array.getElem?_eq_some_iff.1 hg).1
  have hvw : vb < w.heap.size := (Array.getElem?_eq_some_iff.1 hv).1
  have hcl : cur.toList.length = cap * 3 := by rw [Array.length_toList, hcs]
  have hz2 : ¬ ((i : Int) = (j : Int)) := by omega
  have hz3 : ¬ ((j : Int) = (n : Int)) := by omega
  have hz4 : (cap : Int) < (i : Int) + (m : Int) + ((n - j : Nat) : Int) := by omega
  have hol : (cur.toList.take (i * 3)).length = i * 3 := by rw [List.length_take, hcl]; omega
  have hdl : ((cur.toList.take (n * 3)).drop (j * 3)).length = (n - j) * 3 := by
    have : n * 3 ≤ cap * 3 := Nat.mul_le_mul_right _ hnc
    rw [List.length_drop, List.length_take, hcl]; omega
  obtain ⟨tl, htl⟩ : ∃ tl, (cur.toList.take (n * 3)).drop (j * 3) = tl := ⟨_, rfl⟩
  rw [htl] at hdl ⊢
  obtain ⟨G, hG⟩ : ∃ G, grownCap w.drew (i + m + (n - j)) cap 36 = G := ⟨_, rfl⟩
  have hGn : i + m + (n - j) ≤ G := by rw [← hG]; exact grownCap_ge w.drew _ _ _
  have hG63 : G ≤ maxLen := by rw [← hG]; exact grownCap_le_maxLen w.drew _ cap 36 (by unfold maxLen; omega)
  have hG63' : G ≤ 9223372036854775807 := by unfold maxLen at hG63; omega
  have hik : i + (m + (n - j)) = i + m + (n - j) := by omega
  have hold : (Builtin.firstCells inf.size i (.slice (some ⟨g, 0, none⟩) i cap)).run Try.prog w.drew.drew = .ok (cur.toList.take (i * 3)).toArray w.drew.drew :=
    run_firstCells_some w.drew.drew inf.size i ⟨g, 0, none⟩ i cap (cur.toList.take (i * 3)) (by rw [hol, hisz]) (fun k v hk => by
        rw [Addr.add_lit, cell_of_row w.drew.drew g _ _ 36 (0, 0) hg]
        rw [List.getElem?_take] at hk
        split at hk
        · simpa using hk
        · cases hk)
  obtain ⟨ROW, hROW⟩ : ∃ ROW, (cur.toList.take (i * 3)).toArray ++ Builtin.zeroCells (Value.cells (.agg #[(.int .i64 0), (.int .i64 0), (.int .i64 0)])) (m + (n - j)) ++ Builtin.zeroCells (Value.cells (.agg #[(.int .i64 0), (.int .i64 0), (.int .i64 0)])) (G - (i + m + (n - j))) = ROW := ⟨_, rfl⟩
  have hap : ∀ ty, (Builtin.append_ #[24, 3] ty #[.slice (some ⟨g, 0, none⟩) i cap, .int .i64 ((i : Int) + (m : Int) + ((n - j : Nat) : Int) - (i : Int))]).run Try.prog w.drew = .ok (.slice (some ⟨w.heap.size, 0, none⟩) (i + m + (n - j)) G) (w.drew.drew.alloc (.cells ROW 36)) := fun ty => by
    have h := Lib.run_append_grow_zeros (P := Try.prog) w.drew 24 3 ty 36 inf _ .i64 .i64 ht Try.underlying3 hinf hiz (some ⟨g, 0, none⟩) i cap (cur.toList.take (i * 3)) hold (m + (n - j)) (by omega) (by omega) (by omega) (by omega) (by rw [hiby]; omega) (by rw [hiby, hik]; exact growslice_fits hroom hbig)
    rw [hik, hG, hROW] at h
    rw [show (i : Int) + (m : Int) + ((n - j : Nat) : Int) - (i : Int) = ((m + (n - j) : Nat) : Int) by omega]
    exact h
  have hRs : ROW.size = G * 3 := by
    rw [← hROW]
    simp only [Array.size_append, List.size_toArray, hol, size_zeroCells, show (Value.cells (.agg #[(.int .i64 0), (.int .i64 0), (.int .i64 0)])).size = 3 from rfl]
    omega
  have hRt : ROW.toList.take (i * 3) = cur.toList.take (i * 3) := by
    rw [← hROW, Array.toList_append, Array.toList_append, List.append_assoc]
    have := List.take_left (l₁ := cur.toList.take (i * 3)) (l₂ := (Builtin.zeroCells (Value.cells (.agg #[(.int .i64 0), (.int .i64 0), (.int .i64 0)])) (m + (n - j))).toList ++ (Builtin.zeroCells (Value.cells (.agg #[(.int .i64 0), (.int .i64 0), (.int .i64 0)])) (G - (i + m + (n - j)))).toList)
    rwa [hol] at this
  have hgN : (w.drew.drew.alloc (.cells ROW 36)).heap[w.heap.size]? = some (.cells ROW 36 (0, 0)) := heap_alloc_new w.drew.drew _
  have hgO : (w.drew.drew.alloc (.cells ROW 36)).heap[g]? = some (.cells cur 36 (0, 0)) := (heap_alloc_old w.drew.drew _ hbw).trans hg
  have hvO : (w.drew.drew.alloc (.cells ROW 36)).heap[vb]? = some (.cells pc.toArray 36 (0, 0)) := (heap_alloc_old w.drew.drew _ hvw).trans hv
  obtain ⟨W0, hW0⟩ : ∃ W0, w.drew.drew.alloc (.cells ROW 36) = W0 := ⟨_, rfl⟩
  have hgr0 : w.grownBy W0 (some g) := by rw [← hW0]; exact grown_of_alloc _ _ _ _ (grown_of_drew _ _ _ (grown_of_drew _ _ _ (grown_refl _ _)))
  rw [hW0] at hgN hgO hvO hap
  have hcpA : ∀ ty dc, (Builtin.copy_ #[24, 24] ty #[.slice (some ⟨w.heap.size, i * 3, none⟩) (i + m + (n - j) - i) dc, .slice (some ⟨vb, 0, none⟩) m c']).run Try.prog W0 = .ok (goInt m) (W0.setRow w.heap.size (splice ROW (i * 3) pc)) := fun ty dc =>
    run_copy_row W0 _ _ ty 36 inf ht hinf w.heap.size (i * 3) _ _ _ _ _ m _ pc hgN (by simp only [Nat.min_def]; split <;> omega) (by rw [hpl, hisz])
      (fun k v hk => by
        rw [Addr.add_lit, cell_of_row W0 vb _ _ 36 (0, 0) hvO]
        simpa using hk)
      (by rw [hpl, hRs]; omega) h1p
  have hs1 : (splice ROW (i * 3) pc).size = G * 3 := by rw [splice_size _ _ _ (by rw [hpl, hRs]; omega), hRs]
  obtain ⟨W1, hW1⟩ : ∃ W1, W0.setRow w.heap.size (splice ROW (i * 3) pc) = W1 := ⟨_, rfl⟩
  have hg1 : W1.heap[w.heap.size]? = some (.cells (splice ROW (i * 3) pc) 36 (0, 0)) := by rw [← hW1]; exact setRow_heap _ _ _ _ _ _ hgN
  have hgO1 : W1.heap[g]? = some (.cells cur 36 (0, 0)) := by rw [← hW1, setRow_other _ _ _ _ (by omega)]; exact hgO
  have hgr1 : w.grownBy W1 (some g) := by rw [← hW1]; exact grown_of_new _ _ _ _ _ (Nat.le_refl _) hgr0
  rw [hW1] at hcpA
  have hcpB : ∀ ty dc sc, (Builtin.copy_ #[24, 24] ty #[.slice (some ⟨w.heap.size, (i + m) * 3, none⟩) (n - j) dc, .slice (some ⟨g, j * 3, none⟩) (n - j) sc]).run Try.prog W1.drew = .ok (goInt ((n - j : Nat) : Int)) (W1.drew.setRow w.heap.size (splice (splice ROW (i * 3) pc) ((i + m) * 3) tl)) := fun ty dc sc =>
    run_copy_row W1.drew _ _ ty 36 inf ht hinf w.heap.size ((i + m) * 3) _ _ _ _ _ _ _ tl hg1 (Nat.min_self _) (by rw [hdl, hisz])
      (fun k v hk => by
        rw [Addr.add_lit, cell_of_row W1.drew g _ cur 36 (0, 0) hgO1]
        rw [← htl, List.getElem?_drop, List.getElem?_take] at hk
        split at hk
        · simpa using hk
        · cases hk)
      (by rw [hdl, hs1]; omega) (fun v hv => h1c v (List.mem_of_mem_drop (by rw [htl]; exact hv)))
  have hw1 : IntKind.i64.wrap ((i : Int) + (m : Int)) = (i : Int) + (m : Int) := by rw [IntKind.wrap_i64]; omega
  have hw2 : IntKind.i64.wrap ((i : Int) + (m : Int) + ((n - j : Nat) : Int)) = (i : Int) + (m : Int) + ((n - j : Nat) : Int) := by rw [IntKind.wrap_i64]; omega
  have hw3 : IntKind.i64.wrap ((i : Int) + (m : Int) + ((n - j : Nat) : Int) - (i : Int)) = (i : Int) + (m : Int) + ((n - j : Nat) : Int) - (i : Int) := by rw [IntKind.wrap_i64]; omega
  have hb1 : (i : Int) ≤ (cap : Int) := by omega
  have hb2 : (j : Int) ≤ (n : Int) := by omega
  have hin : i ≤ cap := by omega
  have hin2 : i ≤ n := by omega
  have hjn' : j ≤ n := by omega
  have hci : ¬ (cap = i) := by omega
  have hcj : ¬ (cap = j) := by omega
  have hGi : ¬ (G = i) := by omega
  have hGim : ¬ (G = i + m) := by omega
  have hit : i ≤ i + m + (n - j) := by omega
  have hc1 : (0 : Int) ≤ (i : Int) + (m : Int) := by omega
  have hc2 : (i : Int) + (m : Int) ≤ (i : Int) + (m : Int) + ((n - j : Nat) : Int) := by omega
  have hc3 : ((i : Int) + (m : Int)).toNat = i + m := by omega
  clear hold hG hROW hW0 hW1
  go_enter Try.func113, Try.ntmps113
  go_wp2
  go_region
  go_wp2_with (first
    | refine wpList_append_run rfl _ _ _ _ rfl _ _ rfl rfl (hap _) ?_
    | refine wpList_copy_run rfl _ _ 24 24 rfl _ _ rfl rfl (hcpA _ _) ?_)
  go_region_law_o (refine step_copy rfl _ _ 24 24 rfl (.slice (some ⟨w.heap.size, (i + m) * 3, none⟩) (n - j) (G - (i + m))) (.slice (some ⟨g, j * 3, none⟩) (n - j) (cap - j)) (by simp [Act.eval, Act.put]) (by simp [Act.eval, Act.put]) (hcpB _ (G - (i + m)) (cap - j)) ?_)
  go_wp2
  go_ret
  refine ⟨_, rfl, ⟨?_, .inr ⟨w.heap.size, G, _, rfl, by omega, setRow_heap _ _ _ _ _ _ hg1, hGn, hG63, by rw [splice_size _ _ _ (by rw [hdl, hs1]; omega), hs1], ?_⟩⟩, grown_of_new _ _ _ _ _ (Nat.le_refl _) (grown_of_drew _ _ _ hgr1), .inr ⟨w.heap.size, rfl, Nat.le_refl _⟩⟩
  · rw [List.length_append, List.length_append, List.take_take, Nat.min_eq_left (by omega), hol, hpl, hdl]; omega
  · rw [show (i + m + (n - j)) * 3 = (i + m) * 3 + tl.length by rw [hdl]; omega, splice_behind ROW (i * 3) ((i + m) * 3) pc tl (by rw [hpl]; omega) (by rw [hdl, hRs]; omega), hRt, List.take_take, Nat.min_eq_left (by omega)]

/-- slices.Replace where i < j: the list's row anew, with the new elements in the place of those from i to j. -/
theorem calls (base : Nat) (v : Value) (n i j m vb c' : Nat) (xs pc : List Value) (w : World) (ho : w.ownsRow base 36 3 v n xs) (hij : i < j) (hjn : j ≤ n) (hm : 0 < m) (hbig : (n + m) * 24 ≤ 140737488355328)
    (hne : v.ownBlock ≠ some vb) (hv : w.heap[vb]? = some (.cells pc.toArray 36 (0, 0))) (hpl : pc.length = m * 3) (hneq : i + m ≠ j) (h1c : ∀ u ∈ xs, u.oneCell' = true) (h1p : ∀ u ∈ pc, u.oneCell' = true) :
    Calls Try.prog 113 #[v, .int .i64 i, .int .i64 j, .slice (some ⟨vb, 0, none⟩) m c'] w fun e w' =>
      ∃ v' g, v.ownBlock = some g ∧ e = .returned v' ∧ Anew base 36 3 g w w' v' (i + m + (n - j)) (xs.take (i * 3) ++ pc ++ xs.drop (j * 3)) := by
  rcases ho.2 with ⟨_, h0⟩ | ⟨g, cap, cur, rfl, hb, hg, hnc, hcm, hcs, htake⟩
  · omega
  have hcm : cap ≤ 9223372036854775807 := by unfold maxLen at hcm; omega
  have hne' : g ≠ vb := fun e => hne (by rw [e]; rfl)
  subst htake
  have key : Calls Try.prog 113 #[.slice (some ⟨g, 0, none⟩) n cap, .int .i64 i, .int .i64 j, .slice (some ⟨vb, 0, none⟩) m c'] w fun e w' =>
      ∃ v', e = .returned v' ∧ Anew base 36 3 g w w' v' (i + m + (n - j)) ((cur.toList.take (n * 3)).take (i * 3) ++ pc ++ (cur.toList.take (n * 3)).drop (j * 3)) := by
    by_cases hjn' : j = n
    · subst hjn'
      have e1 : (cur.toList.take (j * 3)).drop (j * 3) = [] := List.drop_eq_nil_of_le (by rw [List.length_take]; omega)
      rw [e1, List.append_nil, Nat.sub_self, Nat.add_zero]
      by_cases hr : i + m ≤ cap
      · by_cases hge : j ≤ i + m
        · exact end_room w g cap j i m vb c' cur pc hg hcs hnc hcm base hb (by omega) hm hr hge hne' hv hpl h1p
        · exact end_less w g cap j i m vb c' cur pc hg hcs hnc hcm base hb hm (by omega) hne' hv hpl h1p
      · exact end_grow w g cap j i m vb c' cur pc hg hcs hnc hcm base hb (by omega) (by omega) (by omega) hne' hv hpl
    · by_cases hr : i + m + (n - j) ≤ cap
      · by_cases hlt : i + m < j
        · exact shrink w g cap n i j m vb c' cur pc hg hcs hnc hcm base hb (by omega) hm hlt hne' hv hpl h1c h1p
        · exact shift w g cap n i j m vb c' cur pc hg hcs hnc hcm base hb hij (by omega) hm hr (by omega) hne' hv hpl h1c h1p
      · exact grow w g cap n i j m vb c' cur pc hg hcs hnc hcm base hb hij (by omega) hm (by omega) (by omega) hne' hv hpl h1c h1p
  refine key.mono ?_
  rintro e w' ⟨v', rfl, h⟩
  exact ⟨v', g, rfl, rfl, h⟩
end Go.Proofs.Ytbkkehjhfgocfaa.ReplId
