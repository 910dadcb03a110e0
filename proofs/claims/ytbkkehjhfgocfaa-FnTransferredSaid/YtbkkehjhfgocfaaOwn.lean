/- Laws of no program: what 'copy', 'clear' and 'append' do to one row of the call's own, at elements of any size; conditions: the row is plain memory and long enough. -/
import Derived.Laws.AppendOwn
import Derived.Laws.CopyRow
import Derived.Laws.IdiomCopy
import Derived.Lib.AppendZerosOnto
import Derived.Lib.Overlaps
import Derived.Lib.SliceRun
import Derived.WalkKit
set_option linter.unusedVariables false
set_option linter.unusedSimpArgs false
namespace Go.Proofs.Ytbkkehjhfgocfaa
open Go

/-- The cells of a row with cs written at o. -/
def splice (cur : Array Value) (o : Nat) (cs : List Value) : Array Value := (cur.toList.take o ++ cs ++ cur.toList.drop (o + cs.length)).toArray

theorem splice_size (cur : Array Value) (o : Nat) (cs : List Value) (h : o + cs.length ≤ cur.size) : (splice cur o cs).size = cur.size := by
  simp only [splice, List.size_toArray, List.length_append, List.length_take, List.length_drop, Array.length_toList]
  omega

theorem splice_toList (cur : Array Value) (o : Nat) (cs : List Value) : (splice cur o cs).toList = cur.toList.take o ++ cs ++ cur.toList.drop (o + cs.length) := by simp [splice]

theorem splice_take (cur : Array Value) (p : Nat) (zs : List Value) (h : p ≤ cur.size) : (splice cur p zs).toList.take p = cur.toList.take p := by
  rw [splice_toList, List.append_assoc, List.take_append_of_le_length (by rw [List.length_take, Array.length_toList]; omega), List.take_take, Nat.min_self]

theorem splice_behind (cur : Array Value) (a o : Nat) (pc tl : List Value) (ho : o = a + pc.length) (h : o + tl.length ≤ cur.size) :
    (splice (splice cur a pc) o tl).toList.take (o + tl.length) = cur.toList.take a ++ pc ++ tl := by
  have h1 : (splice cur a pc).toList.take o = cur.toList.take a ++ pc := by
    rw [splice_toList, List.take_append_of_le_length (by rw [List.length_append, List.length_take, Array.length_toList]; omega)]
    exact List.take_of_length_le (by rw [List.length_append, List.length_take]; omega)
  rw [splice_toList, h1, List.take_append_of_le_length (by simp only [List.length_append, List.length_take, Array.length_toList]; omega)]
  exact List.take_of_length_le (by simp only [List.length_append, List.length_take]; omega)

theorem splice_ahead (cur : Array Value) (a o : Nat) (pc tl : List Value) (ho : o = a + pc.length) (h : o + tl.length ≤ cur.size) :
    (splice (splice cur o tl) a pc).toList.take (o + tl.length) = cur.toList.take a ++ pc ++ tl := by
  have hl : (cur.toList.take o).length = o := by rw [List.length_take, Array.length_toList]; omega
  have h1 : (splice cur o tl).toList.take a = cur.toList.take a := by
    rw [splice_toList, List.append_assoc, List.take_append_of_le_length (by rw [hl]; omega), List.take_take]
    congr 1; omega
  have h2 : (splice cur o tl).toList.drop o = tl ++ cur.toList.drop (o + tl.length) := by
    rw [splice_toList, List.append_assoc]
    have := List.drop_left (l₁ := cur.toList.take o) (l₂ := tl ++ cur.toList.drop (o + tl.length))
    rwa [hl] at this
  rw [splice_toList, h1, ← ho, h2, ← List.append_assoc, List.take_append_of_le_length (by simp only [List.length_append, List.length_take, Array.length_toList]; omega)]
  exact List.take_of_length_le (by simp only [List.length_append, List.length_take]; omega)

theorem own_in_place {w' : World} {base g cap tot size : Nat} {e : TypeId} {c : Array Value} {ys : List Value} (hb : base ≤ g) (hg : w'.heap[g]? = some (.cells c e (0, 0))) (hc : c.size = cap * size) (htot : tot ≤ cap) (hcm : cap ≤ 9223372036854775807)
    (hy : c.toList.take (tot * size) = ys) : w'.ownsRow base e size (.slice (some ⟨g, 0, none⟩) tot cap) tot ys :=
  ⟨by rw [← hy, List.length_take, Array.length_toList, hc]; exact Nat.min_eq_left (Nat.mul_le_mul_right _ htot), .inr ⟨g, cap, c, rfl, hb, hg, htot, by simp only [maxLen]; omega, hc, hy⟩⟩

theorem grown_of_setRow (w W : World) (g : Nat) (cs : Array Value) (h : w.grownBy W (some g)) : w.grownBy (W.setRow g cs) (some g) :=
  ⟨h.os, h.tape, h.output, by rw [setRow_size]; exact h.size, fun k hk hne => by rw [setRow_other _ _ _ _ (fun e => hne (by rw [e]))]; exact h.block k hk hne⟩
theorem grown_of_drew (w W : World) (r : Option Nat) (h : w.grownBy W r) : w.grownBy W.drew r := ⟨h.os, h.tape, h.output, h.size, h.block⟩
theorem grown_refl (w : World) (r : Option Nat) : w.grownBy w r := ⟨rfl, rfl, rfl, Nat.le_refl _, fun _ _ _ => rfl⟩
theorem grown_of_alloc (w W : World) (o : Obj) (r : Option Nat) (h : w.grownBy W r) : w.grownBy (W.alloc o) r :=
  ⟨h.os, h.tape, h.output, by have := h.size; simp; omega, fun k hk hne => (heap_alloc_old W o (Nat.lt_of_lt_of_le hk h.size)).trans (h.block k hk hne)⟩
theorem grown_of_new (w W : World) (g b : Nat) (cs : Array Value) (hb : w.heap.size ≤ b) (h : w.grownBy W (some g)) : w.grownBy (W.setRow b cs) (some g) :=
  ⟨h.os, h.tape, h.output, by rw [setRow_size]; exact h.size, fun k hk hne => by rw [setRow_other _ _ _ _ (by omega)]; exact h.block k hk hne⟩

/-- What comes of a list's row when it is written anew: the same row, or a new one. -/
def Anew (base : Nat) (e : TypeId) (size g : Nat) (w w' : World) (v' : Value) (tot : Nat) (ys : List Value) : Prop :=
  w'.ownsRow base e size v' tot ys ∧ w.grownBy w' (some g) ∧ (v'.ownBlock = some g ∨ ∃ b, v'.ownBlock = some b ∧ w.heap.size ≤ b)

variable {P : Program}

theorem run_copy_row (w : World) (dT sT ty elem : TypeId) (i : TypeInfo) (hu : P.underlying dT = some (.slice elem)) (hi : P.info? elem = some i) (g o dLen dCap : Nat) (a : Addr) (sLen sCap n : Nat) (cur : Array Value) (cs : List Value)
    (hg : w.heap[g]? = some (.cells cur elem (0, 0))) (hmin : Nat.min sLen dLen = n) (hn : cs.length = n * i.size)
    (hsrc : ∀ j v, cs[j]? = some v → w.cell? (a.add j) = some v) (hfit : o + cs.length ≤ cur.size) (h1 : ∀ v ∈ cs, v.oneCell' = true) :
    (Builtin.copy_ #[dT, sT] ty #[.slice (some ⟨g, o, none⟩) dLen dCap, .slice (some a) sLen sCap]).run P w = .ok (goInt n) (w.setRow g (splice cur o cs)) := by
  have hl := run_firstCells_some (P := P) w i.size n a sLen sCap cs hn hsrc
  have hst := run_storeCells_at P g o elem cs 0 cur w hg (by simpa using hfit) h1
  simp only [Nat.add_zero] at hst
  simp [Builtin.copy_, run_underlying hu, Builtin.lenOf, sizeOf, typeInfo, hi, hmin, hl, hst, splice]

theorem run_clear_row (w : World) (t elem : TypeId) (i : TypeInfo) (z : Value) (hu : P.underlying t = some (.slice elem)) (hi : P.info? elem = some i) (hz : i.zero = some z) (g o n c : Nat) (cur : Array Value)
    (hg : w.heap[g]? = some (.cells cur elem (0, 0))) (hzs : z.cells.size = i.size) (hn0 : 0 < n) (hfit : o + n * i.size ≤ cur.size) (h1 : ∀ v ∈ z.cells, v.oneCell' = true) (hs0 : 0 < i.size) :
    ∃ zs : List Value, zs.length = n * i.size ∧ ∀ ty, (Builtin.clear_ #[t] ty #[.slice (some ⟨g, o, none⟩) n c]).run P w = .ok (.tuple #[]) (w.setRow g (splice cur o zs)) := by
  have hzl : (Builtin.zeroCells z.cells n).toList.length = n * i.size := by simp [Builtin.zeroCells, hzs]
  have hz1 : ∀ v ∈ (Builtin.zeroCells z.cells n).toList, v.oneCell' = true := by
    intro v hv
    simp only [Builtin.zeroCells, Array.toList_map, List.mem_map, Array.mem_toList_iff, Array.mem_range] at hv
    obtain ⟨k, hk, rfl⟩ := hv
    have hlt : k % z.cells.size < z.cells.size := Nat.mod_lt _ (by omega)
    have : z.cells[k % z.cells.size]! ∈ z.cells := by
      rw [getElem!_pos z.cells _ hlt]
      exact Array.getElem_mem hlt
    exact h1 _ this
  have hst := run_storeCells_at P g o elem (Builtin.zeroCells z.cells n).toList 0 cur w hg (by rw [hzl]; simpa using hfit) hz1
  simp only [Nat.add_zero] at hst
  refine ⟨_, hzl, fun ty => ?_⟩
  obtain ⟨m, rfl⟩ : ∃ m, n = m + 1 := ⟨n - 1, by omega⟩
  simp [Builtin.clear_, run_underlying hu, zeroValue, typeInfo, hi, hz, hst, splice]

section
variable {ops : Array Oper} {rest : List Oper} {o : Oper} {a : Act} {Q : Exit → Act → World → Prop} {w : World}
/-- A builtin of two arguments whose run is known, as a step of a walk. -/
theorem wpList_copy_run (hgd : o.guard = none) (d s : Operand) (t t' : TypeId)
    (ho : o.op = .call { callee := .builtin .copy, args := #[d, s], argTypes := #[t, t'] }) (v u : Value) (hd : a.eval d = v) (hs : a.eval s = u) {v' : Value} {w' : World}
    (hr : (Builtin.copy_ #[t, t'] o.type #[v, u]).run P w = .ok v' w') (h : wpList P ops Q rest (a.put o.dst v') w') : wpList P ops Q (o :: rest) a w :=
  wpList_plain hgd fun _ hK => by
    unfold Oper.wp execOp
    simp only [ho, resolve, invoke, builtin, Sem.run_bind, Sem.run_pure, Result.andThen_ok, List.map_toArray, List.map_cons, List.map_nil, hd, hs, hr]
    exact hK _ _ h
theorem wpList_append_run (hgd : o.guard = none) (d s : Operand) (t t' : TypeId)
    (ho : o.op = .call { callee := .builtin .append, args := #[d, s], argTypes := #[t, t'] }) (v u : Value) (hd : a.eval d = v) (hs : a.eval s = u) {v' : Value} {w' : World}
    (hr : (Builtin.append_ #[t, t'] o.type #[v, u]).run P w = .ok v' w') (h : wpList P ops Q rest (a.put o.dst v') w') : wpList P ops Q (o :: rest) a w :=
  wpList_plain hgd fun _ hK => by
    unfold Oper.wp execOp
    simp only [ho, resolve, invoke, builtin, Sem.run_bind, Sem.run_pure, Result.andThen_ok, List.map_toArray, List.map_cons, List.map_nil, hd, hs, hr]
    exact hK _ _ h
theorem wpList_clear_run (hgd : o.guard = none) (d : Operand) (t : TypeId)
    (ho : o.op = .call { callee := .builtin .clear, args := #[d], argTypes := #[t] }) (v : Value) (hd : a.eval d = v) {v' : Value} {w' : World}
    (hr : (Builtin.clear_ #[t] o.type #[v]).run P w = .ok v' w') (h : wpList P ops Q rest (a.put o.dst v') w') : wpList P ops Q (o :: rest) a w :=
  wpList_plain hgd fun _ hK => by
    unfold Oper.wp execOp
    simp only [ho, resolve, invoke, builtin, Sem.run_bind, Sem.run_pure, Result.andThen_ok, List.map_toArray, List.map_cons, List.map_nil, hd, hr]
    exact hK _ _ h
end

end Go.Proofs.Ytbkkehjhfgocfaa
