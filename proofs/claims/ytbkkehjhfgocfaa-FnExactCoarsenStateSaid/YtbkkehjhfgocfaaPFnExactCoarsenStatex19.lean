/- Three rows in one word, and spec.l07Copy walked by hand; no condition. -/
import Derived.Test.YtbkkehjhfgocfaaPFnExactCoarsenStatex12
namespace Go.Proofs.Ytbkkehjhfgocfaa.PFnExactCoarsenState
open Go.RowKit Go.Proofs.YtbkkehjhfgocfaaW.PrintWords Go.Proofs.YtbkkehjhfgocfaaW.PrintLast Go.Proofs.YtbkkehjhfgocfaaW.PrintMore
set_option linter.unusedVariables false
set_option linter.unusedSimpArgs false
abbrev set5 (w : World) (g : Nat) (a b c d e : Value) : World := ((((w.setCell ⟨g, 0, none⟩ a).setCell ⟨g, 1, none⟩ b).setCell ⟨g, 2, none⟩ c).setCell ⟨g, 3, none⟩ d).setCell ⟨g, 4, none⟩ e
theorem set5_old {w : World} {g : Nat} (a b c d e : Value) (k : Nat) (h : k ≠ g) : (set5 w g a b c d e).heap[k]? = w.heap[k]? := by
  simp only [set5, Below.heap_setCell _ _ _ _ (show k ≠ (⟨g, 4, none⟩ : Addr).block from h), Below.heap_setCell _ _ _ _ (show k ≠ (⟨g, 3, none⟩ : Addr).block from h), Below.heap_setCell _ _ _ _ (show k ≠ (⟨g, 2, none⟩ : Addr).block from h), Below.heap_setCell _ _ _ _ (show k ≠ (⟨g, 1, none⟩ : Addr).block from h), Below.heap_setCell _ _ _ _ (show k ≠ (⟨g, 0, none⟩ : Addr).block from h)]
theorem set5_here {w : World} {g t : Nat} {x0 x1 x2 x3 x4 : Value} (h : w.heap[g]? = some (.cells #[x0, x1, x2, x3, x4] t (0, 0))) (a b c d e : Value) : (set5 w g a b c d e).heap[g]? = some (.cells #[a, b, c, d, e] t (0, 0)) :=
  blk_put (blk_put (blk_put (blk_put (blk_put h 0 a rfl) 1 b rfl) 2 c rfl) 3 d rfl) 4 e rfl
theorem set5_blk {w : World} {g g' : Nat} {o : Obj} (h : w.heap[g']? = some o) (hn : g' ≠ g) {a b c d e : Value} : (set5 w g a b c d e).heap[g']? = some o := (set5_old a b c d e g' hn).trans h
theorem set5_below {w0 w : World} {B g : Nat} (h : Below B w0 w) (hg : B ≤ g) {a b c d e : Value} : Below B w0 (set5 w g a b c d e) := ((((h.setCell hg a).setCell hg b).setCell hg c).setCell hg d).setCell hg e
theorem set5_R {α : Type} {d : Kd α} {q : Nat} {w : World} {base : Nat} {ok : Nat → Prop} {v : Value} {xs : List α} (h : d.R q w base ok v xs) {g t : Nat} {cells : Array Value} (hb : w.heap[g]? = some (.cells cells t (0, 0))) (ht : ∀ q', q' ∈ q :: d.E → q' ≠ t) {a b c u e : Value} : d.R q (set5 w g a b c u e) base ok v xs :=
  Kd.R_mono (Kd.R_step (Kd.R_types h hb ht) (fun k hk _ => set5_old a b c u e k hk.2)) (fun _ hk => hk.1)
theorem R_eq {α : Type} {d : Kd α} {q : Nat} {w : World} {base : Nat} {ok : Nat → Prop} {v : Value} {xs ys : List α} (e : xs = ys) (h : d.R q w base ok v xs) : d.R q w base ok v ys := e ▸ h
theorem cells5 {w : World} {g t : Nat} {a b c d e : Value} (h : w.heap[g]? = some (.cells #[a, b, c, d, e] t (0, 0))) : w.cell? ⟨g, 0, none⟩ = some a ∧ w.cell? ⟨g, 1, none⟩ = some b ∧ w.cell? ⟨g, 2, none⟩ = some c ∧ w.cell? ⟨g, 3, none⟩ = some d ∧ w.cell? ⟨g, 4, none⟩ = some e :=
  ⟨(blk_cell h 0).trans rfl, (blk_cell h 1).trans rfl, (blk_cell h 2).trans rfl, (blk_cell h 3).trans rfl, (blk_cell h 4).trans rfl⟩
theorem free5 {w : World} {g t : Nat} {cs : Array Value} (h : w.heap[g]? = some (.cells cs t (0, 0))) : w.frozen? ⟨g, 0, none⟩ = false ∧ w.frozen? ⟨g, 1, none⟩ = false ∧ w.frozen? ⟨g, 2, none⟩ = false ∧ w.frozen? ⟨g, 3, none⟩ = false ∧ w.frozen? ⟨g, 4, none⟩ = false :=
  ⟨blk_frozen h 0, blk_frozen h 1, blk_frozen h 2, blk_frozen h 3, blk_frozen h 4⟩
def Ap (a b : Value) (k : Nat) : Prop := some k ≠ a.ownBlock ∧ some k ≠ b.ownBlock
structure F3 (w0 : World) (gb gr : Nat) (cs : Array Value) (w : World) (vm : Value) (lm : List S36) (z1 : Value) (l1 : List Int) (z2 : Value) (l2 : List Int) (z3 : Value) (l3 : List Int) : Prop where
  B : Below w0.heap.size w0 w
  b1 : w.heap[gb]? = some (.cells cs 29 (0, 0))
  b2 : w.heap[gr]? = some (.cells #[.int .i64 0, .slice none 0 0, .slice none 0 0, .slice none 0 0, .slice none 0 0] 29 (0, 0))
  ne : gb ≠ gr ∧ w0.heap.size ≤ gb ∧ w0.heap.size ≤ gr
  m : Kd.R k36 36 w w0.heap.size (fun _ => True) vm lm
  r1 : Kd.R (Kd.int .i64) 3 w w0.heap.size (Ap z2 z3) z1 l1
  r2 : Kd.R (Kd.int .i64) 3 w w0.heap.size (Ap z1 z3) z2 l2
  r3 : Kd.R (Kd.int .i64) 3 w w0.heap.size (Ap z1 z2) z3 l3
namespace F3
variable {w0 w W w1 : World} {gb gr : Nat} {cs : Array Value} {vm : Value} {lm : List S36} {z1 z2 z3 : Value} {l1 l2 l3 : List Int}
theorem rot (h : F3 w0 gb gr cs w vm lm z1 l1 z2 l2 z3 l3) : F3 w0 gb gr cs w vm lm z2 l2 z3 l3 z1 l1 :=
  ⟨h.B, h.b1, h.b2, h.ne, h.m, Kd.R_mono h.r2 (fun _ hk => ⟨hk.2, hk.1⟩), Kd.R_mono h.r3 (fun _ hk => ⟨hk.2, hk.1⟩), h.r1⟩
theorem below (h : F3 w0 gb gr cs w vm lm z1 l1 z2 l2 z3 l3) (hb : Below w.heap.size w w1) : F3 w0 gb gr cs w1 vm lm z1 l1 z2 l2 z3 l3 :=
  ⟨below_step h.B hb, blk_below h.b1 hb, blk_below h.b2 hb, h.ne, Kd.R_below h.m hb, Kd.R_below h.r1 hb, Kd.R_below h.r2 hb, Kd.R_below h.r3 hb⟩
theorem start (hB : Below w0.heap.size w0 w) (h1 : w.heap[gb]? = some (.cells cs 29 (0, 0))) (h2 : w.heap[gr]? = some (.cells #[.int .i64 0, .slice none 0 0, .slice none 0 0, .slice none 0 0, .slice none 0 0] 29 (0, 0))) (hn : gb ≠ gr ∧ w0.heap.size ≤ gb ∧ w0.heap.size ≤ gr) :
    F3 w0 gb gr cs w (.slice none 0 0) [] (.slice none 0 0) [] (.slice none 0 0) [] (.slice none 0 0) [] :=
  ⟨hB, h1, h2, hn, Kd.R_nil _ _ _ _ _, Kd.R_nil _ _ _ _ _, Kd.R_nil _ _ _ _ _, Kd.R_nil _ _ _ _ _⟩
theorem mesh (h : F3 w0 gb gr cs w (.slice none 0 0) [] z1 l1 z2 l2 z3 l3) (hb : Below w.heap.size w w1) {v : Value} {l : List S36} (hr : Kd.R k36 36 w1 w.heap.size (fun _ => True) v l) : F3 w0 gb gr cs w1 v l z1 l1 z2 l2 z3 l3 :=
  { h.below hb with m := Kd.R_lower hr h.B.size }
section
variable {P : Program} {ops : Array Oper} {o : Oper} {a : Act} {Q : Exit → Act → World → Prop} {Kc : Act → World → Prop}
theorem own_lt_ {ok : Nat → Prop} {base : Nat} {v : Value} {xs : List Int} (h : Kd.R (Kd.int .i64) 3 w base ok v xs) (k : Nat) (hk : w.heap.size ≤ k) : some k ≠ v.ownBlock := fun e => by
  obtain ⟨inner, ho⟩ := Kd.R_own h
  have := own_lt ho k e.symm
  omega
/-- An empty row is made. -/
theorem make_ (h : F3 w0 gb gr cs W vm lm (.slice none 0 0) [] z2 l2 z3 l3) (hw : Region.wanted o (yielded ops a.tmps) = true) {N : Tmp} (hd : o.dst = some N)
    (hrun : (execOp a.eval o).run P W = .ok (.value (.slice (some ⟨W.heap.size, 0, none⟩) 0 0)) (W.alloc (.cells #[] 3)))
    (hk : ∀ v1 w1, F3 w0 gb gr cs w1 vm lm v1 [] z2 l2 z3 l3 → Kc (a.put o.dst v1) w1) : if Region.wanted o (yielded ops a.tmps) = true then Oper.wp P o a W Kc Q else Kc (a.put o.dst undef) W := by
  refine Kd.R_lit_step (Kd.int .i64) (w0 := w0) w0.heap.size 3 hw hd (xs := []) (inner := []) (ok := Ap z2 z3) (okp := fun _ => False) hrun (Reps.none _ _) (fun _ h => h.elim) ⟨own_lt_ h.r2 _ (Nat.le_refl _), own_lt_ h.r3 _ (Nat.le_refl _)⟩ h.B h.B.size (by simp) ?_
  intro v1 w1 ho hb hg hnew
  obtain ⟨b, e, hb1⟩ := hnew
  have hb2 : Below W.heap.size W w1 := ⟨hg.os, hg.tape, hg.output, hg.size, fun k hk => hg.block k hk (by simp)⟩
  have q := h.below hb2
  have hne : ∀ (u : Value) (ok : Nat → Prop) (xs : List Int), Kd.R (Kd.int .i64) 3 W w0.heap.size ok u xs → Kd.R (Kd.int .i64) 3 w1 w0.heap.size (fun k => ok k ∧ some k ≠ v1.ownBlock) u xs := fun u ok xs hr =>
    Kd.R_mono (Kd.R_below (Kd.R_bound hr) hb2) (fun k hk => ⟨hk.1, fun e2 => by rw [e] at e2; injection e2 with e2; have := hk.2.2.1; omega⟩)
  exact hk v1 w1 ⟨q.B, q.b1, q.b2, q.ne, q.m, ho, Kd.R_mono (hne _ _ _ h.r2) (fun _ hk => ⟨hk.2, hk.1.2⟩), Kd.R_mono (hne _ _ _ h.r3) (fun _ hk => ⟨hk.2, hk.1.2⟩)⟩
/-- Numbers are appended to the first row. -/
theorem app_of {ys : List Int} {v1 : Value} (h : F3 w0 gb gr cs W vm lm z1 l1 z2 l2 z3 l3) (ho : Kd.R (Kd.int .i64) 3 w1 w0.heap.size (Ap z2 z3) v1 ys) (hb : Below w0.heap.size w0 w1) (hg : W.grownBy w1 z1.ownBlock) (hat : v1.ownBlock = z1.ownBlock ∨ ∃ b, v1.ownBlock = some b ∧ W.heap.size ≤ b) : F3 w0 gb gr cs w1 vm lm v1 ys z2 l2 z3 l3 := by
  have hne : ∀ (u : Value) (ok : Nat → Prop) (xs : List Int), Kd.R (Kd.int .i64) 3 W w0.heap.size (fun k => ok k ∧ some k ≠ z1.ownBlock) u xs → Kd.R (Kd.int .i64) 3 w1 w0.heap.size (fun k => ok k ∧ some k ≠ v1.ownBlock) u xs := fun u ok xs hr =>
    Kd.R_mono (Kd.R_grown (Kd.R_bound hr) hg (fun k hk => hk.1.2)) (fun k hk => ⟨hk.1.1, fun e2 => by
      rcases hat with e | ⟨b, e, hb1⟩
      · rw [e] at e2; exact hk.1.2 e2
      · rw [e] at e2; injection e2 with e2; have := hk.2.2.1; omega⟩)
  exact ⟨hb, blk_grown h.b1 hg (Kd.R_ne h.r1 h.b1 (by decide)), blk_grown h.b2 hg (Kd.R_ne h.r1 h.b2 (by decide)), h.ne, Kd.R_mono (Kd.R_grown (Kd.R_apart' h.m (Kd.R_typed h.r1) (by decide)) hg (fun k hk => hk.2)) (fun _ hk => hk.1), ho,
    Kd.R_mono (hne _ (fun k => some k ≠ z3.ownBlock) _ (Kd.R_mono h.r2 (fun _ hk => ⟨hk.2, hk.1⟩))) (fun _ hk => ⟨hk.2, hk.1⟩), Kd.R_mono (hne _ (fun k => some k ≠ z2.ownBlock) _ (Kd.R_mono h.r3 (fun _ hk => ⟨hk.2, hk.1⟩))) (fun _ hk => ⟨hk.2, hk.1⟩)⟩
theorem app_ (h : F3 w0 gb gr cs W vm lm z1 l1 z2 l2 z3 l3) (hw : Region.wanted o (yielded ops a.tmps) = true) (s x : Operand)
    (ho : o.op = .call { callee := .builtin .append, args := #[s, x], argTypes := #[27, 27] }) (ht : P.underlying 27 = some (.slice 3)) (hinfo : (P.info? 3).map (fun i => (i.zero, i.size, i.bytes)) = some (some (.int .i64 0), 1, 8))
    (ys : List Int) (A : Option Addr) (n c : Nat) (hs : a.eval s = z1) (hx : a.eval x = .slice A n c) (hR : Kd.C (Kd.int .i64) W A n ys) (hl : (l1.length + n) * 8 ≤ 140737488355328)
    (hk : ∀ v1 w1, F3 w0 gb gr cs w1 vm lm v1 (l1 ++ ys) z2 l2 z3 l3 → Kc (a.put o.dst v1) w1) : if Region.wanted o (yielded ops a.tmps) = true then Oper.wp P o a W Kc Q else Kc (a.put o.dst undef) W := by
  refine Kd.R_append_rows_step (Kd.int .i64) (w0 := w0) w0.heap.size hw s x 27 3 (.int .i64 0) 8 ho ht hinfo rfl (by decide) (by omega) z1 l1 ys A n c (Ap z2 z3) (fun _ => False) hs hx h.r1 hR (fun _ _ h => h) (fun _ h => h.elim) (fun k hk => ⟨own_lt_ h.r2 k hk, own_lt_ h.r3 k hk⟩) h.B h.B.size hl ?_
  intro v1 w1 ho hb hg hat
  exact hk v1 w1 (h.app_of ho hb hg hat)
end
end F3
/-- Where a row stands: not begun, begun (pre), filled (dst). u: the value that it had when it was begun, x: the filled one's. -/
def RowSt (u x z : Value) (l pre dst : List Int) : Nat → Prop
  | 0 => z = .slice none 0 0 ∧ l = []
  | 1 => u = z ∧ l = pre
  | _ => x = z ∧ l = dst
namespace F3
section
variable {w0 w W w1 : World} {gb gr : Nat} {cs : Array Value} {vm : Value} {lm : List S36} {z1 z2 z3 : Value} {l1 l2 l3 : List Int}
variable {P : Program} {ops : Array Oper} {o : Oper} {rest : List Oper} {a : Act} {Q : Exit → Act → World → Prop}
/-- The same in a plain region. -/
theorem make_l (h : F3 w0 gb gr cs W vm lm (.slice none 0 0) [] z2 l2 z3 l3) (hg : o.guard = none) {N : Tmp} (hd : o.dst = some N)
    (hrun : (execOp a.eval o).run P W = .ok (.value (.slice (some ⟨W.heap.size, 0, none⟩) 0 0)) (W.alloc (.cells #[] 3)))
    (hk : ∀ v1 w1, F3 w0 gb gr cs w1 vm lm v1 [] z2 l2 z3 l3 → wpList P ops Q rest (a.put o.dst v1) w1) : wpList P ops Q (o :: rest) a W := by
  refine wpList_plain hg fun K hK => ?_
  have := h.make_ (Kc := K) (Q := Q) (ops := ops) (a := a) (o := o) (by simp [Region.wanted, hg]) hd hrun (fun v1 w1 q => hK _ _ (hk v1 w1 q))
  rwa [if_pos (by simp [Region.wanted, hg])] at this
theorem app_l (h : F3 w0 gb gr cs W vm lm z1 l1 z2 l2 z3 l3) (hg : o.guard = none) (s x : Operand)
    (ho : o.op = .call { callee := .builtin .append, args := #[s, x], argTypes := #[27, 27] }) (ht : P.underlying 27 = some (.slice 3)) (hinfo : (P.info? 3).map (fun i => (i.zero, i.size, i.bytes)) = some (some (.int .i64 0), 1, 8))
    (ys : List Int) (A : Option Addr) (n c : Nat) (hs : a.eval s = z1) (hx : a.eval x = .slice A n c) (hR : Kd.C (Kd.int .i64) W A n ys) (hl : (l1.length + n) * 8 ≤ 140737488355328)
    (hk : ∀ v1 w1, F3 w0 gb gr cs w1 vm lm v1 (l1 ++ ys) z2 l2 z3 l3 → wpList P ops Q rest (a.put o.dst v1) w1) : wpList P ops Q (o :: rest) a W := by
  refine wpList_plain hg fun K hK => ?_
  have := h.app_ (Kc := K) (Q := Q) (ops := ops) (a := a) (o := o) (by simp [Region.wanted, hg]) s x ho ht hinfo ys A n c hs hx hR hl (fun v1 w1 q => hK _ _ (hk v1 w1 q))
  rwa [if_pos (by simp [Region.wanted, hg])] at this
/-- A list of numbers written out: it lies in memory of its own, and the rows stand. -/
theorem lit_l (h : F3 w0 gb gr cs W vm lm z1 l1 z2 l2 z3 l3) (hg : o.guard = none) {N : Tmp} (hd : o.dst = some N) (ys : List Int) (hy : ys.length ≤ 9223372036854775807)
    (hrun : (execOp a.eval o).run P W = .ok (.value (.slice (some ⟨W.heap.size, 0, none⟩) ys.length ys.length)) (W.alloc (.cells (ys.map (Value.int .i64)).toArray 3)))
    (hk : ∀ A w1, F3 w0 gb gr cs w1 vm lm z1 l1 z2 l2 z3 l3 → Kd.C (Kd.int .i64) w1 A ys.length ys → wpList P ops Q rest (a.put o.dst (.slice A ys.length ys.length)) w1) : wpList P ops Q (o :: rest) a W := by
  refine Kd.event_run hg hrun (hk _ _ (h.below (below_alloc (Below.refl _ _) _)) ?_)
  refine Kd.C_of_reads (enc := Value.int .i64) (d := (0 : Int)) (h1 := fun _ => rfl) ⟨rfl, hy, fun hn => ⟨_, rfl, fun j hj => ?_⟩⟩
  rw [add_plain, blk_cell (blk_new W _) j]
  simp [List.getD_eq_getElem?_getD, hj]
variable {Kc : Act → World → Prop}
theorem lit_ (h : F3 w0 gb gr cs W vm lm z1 l1 z2 l2 z3 l3) (hw : Region.wanted o (yielded ops a.tmps) = true) {N : Tmp} (hd : o.dst = some N) (ys : List Int) (hy : ys.length ≤ 9223372036854775807)
    (hrun : (execOp a.eval o).run P W = .ok (.value (.slice (some ⟨W.heap.size, 0, none⟩) ys.length ys.length)) (W.alloc (.cells (ys.map (Value.int .i64)).toArray 3)))
    (hk : ∀ A w1, F3 w0 gb gr cs w1 vm lm z1 l1 z2 l2 z3 l3 → Kd.C (Kd.int .i64) w1 A ys.length ys → Kc (a.put o.dst (.slice A ys.length ys.length)) w1) : if Region.wanted o (yielded ops a.tmps) = true then Oper.wp P o a W Kc Q else Kc (a.put o.dst undef) W := by
  refine event_step hw hrun (hk _ _ (h.below (below_alloc (Below.refl _ _) _)) ?_)
  refine Kd.C_of_reads (enc := Value.int .i64) (d := (0 : Int)) (h1 := fun _ => rfl) ⟨rfl, hy, fun hn => ⟨_, rfl, fun j hj => ?_⟩⟩
  rw [add_plain, blk_cell (blk_new W _) j]
  simp [List.getD_eq_getElem?_getD, hj]
end
end F3
/-- What is cut out of a row that is read. -/
theorem take_cut {w : World} {A : Option Addr} {c : Nat} {l : List Int} (hC : (Kd.int .i64).C w A l.length l) (hc : l.length ≤ c) (i : Nat) (hi : i ≤ l.length) :
    (∀ W : World, (Instr.slice 27 (.slice A l.length c) none (some (.int .i64 (i : Int))) none).run Try.prog W = .ok (.slice A i c) W) ∧ (Kd.int .i64).C w A i (l.take i) := by
  obtain ⟨i0, h0, _, hsz, _⟩ := info_parts info3
  obtain ⟨h1, h2, _⟩ := print_take_of (P := Try.prog) (Value.int .i64) 0 27 3 .i64 Try.underlying27 h0 hsz A c l (i : Int) (by omega) (by omega) hc
  rw [Int.toNat_natCast, show (l.take i).length = i by rw [List.length_take]; omega] at h1 h2
  exact ⟨h1, Kd.C_of_reads (h1 := fun _ => rfl) (h2 w (Kd.reads_of_C hC))⟩
theorem drop_cut {w : World} {A : Option Addr} {c : Nat} {l : List Int} (hC : (Kd.int .i64).C w A l.length l) (hc : l.length ≤ c) (j : Int) (n : Nat) (hj : j = (n : Int)) (hn : n ≤ l.length) :
    ∃ A' n' c', n' + n = l.length ∧ (∀ W : World, (Instr.slice 27 (.slice A l.length c) (some (.int .i64 j)) none none).run Try.prog W = .ok (.slice A' n' c') W) ∧ (Kd.int .i64).C w A' n' (l.drop n) := by
  subst hj
  obtain ⟨i0, h0, _, hsz, _⟩ := info_parts info3
  obtain ⟨A', h1, h2, _⟩ := print_drop_of (P := Try.prog) (Value.int .i64) 0 27 3 .i64 Try.underlying27 h0 hsz A c l (n : Int) (by omega) (by omega) hc
  rw [Int.toNat_natCast] at h1 h2
  exact ⟨A', (l.drop n).length, _, by rw [List.length_drop]; omega, h1, Kd.C_of_reads (h1 := fun _ => rfl) (h2 w (Kd.reads_of_C hC))⟩
def spec_l07Copy.f (a0_0 : Int) (l0_1 : List S36) (l0_2 l0_3 l0_4 : List Int) : Option (Int × List S36 × List Int × List Int × List Int) :=
  if l0_2.length * 8 ≤ 140737488355328 ∧ l0_3.length * 8 ≤ 140737488355328 ∧ l0_4.length * 8 ≤ 140737488355328 then (spec_l04Copy.f a0_0 l0_1).bind fun t => some (t.1, t.2, l0_2, l0_3, l0_4) else none
def spec_l07Copy.T1 : Bool × List (List Nat × List Nat) := (true, [([], []), ([0], [0]), ([1], [1]), ([], []), ([], []), ([4], [4]), ([3, 5, 2], [3, 5]), ([], []), ([], []), ([8], [8]), ([7, 9, 6], [7, 9]), ([], []), ([], []), ([12], [12]), ([11, 13, 10], [11, 13]), ([2, 6, 10, 14], [2, 6, 10, 14]), ([15, 14, 0, 1, 2, 3, 4, 5, 6, 7, 8, 9, 10, 11, 12, 13, 14, 15], [15])])
def spec_l07Copy.B1 : List Nat := [0, 1, 3, 0, 0, 16, 63, 0, 0, 256, 1023, 0, 0, 4096, 16383, 32767, 65535]
theorem spec_l07Copy.tab1 : rtab .any (opsOf Try.f60 1) = spec_l07Copy.T1 := by kernel_rfl
theorem spec_l07Copy.bits1 : waitsOk spec_l07Copy.T1.2 spec_l07Copy.B1 = true := by kernel_rfl
def spec_l07Copy.L (s0 s1 s2 s3 : Nat) : Array Bool := #[true, true, Nat.ble 1 s0, Nat.ble 1 s1, true, true, Nat.ble 2 s1, Nat.ble 1 s2, true, true, Nat.ble 2 s2, Nat.ble 1 s3, true, true, Nat.ble 2 s3, false, false]
theorem spec_l07Copy.chk : ∀ s0 : Fin 2, ∀ s1 s2 s3 : Fin 3, (readyT spec_l07Copy.T1.2 (spec_l07Copy.L s0 s1 s2 s3).toList ≠ []) ∧ ((readyT spec_l07Copy.T1.2 (spec_l07Copy.L s0 s1 s2 s3).toList).all fun i => decide ((i = 2 ∧ s0.val = 0) ∨ (i = 3 ∧ s1.val = 0) ∨ (i = 6 ∧ s1.val = 1) ∨ (i = 7 ∧ s2.val = 0) ∨ (i = 10 ∧ s2.val = 1) ∨ (i = 11 ∧ s3.val = 0) ∨ (i = 14 ∧ s3.val = 1) ∨ (i = 15 ∧ s0.val + s1.val + s2.val + s3.val = 7))) = true := by decide +kernel
set_option maxHeartbeats 8000000 in
set_option maxRecDepth 100000 in
theorem spec_l07Copy.calls (a0_0 : Int) (A0_1 : Option Addr) (c0_1 : Nat) (l0_1 : List (S36)) (A0_2 : Option Addr) (c0_2 : Nat) (l0_2 : List Int) (A0_3 : Option Addr) (c0_3 : Nat) (l0_3 : List Int) (A0_4 : Option Addr) (c0_4 : Nat) (l0_4 : List Int) (r1 : Int) (r2 : List (S36)) (r3 : List Int) (r4 : List Int) (r5 : List Int) (w : World) (hr0_1 : Kd.C k36 w A0_1 l0_1.length l0_1) (hc0_1 : l0_1.length ≤ c0_1) (hr0_2 : Kd.C (Kd.int .i64) w A0_2 l0_2.length l0_2) (hc0_2 : l0_2.length ≤ c0_2) (hr0_3 : Kd.C (Kd.int .i64) w A0_3 l0_3.length l0_3) (hc0_3 : l0_3.length ≤ c0_3) (hr0_4 : Kd.C (Kd.int .i64) w A0_4 l0_4.length l0_4) (hc0_4 : l0_4.length ≤ c0_4) (h : spec_l07Copy.f a0_0 l0_1 l0_2 l0_3 l0_4 = some (r1, r2, r3, r4, r5)) :
  Calls Try.prog 60 #[.agg #[.int .i64 a0_0, .slice A0_1 l0_1.length c0_1, .slice A0_2 l0_2.length c0_2, .slice A0_3 l0_3.length c0_3, .slice A0_4 l0_4.length c0_4]] w fun e w' => ∃ v1_ v2_ v3_ v4_ : Value, e = .returned (.agg #[.int .i64 r1, v1_, v2_, v3_, v4_]) ∧ Kd.R k36 36 w' w.heap.size (fun _ => True) v1_ r2 ∧ Kd.R (Kd.int .i64) 3 w' w.heap.size (fun k_ => some k_ ≠ (v3_ : Value).ownBlock ∧ some k_ ≠ (v4_ : Value).ownBlock) v2_ r3 ∧ Kd.R (Kd.int .i64) 3 w' w.heap.size (fun k_ => some k_ ≠ (v2_ : Value).ownBlock ∧ some k_ ≠ (v4_ : Value).ownBlock) v3_ r4 ∧ Kd.R (Kd.int .i64) 3 w' w.heap.size (fun k_ => some k_ ≠ (v2_ : Value).ownBlock ∧ some k_ ≠ (v3_ : Value).ownBlock) v4_ r5 ∧ Below w.heap.size w w' := by
  have hu29 := Try.underlying29
  have hu26 := Try.underlying26
  unfold spec_l07Copy.f at h
  by_cases hz : l0_2.length * 8 ≤ 140737488355328 ∧ l0_3.length * 8 ≤ 140737488355328 ∧ l0_4.length * 8 ≤ 140737488355328
  case neg => rw [if_neg hz] at h; cases h
  rw [if_pos hz] at h
  obtain ⟨⟨t1, t2⟩, hcopy, h⟩ := Option.bind_eq_some_iff.1 h
  simp only [Option.some.injEq, Prod.mk.injEq] at h
  obtain ⟨rfl, rfl, rfl, rfl, rfl⟩ := h
  have HZ := Aside0.mk hz
  have HC := Aside0.mk hcopy
  have HR1 := Aside0.mk (And.intro hr0_1 hc0_1)
  have HR2 := Aside0.mk hr0_2
  have HR3 := Aside0.mk hr0_3
  have HR4 := Aside0.mk hr0_4
  have HB := Aside0.mk (Below.refl w.heap.size w)
  clear hz hcopy hr0_1 hr0_2 hr0_3 hr0_4 hc0_1 hc0_2 hc0_3 hc0_4
  go_enter Try.func60, Try.ntmps60
  go_wp2_with (first
   | ((with_reducible refine gate_dst (N := 1) rfl ?_); refine box_event ?hg (N := 1) ?hd (cs := #[.int .i64 a0_0, .slice A0_1 l0_1.length c0_1, .slice A0_2 l0_2.length c0_2, .slice A0_3 l0_3.length c0_3, .slice A0_4 l0_4.length c0_4]) (t := 29) ?hr ?_; (case hd => rfl); (case hg => rfl); (case hr => first | (go_simp; done) | (go_simp; rfl)); intro gb hg w6 hbox hb; have GE := Aside0.mk (by rw [hg]; exact Nat.le_refl _ : w.heap.size ≤ gb); replace HB := Aside0.mk hb; have BK := Aside0.mk hbox; clear hb hbox hg)
   | ((with_reducible refine gate_dst (N := 2) rfl ?_); refine box_event ?hg (N := 2) ?hd (cs := #[.int .i64 0, .slice none 0 0, .slice none 0 0, .slice none 0 0, .slice none 0 0]) (t := 29) ?hr ?_; (case hd => rfl); (case hg => rfl); (case hr => first | (go_simp; done) | (go_simp; rfl)); intro gr hg w7 hbox hb; have NE := Aside0.mk (by rw [hg]; exact ⟨Nat.ne_of_lt (blk_lt BK.out), GE.out, HB.out.size⟩ : gb ≠ gr ∧ w.heap.size ≤ gb ∧ w.heap.size ≤ gr); replace BK := Aside0.mk (blk_below BK.out hb); replace HB := Aside0.mk (below_step HB.out hb); have BR := Aside0.mk hbox; clear hb hbox hg))
  have HF := Aside0.mk (F3.start (below_drew1 HB.out) (blk_drew BK.out) (blk_drew BR.out) NE.out)
  clear BK BR HB GE
  refine start_ (n := 17) (S := fun w' => w'.cell? ⟨gb, 0, none⟩ = some (.int .i64 a0_0) ∧ w'.cell? ⟨gb, 1, none⟩ = some (.slice A0_1 l0_1.length c0_1) ∧ w'.cell? ⟨gb, 2, none⟩ = some (.slice A0_2 l0_2.length c0_2) ∧ w'.cell? ⟨gb, 3, none⟩ = some (.slice A0_3 l0_3.length c0_3) ∧ w'.cell? ⟨gb, 4, none⟩ = some (.slice A0_4 l0_4.length c0_4)) (ds := []) #[N_,N_,N_,N_,N_,N_,N_,N_,N_,N_,N_,N_,N_,N_,N_,N_,N_] (by kernel_rfl) rfl rfl (cells5 HF.out.b1) (fun hHeld => ?_); refine with_tabW spec_l07Copy.tab1 spec_l07Copy.bits1 (fun HT_ HW_ => ?_)
  generalize World.drew _ = w8 at HF hHeld ⊢
  refine pure_ (i := 0) (N := some 3) (v := ?_) (a' := ?_) #[Y_,N_,N_,N_,N_,N_,N_,N_,N_,N_,N_,N_,N_,N_,N_,N_,N_] rfl rfl (any_of HT_.out (by kernel_rfl)) (fun _ _ _ h => h) (Or.inl ⟨by rfl, ?_⟩) ?_ ?_
  rotate_left
  · (intro w'; go_simp; with_reducible rfl)
  rotate_left
  · (simp only [Act.put, q1_, q2_, q3_, i64_w, i32_w]; rfl)
  refine pure_ (i := 4) (N := some 7) (v := ?_) (a' := ?_) #[Y_,N_,N_,N_,Y_,N_,N_,N_,N_,N_,N_,N_,N_,N_,N_,N_,N_] rfl rfl (any_of HT_.out (by kernel_rfl)) (fun _ _ _ h => h) (Or.inl ⟨by rfl, ?_⟩) ?_ ?_
  rotate_left
  · (intro w'; go_simp; with_reducible rfl)
  rotate_left
  · (simp only [Act.put, q1_, q2_, q3_, i64_w, i32_w]; rfl)
  refine pure_ (i := 8) (N := some 11) (v := ?_) (a' := ?_) #[Y_,N_,N_,N_,Y_,N_,N_,N_,Y_,N_,N_,N_,N_,N_,N_,N_,N_] rfl rfl (any_of HT_.out (by kernel_rfl)) (fun _ _ _ h => h) (Or.inl ⟨by rfl, ?_⟩) ?_ ?_
  rotate_left
  · (intro w'; go_simp; with_reducible rfl)
  rotate_left
  · (simp only [Act.put, q1_, q2_, q3_, i64_w, i32_w]; rfl)
  refine pure_ (i := 12) (N := some 15) (v := ?_) (a' := ?_) #[Y_,N_,N_,N_,Y_,N_,N_,N_,Y_,N_,N_,N_,Y_,N_,N_,N_,N_] rfl rfl (any_of HT_.out (by kernel_rfl)) (fun _ _ _ h => h) (Or.inl ⟨by rfl, ?_⟩) ?_ ?_
  rotate_left
  · (intro w'; go_simp; with_reducible rfl)
  rotate_left
  · (simp only [Act.put, q1_, q2_, q3_, i64_w, i32_w]; rfl)
  refine take_ (i := 1) (N := some 4) (v := ?_) (a' := ?_) #[Y_,Y_,N_,N_,Y_,N_,N_,N_,Y_,N_,N_,N_,Y_,N_,N_,N_,N_] rfl rfl (take_ofW HT_.out HW_.out (by kernel_rfl)) (fun _ _ _ h => h) (Or.inl ⟨by rfl, ?_⟩) hHeld ?_ ?_
  rotate_left
  · (rintro w' ⟨s0, s1, s2, s3, s4⟩; go_simp; with_reducible rfl)
  rotate_left
  · (simp only [Act.put, q1_, q2_, q3_, i64_w, i32_w]; rfl)
  refine take_ (i := 5) (N := some 8) (v := ?_) (a' := ?_) #[Y_,Y_,N_,N_,Y_,Y_,N_,N_,Y_,N_,N_,N_,Y_,N_,N_,N_,N_] rfl rfl (take_ofW HT_.out HW_.out (by kernel_rfl)) (fun _ _ _ h => h) (Or.inl ⟨by rfl, ?_⟩) hHeld ?_ ?_
  rotate_left
  · (rintro w' ⟨s0, s1, s2, s3, s4⟩; go_simp; with_reducible rfl)
  rotate_left
  · (simp only [Act.put, q1_, q2_, q3_, i64_w, i32_w]; rfl)
  refine take_ (i := 9) (N := some 12) (v := ?_) (a' := ?_) #[Y_,Y_,N_,N_,Y_,Y_,N_,N_,Y_,Y_,N_,N_,Y_,N_,N_,N_,N_] rfl rfl (take_ofW HT_.out HW_.out (by kernel_rfl)) (fun _ _ _ h => h) (Or.inl ⟨by rfl, ?_⟩) hHeld ?_ ?_
  rotate_left
  · (rintro w' ⟨s0, s1, s2, s3, s4⟩; go_simp; with_reducible rfl)
  rotate_left
  · (simp only [Act.put, q1_, q2_, q3_, i64_w, i32_w]; rfl)
  refine take_ (i := 13) (N := some 16) (v := ?_) (a' := ?_) #[Y_,Y_,N_,N_,Y_,Y_,N_,N_,Y_,Y_,N_,N_,Y_,Y_,N_,N_,N_] rfl rfl (take_ofW HT_.out HW_.out (by kernel_rfl)) (fun _ _ _ h => h) (Or.inl ⟨by rfl, ?_⟩) hHeld ?_ ?_
  rotate_left
  · (rintro w' ⟨s0, s1, s2, s3, s4⟩; go_simp; with_reducible rfl)
  rotate_left
  · (simp only [Act.put, q1_, q2_, q3_, i64_w, i32_w]; rfl)
  refine (?_ : ∀ (n_ s0 s1 s2 s3 : Nat), s0 ≤ 1 → s1 ≤ 2 → s2 ≤ 2 → s3 ≤ 2 → n_ + (s0 + s1 + s2 + s3) = 7 → ∀ (u5 u1 x1 u2 x2 u3 x3 uB : Value) (W : World) (vm : Value) (lm : List S36) (z1 : Value) (l1 : List Int) (z2 : Value) (l2 : List Int) (z3 : Value) (l3 : List Int),
    Aside0 (F3 w gb gr #[.int .i64 a0_0, .slice A0_1 l0_1.length c0_1, .slice A0_2 l0_2.length c0_2, .slice A0_3 l0_3.length c0_3, .slice A0_4 l0_4.length c0_4] W vm lm z1 l1 z2 l2 z3 l3) → Aside0 ((s0 = 0 ∧ vm = .slice none 0 0 ∧ lm = []) ∨ (s0 = 1 ∧ u5 = .agg #[.int .i64 t1, vm] ∧ lm = t2)) → Aside0 (RowSt u1 x1 z1 l1 ([]) (l0_2) s1) → Aside0 (RowSt u2 x2 z2 l2 ([]) (l0_3) s2) → Aside0 (RowSt u3 x3 z3 l3 ([]) (l0_4) s3) →
    wpAnyLast Try.prog Region.Mode.any _ _ _ [] (n_ + 2) (spec_l07Copy.L s0 s1 s2 s3) ⟨#[.agg #[.int .i64 a0_0, .slice A0_1 l0_1.length c0_1, .slice A0_2 l0_2.length c0_2, .slice A0_3 l0_3.length c0_3, .slice A0_4 l0_4.length c0_4], .pointer (some ⟨gb, 0, none⟩), .pointer (some ⟨gr, 0, none⟩), .pointer (some ⟨gb, 0, none⟩), .agg #[.int .i64 a0_0, .slice A0_1 l0_1.length c0_1], u5, u1, .pointer (some ⟨gb, 2, none⟩), .slice A0_2 l0_2.length c0_2, x1, u2, .pointer (some ⟨gb, 3, none⟩), .slice A0_3 l0_3.length c0_3, x2, u3, .pointer (some ⟨gb, 4, none⟩), .slice A0_4 l0_4.length c0_4, x3, uB], []⟩ W)
    7 0 0 0 0 (by omega) (by omega) (by omega) (by omega)  rfl undef undef undef undef undef undef undef undef w8 _ _ _ _ _ _ _ _ HF ⟨Or.inl ⟨rfl, rfl, rfl⟩⟩ ⟨⟨rfl, rfl⟩⟩ ⟨⟨rfl, rfl⟩⟩ ⟨⟨rfl, rfl⟩⟩
  clear HF hHeld
  intro n_
  induction n_ with
  | zero =>
    intro s0 s1 s2 s3 h0 h1 h2 h3  hm u5 u1 x1 u2 x2 u3 x3 uB W vm lm z1 l1 z2 l2 z3 l3 HF HM H1 H2 H3
    obtain rfl : s0 = 1 := by omega
    obtain rfl : s1 = 2 := by omega
    obtain rfl : s2 = 2 := by omega
    obtain rfl : s3 = 2 := by omega
    obtain ⟨_, rfl, e5⟩ := HM.out.resolve_left (fun e => by cases e.1)
    obtain ⟨rfl, e6⟩ := H1.out
    obtain ⟨rfl, e7⟩ := H2.out
    obtain ⟨rfl, e8⟩ := H3.out
    have E5 := Aside0.mk e5; have E6 := Aside0.mk e6; have E7 := Aside0.mk e7; have E8 := Aside0.mk e8
    clear e5 e6 e7 e8 HM H1 H2 H3
    obtain ⟨Y0, y0, rfl⟩ := Kd.R_slice HF.out.m
    obtain ⟨Y1, y1, rfl⟩ := Kd.R_slice HF.out.r1
    obtain ⟨Y2, y2, rfl⟩ := Kd.R_slice HF.out.r2
    obtain ⟨Y3, y3, rfl⟩ := Kd.R_slice HF.out.r3
    refine pure_ (i := 15) (N := some 18) (v := ?_) (a' := ?_) #[Y_,Y_,Y_,Y_,Y_,Y_,Y_,Y_,Y_,Y_,Y_,Y_,Y_,Y_,Y_,Y_,N_] rfl rfl (any_of HT_.out (by kernel_rfl)) (fun _ _ _ h => h) (Or.inl ⟨by rfl, ?_⟩) ?_ ?_
    rotate_left
    · (intro w'; go_simp; with_reducible rfl)
    rotate_left
    · (simp only [Act.put, q1_, q2_, q3_, i64_w, i32_w]; rfl)
    refine one_ (i := 16) (N := none) #[Y_,Y_,Y_,Y_,Y_,Y_,Y_,Y_,Y_,Y_,Y_,Y_,Y_,Y_,Y_,Y_,Y_] rfl rfl (one_of HT_.out (by kernel_rfl)) (by decide) (fun K hK => ?_)
    have hz := cells5 HF.out.b2
    have hf := free5 HF.out.b2
    refine skip_ (w1 := ?_) (by rfl) rfl ?_ ?_
    rotate_left
    · (go_simp; rfl)
    refine hK.out _ _ (cells5 (set5_blk HF.out.b1 HF.out.ne.1)) (fun hHeld => ?_)
    clear hK K hz hf
    refine done_ (done_of HT_.out (by kernel_rfl)) ?_
    try go_wp2
    refine bodyPost_ret (results_cell_row rfl _ _ gr 29 #[.int .i64 t1, .slice Y0 lm.length y0, .slice Y1 l1.length y1, .slice Y2 l2.length y2, .slice Y3 l3.length y3] (0, 0) _ rfl (set5_here HF.out.b2 _ _ _ _ _) Try.underlying29 rfl (by kernel_rfl)) rfl ?_
    exact ⟨_, _, _, _, rfl, R_eq (by first | exact E5.out | (rw [E5.out]; simp)) (set5_R HF.out.m HF.out.b2 (by decide)), R_eq (by first | exact E6.out | (rw [E6.out]; simp)) (set5_R HF.out.r1 HF.out.b2 (by decide)), R_eq (by first | exact E7.out | (rw [E7.out]; simp)) (set5_R HF.out.r2 HF.out.b2 (by decide)), R_eq (by first | exact E8.out | (rw [E8.out]; simp)) (set5_R HF.out.r3 HF.out.b2 (by decide)), set5_below HF.out.B HF.out.ne.2.2⟩
  | succ n_ ih =>
    intro s0 s1 s2 s3 h0 h1 h2 h3  hm u5 u1 x1 u2 x2 u3 x3 uB W vm lm z1 l1 z2 l2 z3 l3 HF HM H1 H2 H3
    have hc := spec_l07Copy.chk ⟨s0, by omega⟩ ⟨s1, by omega⟩ ⟨s2, by omega⟩ ⟨s3, by omega⟩
    simp only at hc
    refine ⟨fun e => absurd ((ready_eq ..).symm.trans e) (by rw [HT_.out]; exact hc.1), fun i_ hi => ?_⟩
    rw [ready_eq, HT_.out] at hi
    have hi2 := of_decide_eq_true (List.all_eq_true.1 hc.2 i_ hi)
    clear hi hc
    have HS : Aside0 (∀ w' vm' lm' z1' l1' z2' l2' z3' l3', F3 w gb gr #[.int .i64 a0_0, .slice A0_1 l0_1.length c0_1, .slice A0_2 l0_2.length c0_2, .slice A0_3 l0_3.length c0_3, .slice A0_4 l0_4.length c0_4] w' vm' lm' z1' l1' z2' l2' z3' l3' → (w'.cell? ⟨gb, 0, none⟩ = some (.int .i64 a0_0) ∧ w'.cell? ⟨gb, 1, none⟩ = some (.slice A0_1 l0_1.length c0_1) ∧ w'.cell? ⟨gb, 2, none⟩ = some (.slice A0_2 l0_2.length c0_2) ∧ w'.cell? ⟨gb, 3, none⟩ = some (.slice A0_3 l0_3.length c0_3) ∧ w'.cell? ⟨gb, 4, none⟩ = some (.slice A0_4 l0_4.length c0_4))) := ⟨fun _ _ _ _ _ _ _ _ _ h => cells5 h.b1⟩
    have IH := Aside0.mk ih
    clear ih
    rcases hi2 with ⟨rfl, e0⟩ | ⟨rfl, e0⟩ | ⟨rfl, e0⟩ | ⟨rfl, e0⟩ | ⟨rfl, e0⟩ | ⟨rfl, e0⟩ | ⟨rfl, e0⟩ | ⟨rfl, e0⟩
    · refine wpOp_step rfl (fun K hK => ?_)
      obtain rfl := e0
      obtain ⟨_, rfl, rfl⟩ := HM.out.resolve_right (fun e => by cases e.1)
      refine goes_ Try.func80 (by kernel_rfl) (by kernel_rfl) #[.agg #[.int .i64 a0_0, .slice A0_1 l0_1.length c0_1]] (by rfl) rfl rfl (by simp [Act.eval]) ?_
      refine (spec_l04Copy.calls a0_0 A0_1 c0_1 l0_1 t1 t2 _ (Kd.C_below HR1.out.1 HF.out.B) HR1.out.2 HC.out).mono ?_
      rintro e w1 ⟨v1, rfl, ho, hb⟩
      have q := HF.out.mesh hb ho
      exact ⟨_, rfl, hK _ _ ⟨fun _ _ => HS.out _ _ _ _ _ _ _ _ _ q, IH.out 1 s1 s2 s3 (by omega) (by omega) (by omega) (by omega) (by omega) _ u1 x1 u2 x2 u3 x3 uB w1 _ _ _ _ _ _ _ _ ⟨q⟩ ⟨Or.inr ⟨rfl, rfl, rfl⟩⟩ H1 H2 H3⟩⟩
    · refine wpOp_step rfl (fun K hK => ?_)
      obtain rfl := e0
      obtain ⟨e1, e2⟩ := H1.out
      subst e1 e2
      refine HF.out.make_ (by rfl) (N := 6) rfl (by go_simp) (fun v1 w1 q => ?_)
      exact hK _ _ ⟨fun _ _ => HS.out _ _ _ _ _ _ _ _ _ q, IH.out s0 1 s2 s3 (by omega) (by omega) (by omega) (by omega) (by omega) u5 v1 x1 u2 x2 u3 x3 uB w1 _ _ _ _ _ _ _ _ ⟨q⟩ HM ⟨⟨rfl, rfl⟩⟩ H2 H3⟩
    · refine wpOp_step rfl (fun K hK => ?_)
      obtain rfl := e0
      obtain ⟨e1, e2⟩ := H1.out
      subst e1 e2
      refine HF.out.app_ (by rfl) (.tmp 6) (.tmp 8) rfl Try.underlying27 info3 l0_2 A0_2 l0_2.length c0_2 rfl rfl (Kd.C_below HR2.out HF.out.B) (by have := HZ.out; simp only [List.length_nil]; omega) (fun v1 w1 q => ?_)
      rw [List.nil_append] at q
      exact hK _ _ ⟨fun _ _ => HS.out _ _ _ _ _ _ _ _ _ q, IH.out s0 2 s2 s3 (by omega) (by omega) (by omega) (by omega) (by omega) u5 u1 v1 u2 x2 u3 x3 uB w1 _ _ _ _ _ _ _ _ ⟨q⟩ HM ⟨⟨rfl, rfl⟩⟩ H2 H3⟩
    · refine wpOp_step rfl (fun K hK => ?_)
      obtain rfl := e0
      obtain ⟨e1, e2⟩ := H2.out
      subst e1 e2
      refine HF.out.rot.make_ (by rfl) (N := 10) rfl (by go_simp) (fun v1 w1 q => ?_)
      exact hK _ _ ⟨fun _ _ => HS.out _ _ _ _ _ _ _ _ _ q.rot.rot, IH.out s0 s1 1 s3 (by omega) (by omega) (by omega) (by omega) (by omega) u5 u1 x1 v1 x2 u3 x3 uB w1 _ _ _ _ _ _ _ _ ⟨q.rot.rot⟩ HM H1 ⟨⟨rfl, rfl⟩⟩ H3⟩
    · refine wpOp_step rfl (fun K hK => ?_)
      obtain rfl := e0
      obtain ⟨e1, e2⟩ := H2.out
      subst e1 e2
      refine HF.out.rot.app_ (by rfl) (.tmp 10) (.tmp 12) rfl Try.underlying27 info3 l0_3 A0_3 l0_3.length c0_3 rfl rfl (Kd.C_below HR3.out HF.out.B) (by have := HZ.out; simp only [List.length_nil]; omega) (fun v1 w1 q => ?_)
      rw [List.nil_append] at q
      exact hK _ _ ⟨fun _ _ => HS.out _ _ _ _ _ _ _ _ _ q.rot.rot, IH.out s0 s1 2 s3 (by omega) (by omega) (by omega) (by omega) (by omega) u5 u1 x1 u2 v1 u3 x3 uB w1 _ _ _ _ _ _ _ _ ⟨q.rot.rot⟩ HM H1 ⟨⟨rfl, rfl⟩⟩ H3⟩
    · refine wpOp_step rfl (fun K hK => ?_)
      obtain rfl := e0
      obtain ⟨e1, e2⟩ := H3.out
      subst e1 e2
      refine HF.out.rot.rot.make_ (by rfl) (N := 14) rfl (by go_simp) (fun v1 w1 q => ?_)
      exact hK _ _ ⟨fun _ _ => HS.out _ _ _ _ _ _ _ _ _ q.rot, IH.out s0 s1 s2 1 (by omega) (by omega) (by omega) (by omega) (by omega) u5 u1 x1 u2 x2 v1 x3 uB w1 _ _ _ _ _ _ _ _ ⟨q.rot⟩ HM H1 H2 ⟨⟨rfl, rfl⟩⟩⟩
    · refine wpOp_step rfl (fun K hK => ?_)
      obtain rfl := e0
      obtain ⟨e1, e2⟩ := H3.out
      subst e1 e2
      refine HF.out.rot.rot.app_ (by rfl) (.tmp 14) (.tmp 16) rfl Try.underlying27 info3 l0_4 A0_4 l0_4.length c0_4 rfl rfl (Kd.C_below HR4.out HF.out.B) (by have := HZ.out; simp only [List.length_nil]; omega) (fun v1 w1 q => ?_)
      rw [List.nil_append] at q
      exact hK _ _ ⟨fun _ _ => HS.out _ _ _ _ _ _ _ _ _ q.rot, IH.out s0 s1 s2 2 (by omega) (by omega) (by omega) (by omega) (by omega) u5 u1 x1 u2 x2 u3 v1 uB w1 _ _ _ _ _ _ _ _ ⟨q.rot⟩ HM H1 H2 ⟨⟨rfl, rfl⟩⟩⟩
    · omega
end Go.Proofs.Ytbkkehjhfgocfaa.PFnExactCoarsenState
