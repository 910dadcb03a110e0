/- Functions of the reference and of the program over states, walked by hand; no condition. -/
import Derived.Test.YtbkkehjhfgocfaaPFnTransferredx16
namespace Go.Proofs.Ytbkkehjhfgocfaa.PFnTransferred
open Go.RowKit Go.Proofs.YtbkkehjhfgocfaaW.PrintWords Go.Proofs.YtbkkehjhfgocfaaW.PrintLast Go.Proofs.YtbkkehjhfgocfaaW.PrintMore
set_option linter.unusedVariables false
set_option linter.unusedSimpArgs false
/-! ### five stores into one box -/
abbrev set5 (w : World) (g : Nat) (a b c d e : Value) : World := ((((w.setCell ⟨g, 0, none⟩ a).setCell ⟨g, 1, none⟩ b).setCell ⟨g, 2, none⟩ c).setCell ⟨g, 3, none⟩ d).setCell ⟨g, 4, none⟩ e
theorem set5_old {w : World} {g : Nat} (a b c d e : Value) (k : Nat) (h : k ≠ g) : (set5 w g a b c d e).heap[k]? = w.heap[k]? := by
  simp only [set5, Below.heap_setCell _ _ _ _ (show k ≠ (⟨g, 4, none⟩ : Addr).block from h), Below.heap_setCell _ _ _ _ (show k ≠ (⟨g, 3, none⟩ : Addr).block from h), Below.heap_setCell _ _ _ _ (show k ≠ (⟨g, 2, none⟩ : Addr).block from h), Below.heap_setCell _ _ _ _ (show k ≠ (⟨g, 1, none⟩ : Addr).block from h), Below.heap_setCell _ _ _ _ (show k ≠ (⟨g, 0, none⟩ : Addr).block from h)]
theorem set5_here {w : World} {g t : Nat} {x0 x1 x2 x3 x4 : Value} (h : w.heap[g]? = some (.cells #[x0, x1, x2, x3, x4] t (0, 0))) (a b c d e : Value) : (set5 w g a b c d e).heap[g]? = some (.cells #[a, b, c, d, e] t (0, 0)) :=
  blk_put (blk_put (blk_put (blk_put (blk_put h 0 a rfl) 1 b rfl) 2 c rfl) 3 d rfl) 4 e rfl
theorem set5_blk {w : World} {g g' : Nat} {o : Obj} (h : w.heap[g']? = some o) (hn : g' ≠ g) {a b c d e : Value} : (set5 w g a b c d e).heap[g']? = some o := (set5_old a b c d e g' hn).trans h
theorem set5_below {w0 w : World} {B g : Nat} (h : Below B w0 w) (hg : B ≤ g) {a b c d e : Value} : Below B w0 (set5 w g a b c d e) := ((((h.setCell hg a).setCell hg b).setCell hg c).setCell hg d).setCell hg e
theorem set5_R {α : Type} {d : Kd α} {q : Nat} {w : World} {base : Nat} {ok : Nat → Prop} {v : Value} {xs : List α} (h : d.R q w base ok v xs) {g t : Nat} {cells : Array Value} (hb : w.heap[g]? = some (.cells cells t (0, 0))) (ht : ∀ q', q' ∈ q :: d.E → q' ≠ t) {a b c u e : Value} : d.R q (set5 w g a b c u e) base ok v xs :=
  Kd.R_mono (Kd.R_step (Kd.R_types h hb ht) (fun k hk _ => set5_old a b c u e k hk.2)) (fun _ hk => hk.1)
theorem R_eq {α : Type} {d : Kd α} {q : Nat} {w : World} {base : Nat} {ok : Nat → Prop} {v : Value} {xs ys : List α} (e : xs = ys) (h : d.R q w base ok v xs) : d.R q w base ok v ys := e ▸ h
theorem cells5 {w : World} {g t : Nat} {a b c d e : Value} (h : w.heap[g]? = some (.cells #[a, b, c, d, e] t (0, 0))) : w.cell? ⟨g, 0, none⟩ = some a ∧ w.cell? ⟨g, 1, none⟩ = some b ∧ w.cell? ⟨g, 2, none⟩ = some c ∧ w.cell? ⟨g, 3, none⟩ = some d ∧ w.cell? ⟨g, 4, none⟩ = some e :=
  ⟨(blk_cell h 0).trans rfl, (blk_cell h 1).trans rfl, (blk_cell h 2).trans rfl, (blk_cell h 3).trans rfl, (blk_cell h 4).trans rfl⟩
theorem free5 {w : World} {g t : Nat} {cs : Array Value} (h : w.heap[g]? = some (.cells cs t (0, 0))) : w.frozen? ⟨g, 0, none⟩ = false ∧ w.frozen? ⟨g, 1, none⟩ = false ∧ w.frozen? ⟨g, 2, none⟩ = false ∧ w.frozen? ⟨g, 3, none⟩ = false ∧ w.frozen? ⟨g, 4, none⟩ = false :=
  ⟨blk_frozen h 0, blk_frozen h 1, blk_frozen h 2, blk_frozen h 3, blk_frozen h 4⟩
/-! ### three rows of whole numbers and one of cells, of the call's own, beside two boxes -/
def Ap (a b : Value) (k : Nat) : Prop := some k ≠ a.ownBlock ∧ some k ≠ b.ownBlock
structure F3 (w0 : World) (gb gr : Nat) (cs : Array Value) (w : World) (vm : Value) (lm : List S36) (z1 : Value) (l1 : List Int) (z2 : Value) (l2 : List Int) (z3 : Value) (l3 : List Int) : Prop where
  B : Below w0.heap.size w0 w
  b1 : w.heap[gb]? = some (.cells cs 29 (0, 0))
  b2 : w.heap[gr]? = some (.cells #[.int .i64 0, .slice none 0 0, .slice none 0 0, .slice none 0 0, .slice none 0 0] 29 (0, 0))
  ne : gb ≠ gr ∧ w0.heap.size ≤ gb ∧ w0.heap.size ≤ gr
  m : Kd.R k36 36 w w0.heap.size (fun _ => True) vm lm
  r1 : Kd.R (Kd.int .i64) 3 w w0.heap.size (Ap z2 z3) z1 l1
  r2 : Kd.R (Kd.int .i64) 3 w w0.heap.size (Ap z1 z3) z2 l2
  r3 : Kd.R (Kd.int .i64) 3 w w0.heap.size (Ap z1 z2) z3 l3
namespace F3
variable {w0 w W w1 : World} {gb gr : Nat} {cs : Array Value} {vm : Value} {lm : List S36} {z1 z2 z3 : Value} {l1 l2 l3 : List Int}
theorem rot (h : F3 w0 gb gr cs w vm lm z1 l1 z2 l2 z3 l3) : F3 w0 gb gr cs w vm lm z2 l2 z3 l3 z1 l1 :=
  ⟨h.B, h.b1, h.b2, h.ne, h.m, Kd.R_mono h.r2 (fun _ hk => ⟨hk.2, hk.1⟩), Kd.R_mono h.r3 (fun _ hk => ⟨hk.2, hk.1⟩), h.r1⟩
theorem below (h : F3 w0 gb gr cs w vm lm z1 l1 z2 l2 z3 l3) (hb : Below w.heap.size w w1) : F3 w0 gb gr cs w1 vm lm z1 l1 z2 l2 z3 l3 :=
  ⟨below_step h.B hb, blk_below h.b1 hb, blk_below h.b2 hb, h.ne, Kd.R_below h.m hb, Kd.R_below h.r1 hb, Kd.R_below h.r2 hb, Kd.R_below h.r3 hb⟩
theorem start (hB : Below w0.heap.size w0 w) (h1 : w.heap[gb]? = some (.cells cs 29 (0, 0))) (h2 : w.heap[gr]? = some (.cells #[.int .i64 0, .slice none 0 0, .slice none 0 0, .slice none 0 0, .slice none 0 0] 29 (0, 0))) (hn : gb ≠ gr ∧ w0.heap.size ≤ gb ∧ w0.heap.size ≤ gr) :
    F3 w0 gb gr cs w (.slice none 0 0) [] (.slice none 0 0) [] (.slice none 0 0) [] (.slice none 0 0) [] :=
  ⟨hB, h1, h2, hn, Kd.R_nil _ _ _ _ _, Kd.R_nil _ _ _ _ _, Kd.R_nil _ _ _ _ _, Kd.R_nil _ _ _ _ _⟩
theorem mesh (h : F3 w0 gb gr cs w (.slice none 0 0) [] z1 l1 z2 l2 z3 l3) (hb : Below w.heap.size w w1) {v : Value} {l : List S36} (hr : Kd.R k36 36 w1 w.heap.size (fun _ => True) v l) : F3 w0 gb gr cs w1 v l z1 l1 z2 l2 z3 l3 :=
  { h.below hb with m := Kd.R_lower hr h.B.size }
section
variable {P : Program} {ops : Array Oper} {o : Oper} {a : Act} {Q : Exit → Act → World → Prop} {Kc : Act → World → Prop}
theorem own_lt_ {ok : Nat → Prop} {base : Nat} {v : Value} {xs : List Int} (h : Kd.R (Kd.int .i64) 3 w base ok v xs) (k : Nat) (hk : w.heap.size ≤ k) : some k ≠ v.ownBlock := fun e => by
  obtain ⟨inner, ho⟩ := Kd.R_own h
  have := own_lt ho k e.symm
  omega
/-- An empty row is made. -/
theorem make_ (h : F3 w0 gb gr cs W vm lm (.slice none 0 0) [] z2 l2 z3 l3) (hw : Region.wanted o (yielded ops a.tmps) = true) {N : Tmp} (hd : o.dst = some N)
    (hrun : (execOp a.eval o).run P W = .ok (.value (.slice (some ⟨W.heap.size, 0, none⟩) 0 0)) (W.alloc (.cells #[] 3)))
    (hk : ∀ v1 w1, F3 w0 gb gr cs w1 vm lm v1 [] z2 l2 z3 l3 → Kc (a.put o.dst v1) w1) : if Region.wanted o (yielded ops a.tmps) = true then Oper.wp P o a W Kc Q else Kc (a.put o.dst undef) W := by
  refine Kd.R_lit_step (Kd.int .i64) (w0 := w0) w0.heap.size 3 hw hd (xs := []) (inner := []) (ok := Ap z2 z3) (okp := fun _ => False) hrun (Reps.none _ _) (fun _ h => h.elim) ⟨own_lt_ h.r2 _ (Nat.le_refl _), own_lt_ h.r3 _ (Nat.le_refl _)⟩ h.B h.B.size (by simp) ?_
  intro v1 w1 ho hb hg hnew
  obtain ⟨b, e, hb1⟩ := hnew
  have hb2 : Below W.heap.size W w1 := ⟨hg.os, hg.tape, hg.output, hg.size, fun k hk => hg.block k hk (by simp)⟩
  have q := h.below hb2
  have hne : ∀ (u : Value) (ok : Nat → Prop) (xs : List Int), Kd.R (Kd.int .i64) 3 W w0.heap.size ok u xs → Kd.R (Kd.int .i64) 3 w1 w0.heap.size (fun k => ok k ∧ some k ≠ v1.ownBlock) u xs := fun u ok xs hr =>
    Kd.R_mono (Kd.R_below (Kd.R_bound hr) hb2) (fun k hk => ⟨hk.1, fun e2 => by rw [e] at e2; injection e2 with e2; have := hk.2.2.1; omega⟩)
  exact hk v1 w1 ⟨q.B, q.b1, q.b2, q.ne, q.m, ho, Kd.R_mono (hne _ _ _ h.r2) (fun _ hk => ⟨hk.2, hk.1.2⟩), Kd.R_mono (hne _ _ _ h.r3) (fun _ hk => ⟨hk.2, hk.1.2⟩)⟩
/-- Numbers are appended to the first row. -/
theorem app_of {ys : List Int} {v1 : Value} (h : F3 w0 gb gr cs W vm lm z1 l1 z2 l2 z3 l3) (ho : Kd.R (Kd.int .i64) 3 w1 w0.heap.size (Ap z2 z3) v1 ys) (hb : Below w0.heap.size w0 w1) (hg : W.grownBy w1 z1.ownBlock) (hat : v1.ownBlock = z1.ownBlock ∨ ∃ b, v1.ownBlock = some b ∧ W.heap.size ≤ b) : F3 w0 gb gr cs w1 vm lm v1 ys z2 l2 z3 l3 := by
  have hne : ∀ (u : Value) (ok : Nat → Prop) (xs : List Int), Kd.R (Kd.int .i64) 3 W w0.heap.size (fun k => ok k ∧ some k ≠ z1.ownBlock) u xs → Kd.R (Kd.int .i64) 3 w1 w0.heap.size (fun k => ok k ∧ some k ≠ v1.ownBlock) u xs := fun u ok xs hr =>
    Kd.R_mono (Kd.R_grown (Kd.R_bound hr) hg (fun k hk => hk.1.2)) (fun k hk => ⟨hk.1.1, fun e2 => by
      rcases hat with e | ⟨b, e, hb1⟩
      · rw [e] at e2; exact hk.1.2 e2
      · rw [e] at e2; injection e2 with e2; have := hk.2.2.1; omega⟩)
  exact ⟨hb, blk_grown h.b1 hg (Kd.R_ne h.r1 h.b1 (by decide)), blk_grown h.b2 hg (Kd.R_ne h.r1 h.b2 (by decide)), h.ne, Kd.R_mono (Kd.R_grown (Kd.R_apart' h.m (Kd.R_typed h.r1) (by decide)) hg (fun k hk => hk.2)) (fun _ hk => hk.1), ho,
    Kd.R_mono (hne _ (fun k => some k ≠ z3.ownBlock) _ (Kd.R_mono h.r2 (fun _ hk => ⟨hk.2, hk.1⟩))) (fun _ hk => ⟨hk.2, hk.1⟩), Kd.R_mono (hne _ (fun k => some k ≠ z2.ownBlock) _ (Kd.R_mono h.r3 (fun _ hk => ⟨hk.2, hk.1⟩))) (fun _ hk => ⟨hk.2, hk.1⟩)⟩
theorem app_ (h : F3 w0 gb gr cs W vm lm z1 l1 z2 l2 z3 l3) (hw : Region.wanted o (yielded ops a.tmps) = true) (s x : Operand)
    (ho : o.op = .call { callee := .builtin .append, args := #[s, x], argTypes := #[27, 27] }) (ht : P.underlying 27 = some (.slice 3)) (hinfo : (P.info? 3).map (fun i => (i.zero, i.size, i.bytes)) = some (some (.int .i64 0), 1, 8))
    (ys : List Int) (A : Option Addr) (n c : Nat) (hs : a.eval s = z1) (hx : a.eval x = .slice A n c) (hR : Kd.C (Kd.int .i64) W A n ys) (hl : (l1.length + n) * 8 ≤ 140737488355328)
    (hk : ∀ v1 w1, F3 w0 gb gr cs w1 vm lm v1 (l1 ++ ys) z2 l2 z3 l3 → Kc (a.put o.dst v1) w1) : if Region.wanted o (yielded ops a.tmps) = true then Oper.wp P o a W Kc Q else Kc (a.put o.dst undef) W := by
  refine Kd.R_append_rows_step (Kd.int .i64) (w0 := w0) w0.heap.size hw s x 27 3 (.int .i64 0) 8 ho ht hinfo rfl (by decide) (by omega) z1 l1 ys A n c (Ap z2 z3) (fun _ => False) hs hx h.r1 hR (fun _ _ h => h) (fun _ h => h.elim) (fun k hk => ⟨own_lt_ h.r2 k hk, own_lt_ h.r3 k hk⟩) h.B h.B.size hl ?_
  intro v1 w1 ho hb hg hat
  exact hk v1 w1 (h.app_of ho hb hg hat)
end
end F3
/-- Where a row stands: not begun, begun (pre), filled (dst). u: the value that it had when it was begun, x: the filled one's. -/
def RowSt (u x z : Value) (l pre dst : List Int) : Nat → Prop
  | 0 => z = .slice none 0 0 ∧ l = []
  | 1 => u = z ∧ l = pre
  | _ => x = z ∧ l = dst
namespace F3
section
variable {w0 w W w1 : World} {gb gr : Nat} {cs : Array Value} {vm : Value} {lm : List S36} {z1 z2 z3 : Value} {l1 l2 l3 : List Int}
variable {P : Program} {ops : Array Oper} {o : Oper} {rest : List Oper} {a : Act} {Q : Exit → Act → World → Prop}
/-- The same in a plain region. -/
theorem make_l (h : F3 w0 gb gr cs W vm lm (.slice none 0 0) [] z2 l2 z3 l3) (hg : o.guard = none) {N : Tmp} (hd : o.dst = some N)
    (hrun : (execOp a.eval o).run P W = .ok (.value (.slice (some ⟨W.heap.size, 0, none⟩) 0 0)) (W.alloc (.cells #[] 3)))
    (hk : ∀ v1 w1, F3 w0 gb gr cs w1 vm lm v1 [] z2 l2 z3 l3 → wpList P ops Q rest (a.put o.dst v1) w1) : wpList P ops Q (o :: rest) a W := by
  refine wpList_plain hg fun K hK => ?_
  have := h.make_ (Kc := K) (Q := Q) (ops := ops) (a := a) (o := o) (by simp [Region.wanted, hg]) hd hrun (fun v1 w1 q => hK _ _ (hk v1 w1 q))
  rwa [if_pos (by simp [Region.wanted, hg])] at this
theorem app_l (h : F3 w0 gb gr cs W vm lm z1 l1 z2 l2 z3 l3) (hg : o.guard = none) (s x : Operand)
    (ho : o.op = .call { callee := .builtin .append, args := #[s, x], argTypes := #[27, 27] }) (ht : P.underlying 27 = some (.slice 3)) (hinfo : (P.info? 3).map (fun i => (i.zero, i.size, i.bytes)) = some (some (.int .i64 0), 1, 8))
    (ys : List Int) (A : Option Addr) (n c : Nat) (hs : a.eval s = z1) (hx : a.eval x = .slice A n c) (hR : Kd.C (Kd.int .i64) W A n ys) (hl : (l1.length + n) * 8 ≤ 140737488355328)
    (hk : ∀ v1 w1, F3 w0 gb gr cs w1 vm lm v1 (l1 ++ ys) z2 l2 z3 l3 → wpList P ops Q rest (a.put o.dst v1) w1) : wpList P ops Q (o :: rest) a W := by
  refine wpList_plain hg fun K hK => ?_
  have := h.app_ (Kc := K) (Q := Q) (ops := ops) (a := a) (o := o) (by simp [Region.wanted, hg]) s x ho ht hinfo ys A n c hs hx hR hl (fun v1 w1 q => hK _ _ (hk v1 w1 q))
  rwa [if_pos (by simp [Region.wanted, hg])] at this
/-- A list of numbers written out: it lies in memory of its own, and the rows stand. -/
theorem lit_l (h : F3 w0 gb gr cs W vm lm z1 l1 z2 l2 z3 l3) (hg : o.guard = none) {N : Tmp} (hd : o.dst = some N) (ys : List Int) (hy : ys.length ≤ 9223372036854775807)
    (hrun : (execOp a.eval o).run P W = .ok (.value (.slice (some ⟨W.heap.size, 0, none⟩) ys.length ys.length)) (W.alloc (.cells (ys.map (Value.int .i64)).toArray 3)))
    (hk : ∀ A w1, F3 w0 gb gr cs w1 vm lm z1 l1 z2 l2 z3 l3 → Kd.C (Kd.int .i64) w1 A ys.length ys → wpList P ops Q rest (a.put o.dst (.slice A ys.length ys.length)) w1) : wpList P ops Q (o :: rest) a W := by
  refine Kd.event_run hg hrun (hk _ _ (h.below (below_alloc (Below.refl _ _) _)) ?_)
  refine Kd.C_of_reads (enc := Value.int .i64) (d := (0 : Int)) (h1 := fun _ => rfl) ⟨rfl, hy, fun hn => ⟨_, rfl, fun j hj => ?_⟩⟩
  rw [add_plain, blk_cell (blk_new W _) j]
  simp [List.getD_eq_getElem?_getD, hj]
variable {Kc : Act → World → Prop}
theorem lit_ (h : F3 w0 gb gr cs W vm lm z1 l1 z2 l2 z3 l3) (hw : Region.wanted o (yielded ops a.tmps) = true) {N : Tmp} (hd : o.dst = some N) (ys : List Int) (hy : ys.length ≤ 9223372036854775807)
    (hrun : (execOp a.eval o).run P W = .ok (.value (.slice (some ⟨W.heap.size, 0, none⟩) ys.length ys.length)) (W.alloc (.cells (ys.map (Value.int .i64)).toArray 3)))
    (hk : ∀ A w1, F3 w0 gb gr cs w1 vm lm z1 l1 z2 l2 z3 l3 → Kd.C (Kd.int .i64) w1 A ys.length ys → Kc (a.put o.dst (.slice A ys.length ys.length)) w1) : if Region.wanted o (yielded ops a.tmps) = true then Oper.wp P o a W Kc Q else Kc (a.put o.dst undef) W := by
  refine event_step hw hrun (hk _ _ (h.below (below_alloc (Below.refl _ _) _)) ?_)
  refine Kd.C_of_reads (enc := Value.int .i64) (d := (0 : Int)) (h1 := fun _ => rfl) ⟨rfl, hy, fun hn => ⟨_, rfl, fun j hj => ?_⟩⟩
  rw [add_plain, blk_cell (blk_new W _) j]
  simp [List.getD_eq_getElem?_getD, hj]
end
end F3
/-- What is cut out of a row that is read. -/
theorem take_cut {w : World} {A : Option Addr} {c : Nat} {l : List Int} (hC : (Kd.int .i64).C w A l.length l) (hc : l.length ≤ c) (i : Nat) (hi : i ≤ l.length) :
    (∀ W : World, (Instr.slice 27 (.slice A l.length c) none (some (.int .i64 (i : Int))) none).run Try.prog W = .ok (.slice A i c) W) ∧ (Kd.int .i64).C w A i (l.take i) := by
  obtain ⟨i0, h0, _, hsz, _⟩ := info_parts info3
  obtain ⟨h1, h2, _⟩ := print_take_of (P := Try.prog) (Value.int .i64) 0 27 3 .i64 Try.underlying27 h0 hsz A c l (i : Int) (by omega) (by omega) hc
  rw [Int.toNat_natCast, show (l.take i).length = i by rw [List.length_take]; omega] at h1 h2
  exact ⟨h1, Kd.C_of_reads (h1 := fun _ => rfl) (h2 w (Kd.reads_of_C hC))⟩
theorem drop_cut {w : World} {A : Option Addr} {c : Nat} {l : List Int} (hC : (Kd.int .i64).C w A l.length l) (hc : l.length ≤ c) (j : Int) (n : Nat) (hj : j = (n : Int)) (hn : n ≤ l.length) :
    ∃ A' n' c', n' + n = l.length ∧ (∀ W : World, (Instr.slice 27 (.slice A l.length c) (some (.int .i64 j)) none none).run Try.prog W = .ok (.slice A' n' c') W) ∧ (Kd.int .i64).C w A' n' (l.drop n) := by
  subst hj
  obtain ⟨i0, h0, _, hsz, _⟩ := info_parts info3
  obtain ⟨A', h1, h2, _⟩ := print_drop_of (P := Try.prog) (Value.int .i64) 0 27 3 .i64 Try.underlying27 h0 hsz A c l (n : Int) (by omega) (by omega) hc
  rw [Int.toNat_natCast] at h1 h2
  exact ⟨A', (l.drop n).length, _, by rw [List.length_drop]; omega, h1, Kd.C_of_reads (h1 := fun _ => rfl) (h2 w (Kd.reads_of_C hC))⟩
/-! ### states in one word -/
/-- A state of the call's own in blocks from lo on and below hi; its rows of numbers are three. -/
structure Ow (lo hi : Nat) (w : World) (u1 : Value) (l : List S36) (u2 : Value) (m : List Int) (u3 : Value) (t : List Int) (u4 : Value) (b : List Int) : Prop where
  r1 : Kd.R k36 36 w lo (fun k => k < hi) u1 l
  r2 : Kd.R (Kd.int .i64) 3 w lo (fun k => k < hi ∧ Ap u3 u4 k) u2 m
  r3 : Kd.R (Kd.int .i64) 3 w lo (fun k => k < hi ∧ Ap u2 u4 k) u3 t
  r4 : Kd.R (Kd.int .i64) 3 w lo (fun k => k < hi ∧ Ap u2 u3 k) u4 b
  top : hi ≤ w.heap.size
namespace Ow
variable {lo hi : Nat} {w w1 : World} {u1 u2 u3 u4 : Value} {l : List S36} {m t b : List Int}
theorem of_ (h1 : Kd.R k36 36 w1 lo (fun _ => True) u1 l) (h2 : Kd.R (Kd.int .i64) 3 w1 lo (Ap u3 u4) u2 m) (h3 : Kd.R (Kd.int .i64) 3 w1 lo (Ap u2 u4) u3 t) (h4 : Kd.R (Kd.int .i64) 3 w1 lo (Ap u2 u3) u4 b) : Ow lo w1.heap.size w1 u1 l u2 m u3 t u4 b :=
  ⟨Kd.R_mono (Kd.R_bound h1) (fun _ hk => hk.2.2.1), Kd.R_mono (Kd.R_bound h2) (fun _ hk => ⟨hk.2.2.1, hk.1⟩), Kd.R_mono (Kd.R_bound h3) (fun _ hk => ⟨hk.2.2.1, hk.1⟩), Kd.R_mono (Kd.R_bound h4) (fun _ hk => ⟨hk.2.2.1, hk.1⟩), Nat.le_refl _⟩
theorem step (h : Ow lo hi w u1 l u2 m u3 t u4 b) (hs : w.heap.size ≤ w1.heap.size) (hm : ∀ k, lo ≤ k → k < hi → k < w.heap.size → (∃ q, (q = 36 ∨ q = 3) ∧ ∃ cells, w.heap[k]? = some (.cells cells q (0, 0))) → w1.heap[k]? = w.heap[k]?) : Ow lo hi w1 u1 l u2 m u3 t u4 b := by
  have q1 : ∀ q, q ∈ (36 :: k36.E) → q = 36 ∨ q = 3 := by decide
  have q2 : ∀ q, q ∈ (3 :: (Kd.int .i64).E) → q = 36 ∨ q = 3 := by decide
  refine ⟨Kd.R_mono (Kd.R_move (Kd.R_bound h.r1) ?_) (fun _ hk => hk.1), Kd.R_mono (Kd.R_move (Kd.R_bound h.r2) ?_) (fun _ hk => hk.1), Kd.R_mono (Kd.R_move (Kd.R_bound h.r3) ?_) (fun _ hk => hk.1), Kd.R_mono (Kd.R_move (Kd.R_bound h.r4) ?_) (fun _ hk => hk.1), Nat.le_trans h.top hs⟩
  · intro k hk; obtain ⟨h1, h2, h3, q, hq, hc⟩ := hk; exact hm k h2 h1 h3 ⟨q, q1 q hq, hc⟩
  · intro k hk; obtain ⟨h1, h2, h3, q, hq, hc⟩ := hk; exact hm k h2 h1.1 h3 ⟨q, q2 q hq, hc⟩
  · intro k hk; obtain ⟨h1, h2, h3, q, hq, hc⟩ := hk; exact hm k h2 h1.1 h3 ⟨q, q2 q hq, hc⟩
  · intro k hk; obtain ⟨h1, h2, h3, q, hq, hc⟩ := hk; exact hm k h2 h1.1 h3 ⟨q, q2 q hq, hc⟩
theorem below (h : Ow lo hi w u1 l u2 m u3 t u4 b) (hb : Below w.heap.size w w1) : Ow lo hi w1 u1 l u2 m u3 t u4 b := h.step hb.size (fun k _ _ hk _ => hb.block k hk)
theorem kept (h : Ow lo hi w u1 l u2 m u3 t u4 b) {S : Nat → Prop} (hk : Kept w w1 S) (hn : ∀ k, lo ≤ k → k < hi → ¬ S k) : Ow lo hi w1 u1 l u2 m u3 t u4 b := h.step hk.1 (fun k h1 h2 h3 _ => hk.2 k h3 (hn k h1 h2))
theorem set5 (h : Ow lo hi w u1 l u2 m u3 t u4 b) {g : Nat} {cs : Array Value} (hb : w.heap[g]? = some (.cells cs 29 (0, 0))) {x0 x1 x2 x3 x4 : Value} : Ow lo hi (set5 w g x0 x1 x2 x3 x4) u1 l u2 m u3 t u4 b :=
  h.step (by simp [World.setCell]) (fun k _ _ _ hc => set5_old _ _ _ _ _ k (by
    rintro rfl
    obtain ⟨q, hq, cells, hc⟩ := hc
    rw [hc] at hb
    injection hb with hb
    injection hb with _ hb
    rcases hq with rfl | rfl
    · exact absurd hb (by decide)
    · exact absurd hb (by decide)))
theorem topl (h : Ow lo hi w u1 l u2 m u3 t u4 b) (hb : Below w.heap.size w w1) : hi ≤ w.heap.size := h.top
theorem slices (h : Ow lo hi w u1 l u2 m u3 t u4 b) : ∃ A1 c1 A2 c2 A3 c3 A4 c4, u1 = .slice A1 l.length c1 ∧ u2 = .slice A2 m.length c2 ∧ u3 = .slice A3 t.length c3 ∧ u4 = .slice A4 b.length c4 := by
  obtain ⟨A1, c1, e1⟩ := Kd.R_slice h.r1
  obtain ⟨A2, c2, e2⟩ := Kd.R_slice h.r2
  obtain ⟨A3, c3, e3⟩ := Kd.R_slice h.r3
  obtain ⟨A4, c4, e4⟩ := Kd.R_slice h.r4
  exact ⟨A1, c1, A2, c2, A3, c3, A4, c4, e1, e2, e3, e4⟩
end Ow
theorem szl {w0 w w1 : World} (h : Below w0.heap.size w0 w) (hb : Below w.heap.size w w1) : w0.heap.size ≤ w.heap.size := h.size
/-- Four rows that can be read. -/
structure Rd {α : Type} (d : Kd α) (w : World) (A1 : Option Addr) (c1 : Nat) (l : List α) (A2 : Option Addr) (c2 : Nat) (m : List Int) (A3 : Option Addr) (c3 : Nat) (t : List Int) (A4 : Option Addr) (c4 : Nat) (b : List Int) : Prop where
  r1 : d.C w A1 l.length l
  k1 : l.length ≤ c1
  r2 : (Kd.int .i64).C w A2 m.length m
  k2 : m.length ≤ c2
  r3 : (Kd.int .i64).C w A3 t.length t
  k3 : t.length ≤ c3
  r4 : (Kd.int .i64).C w A4 b.length b
  k4 : b.length ≤ c4
theorem Rd.below {α : Type} {d : Kd α} {w w1 : World} {A1 A2 A3 A4 : Option Addr} {c1 c2 c3 c4 : Nat} {l : List α} {m t b : List Int} (h : Rd d w A1 c1 l A2 c2 m A3 c3 t A4 c4 b) (hb : Below w.heap.size w w1) : Rd d w1 A1 c1 l A2 c2 m A3 c3 t A4 c4 b :=
  ⟨Kd.C_below h.r1 hb, h.k1, Kd.C_below h.r2 hb, h.k2, Kd.C_below h.r3 hb, h.k3, Kd.C_below h.r4 hb, h.k4⟩
theorem Ow.rd {lo hi : Nat} {w : World} {A1 A2 A3 A4 : Option Addr} {c1 c2 c3 c4 n1 n2 n3 n4 : Nat} {l : List S36} {m t b : List Int} (h : Ow lo hi w (.slice A1 n1 c1) l (.slice A2 n2 c2) m (.slice A3 n3 c3) t (.slice A4 n4 c4) b) : Rd k36 w A1 c1 l A2 c2 m A3 c3 t A4 c4 b :=
  ⟨OwnK.R_C h.r1, OwnK.R_cap h.r1, OwnK.R_C h.r2, OwnK.R_cap h.r2, OwnK.R_C h.r3, OwnK.R_cap h.r3, OwnK.R_C h.r4, OwnK.R_cap h.r4⟩
/-- What a state is as a value. -/
abbrev stv (R : Int) (u1 u2 u3 u4 : Value) : Value := .agg #[.int .i64 R, u1, u2, u3, u4]
/-- What a call that makes a state leaves. -/
def Made (w : World) (R : Int) (l : List S36) (m t b : List Int) (out : Value → Ending) (e : Ending) (w1 : World) : Prop :=
  ∃ A1 c1 A2 c2 A3 c3 A4 c4, e = out (.agg #[.int .i64 R, .slice A1 l.length c1, .slice A2 m.length c2, .slice A3 t.length c3, .slice A4 b.length c4]) ∧ Ow w.heap.size w1.heap.size w1 (.slice A1 l.length c1) l (.slice A2 m.length c2) m (.slice A3 t.length c3) t (.slice A4 b.length c4) b ∧ Below w.heap.size w w1
theorem Made.of_ {w w1 : World} {R : Int} {l : List S36} {m t b : List Int} {out : Value → Ending} {e : Ending} (h : ∃ v1_ v2_ v3_ v4_ : Value, e = out (.agg #[.int .i64 R, v1_, v2_, v3_, v4_]) ∧ Kd.R k36 36 w1 w.heap.size (fun _ => True) v1_ l ∧ Kd.R (Kd.int .i64) 3 w1 w.heap.size (fun k_ => some k_ ≠ (v3_ : Value).ownBlock ∧ some k_ ≠ (v4_ : Value).ownBlock) v2_ m ∧ Kd.R (Kd.int .i64) 3 w1 w.heap.size (fun k_ => some k_ ≠ (v2_ : Value).ownBlock ∧ some k_ ≠ (v4_ : Value).ownBlock) v3_ t ∧ Kd.R (Kd.int .i64) 3 w1 w.heap.size (fun k_ => some k_ ≠ (v2_ : Value).ownBlock ∧ some k_ ≠ (v3_ : Value).ownBlock) v4_ b ∧ Below w.heap.size w w1) : Made w R l m t b out e w1 := by
  obtain ⟨v1, v2, v3, v4, rfl, h1, h2, h3, h4, hb⟩ := h
  have ho := Ow.of_ h1 h2 h3 h4
  obtain ⟨A1, c1, A2, c2, A3, c3, A4, c4, rfl, rfl, rfl, rfl⟩ := ho.slices
  exact ⟨A1, c1, A2, c2, A3, c3, A4, c4, rfl, ho, hb⟩
/-! ### more contracts in those words -/
theorem Ow.made {w w1 : World} {lo hi : Nat} {A1 A2 A3 A4 : Option Addr} {c1 c2 c3 c4 : Nat} {R : Int} {l : List S36} {m t b : List Int} {out : Value → Ending} (h : Ow lo hi w1 (.slice A1 l.length c1) l (.slice A2 m.length c2) m (.slice A3 t.length c3) t (.slice A4 b.length c4) b) (hl : w.heap.size ≤ lo) (hb : Below w.heap.size w w1) :
    Made w R l m t b out (out (.agg #[.int .i64 R, .slice A1 l.length c1, .slice A2 m.length c2, .slice A3 t.length c3, .slice A4 b.length c4])) w1 :=
  ⟨A1, c1, A2, c2, A3, c3, A4, c4, rfl, ⟨Kd.R_lower (Kd.R_mono h.r1 (fun _ hk => Nat.lt_of_lt_of_le hk h.top)) hl, Kd.R_lower (Kd.R_mono h.r2 (fun _ hk => ⟨Nat.lt_of_lt_of_le hk.1 h.top, hk.2⟩)) hl, Kd.R_lower (Kd.R_mono h.r3 (fun _ hk => ⟨Nat.lt_of_lt_of_le hk.1 h.top, hk.2⟩)) hl, Kd.R_lower (Kd.R_mono h.r4 (fun _ hk => ⟨Nat.lt_of_lt_of_le hk.1 h.top, hk.2⟩)) hl, Nat.le_refl _⟩, hb⟩
section
variable {k : Nat} {A1 A2 A3 A4 : Option Addr} {c1 c2 c3 c4 : Nat} {R R' : Int} {m t b m' t' b' : List Int} {w : World} {l l' : List S36}
theorem icp_go (h : impl_copyState.f R l m t b = some (R', l', m', t', b')) (ha : Rd k36 w A1 c1 l A2 c2 m A3 c3 t A4 c4 b) :
    Calls Try.prog 48 #[.agg #[.int .i64 R, .slice A1 l.length c1, .slice A2 m.length c2, .slice A3 t.length c3, .slice A4 b.length c4]] w (Made w R' l' m' t' b' .returned) :=
  (impl_copyState.calls R A1 c1 l A2 c2 m A3 c3 t A4 c4 b R' l' m' t' b' w ha.r1 ha.k1 ha.r2 ha.k2 ha.r3 ha.k3 ha.r4 ha.k4 h).mono (fun _ _ hq => Made.of_ hq)
theorem sok_go {r : Bool} (h : spec_StateOk.f k R l m t b = some r) (ha : Rd k36 w A1 c1 l A2 c2 m A3 c3 t A4 c4 b) :
    Calls Try.prog 17 #[.agg #[.int .i64 R, .slice A1 l.length c1, .slice A2 m.length c2, .slice A3 t.length c3, .slice A4 b.length c4]] w fun e w' => e = .returned (.bool r) ∧ Below w.heap.size w w' :=
  spec_StateOk.calls k R A1 c1 l A2 c2 m A3 c3 t A4 c4 b r w ha.r1 ha.k1 ha.r2 ha.k2 ha.r3 ha.k3 ha.r4 ha.k4 h
theorem iok_go {r : Bool} (h : impl_StateOk.f k R l m t b = some r) (ha : Rd k36 w A1 c1 l A2 c2 m A3 c3 t A4 c4 b) :
    Calls Try.prog 32 #[.agg #[.int .i64 R, .slice A1 l.length c1, .slice A2 m.length c2, .slice A3 t.length c3, .slice A4 b.length c4]] w fun e w' => e = .returned (.bool r) ∧ Below w.heap.size w w' :=
  impl_StateOk.calls k R A1 c1 l A2 c2 m A3 c3 t A4 c4 b r w ha.r1 ha.k1 ha.r2 ha.k2 ha.r3 ha.k3 ha.r4 ha.k4 h
theorem imc_go {i : Int} {x : Bool} (h : impl_MayCoarsen.f k R l i = some x) (ha : Rd k36 w A1 c1 l A2 c2 m A3 c3 t A4 c4 b) :
    Calls Try.prog 55 #[.agg #[.int .i64 R, .slice A1 l.length c1], .int .i64 i] w fun e w' => e = .returned (.bool x) ∧ Below w.heap.size w w' := impl_MayCoarsen.calls k R A1 c1 l i x w ha.r1 ha.k1 h
theorem imr_go {i : Int} {x : Bool} (h : impl_MayRefine.f k R l i = some x) (ha : Rd k36 w A1 c1 l A2 c2 m A3 c3 t A4 c4 b) :
    Calls Try.prog 49 #[.agg #[.int .i64 R, .slice A1 l.length c1], .int .i64 i] w fun e w' => e = .returned (.bool x) ∧ Below w.heap.size w w' := impl_MayRefine.calls k R A1 c1 l i x w ha.r1 ha.k1 h
end
end Go.Proofs.Ytbkkehjhfgocfaa.PFnTransferred
