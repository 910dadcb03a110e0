/- Functions of the reference and of the program over states, walked by hand; no condition. -/
import Derived.Test.YtbkkehjhfgocfaaReplInt
import Derived.Test.YtbkkehjhfgocfaaPFnTransferredx17
namespace Go.Proofs.Ytbkkehjhfgocfaa.PFnTransferred
open Go.RowKit Go.Proofs.YtbkkehjhfgocfaaW.PrintWords Go.Proofs.YtbkkehjhfgocfaaW.PrintLast Go.Proofs.YtbkkehjhfgocfaaW.PrintMore
set_option linter.unusedVariables false
set_option linter.unusedSimpArgs false
namespace Ow
variable {lo hi : Nat} {w w1 : World} {u1 u2 u3 u4 v : Value} {l l' : List S36} {m t b m' : List Int}
theorem swap (h : Ow lo hi w u1 l u2 m u3 t u4 b) : Ow lo hi w u1 l u3 t u2 m u4 b :=
  ⟨h.r1, h.r3, h.r2, Kd.R_mono h.r4 (fun _ hk => ⟨hk.1, hk.2.2, hk.2.1⟩), h.top⟩
/-- A row of numbers is written anew. -/
theorem put2 (h : Ow lo hi w u1 l u2 m u3 t u4 b) (hg : w.grownBy w1 u2.ownBlock) (hr : Kd.R (Kd.int .i64) 3 w1 lo (fun _ => True) v m') (hat : v.ownBlock = u2.ownBlock ∨ ∃ c, v.ownBlock = some c ∧ w.heap.size ≤ c) : Ow lo w1.heap.size w1 u1 l v m' u3 t u4 b := by
  have key : ∀ {α : Type} {d : Kd α} {e : Nat} {ok : Nat → Prop} {u : Value} {xs : List α}, d.R e w lo (fun k => ok k ∧ some k ≠ u2.ownBlock) u xs → d.R e w1 lo (fun k => k < w1.heap.size ∧ ok k ∧ some k ≠ v.ownBlock) u xs := fun hx =>
    Kd.R_mono (Kd.R_grown (Kd.R_bound hx) hg (fun k hk => hk.1.2)) (fun k hk => ⟨Nat.lt_of_lt_of_le hk.2.2.1 hg.size, hk.1.1, fun e => by
      rcases hat with e2 | ⟨c, e2, hc⟩
      · rw [e2] at e; exact hk.1.2 e
      · rw [e2] at e; injection e with e; have := hk.2.2.1; omega⟩)
  have a1 := key (ok := fun _ => True) (Kd.R_mono (Kd.R_apart' h.r1 (Kd.R_typed h.r2) (by decide)) (fun _ hk => ⟨trivial, hk.2⟩))
  have a3 := key (ok := fun k => some k ≠ u4.ownBlock) (Kd.R_mono h.r3 (fun _ hk => ⟨hk.2.2, hk.2.1⟩))
  have a4 := key (ok := fun k => some k ≠ u3.ownBlock) (Kd.R_mono h.r4 (fun _ hk => ⟨hk.2.2, hk.2.1⟩))
  refine ⟨Kd.R_mono a1 (fun _ hk => hk.1), ?_, Kd.R_mono a3 (fun _ hk => ⟨hk.1, hk.2.2, hk.2.1⟩), Kd.R_mono a4 (fun _ hk => ⟨hk.1, hk.2.2, hk.2.1⟩), Nat.le_refl _⟩
  have hn : ∀ k, v.ownBlock = some k → k < w1.heap.size := fun k hk => by
    obtain ⟨inner, ho⟩ := Kd.R_own hr
    exact own_lt ho k hk
  refine Kd.R_reok rfl hr (fun k hk => ⟨hn k hk, fun e => ?_, fun e => ?_⟩)
  · rcases hat with e2 | ⟨c, e2, hc⟩
    · rw [hk] at e2; exact (h.r2.1 k e2.symm).2.1 e
    · rw [hk] at e2; injection e2 with e2
      obtain ⟨inner, ho⟩ := Kd.R_own h.r3
      have := own_lt ho k e.symm; omega
  · rcases hat with e2 | ⟨c, e2, hc⟩
    · rw [hk] at e2; exact (h.r2.1 k e2.symm).2.2 e
    · rw [hk] at e2; injection e2 with e2
      obtain ⟨inner, ho⟩ := Kd.R_own h.r4
      have := own_lt ho k e.symm; omega
theorem put3 (h : Ow lo hi w u1 l u2 m u3 t u4 b) (hg : w.grownBy w1 u3.ownBlock) (hr : Kd.R (Kd.int .i64) 3 w1 lo (fun _ => True) v m') (hat : v.ownBlock = u3.ownBlock ∨ ∃ c, v.ownBlock = some c ∧ w.heap.size ≤ c) : Ow lo w1.heap.size w1 u1 l u2 m v m' u4 b := (h.swap.put2 hg hr hat).swap
/-- The cells' row is written anew. -/
theorem put1 (h : Ow lo hi w u1 l u2 m u3 t u4 b) {gs : Nat} {cs : Array Value} (hb : w.heap[gs]? = some (.cells cs 29 (0, 0))) (hk : Kept w w1 (fun k => k = gs ∨ some k = u1.ownBlock)) (hr : Kd.R k36 36 w1 lo (fun _ => True) v l') : Ow lo w1.heap.size w1 v l' u2 m u3 t u4 b := by
  have key : ∀ {ok : Nat → Prop} {u : Value} {xs : List Int}, Kd.R (Kd.int .i64) 3 w lo ok u xs → Kd.R (Kd.int .i64) 3 w1 lo (fun k => ok k ∧ k < w1.heap.size) u xs := fun hx =>
    Kd.R_mono (Kd.R_step (Kd.R_bound (Kd.R_types (Kd.R_apart' hx (Kd.R_typed h.r1) (by decide)) hb (by decide))) (fun k h1 h2 => hk.2 k h2 (by rintro (e | e); exact h1.1.2 e; exact h1.1.1.2 e))) (fun k h1 => ⟨h1.1.1.1, Nat.lt_of_lt_of_le h1.2.2.1 hk.1⟩)
  exact ⟨Kd.R_mono (Kd.R_bound hr) (fun _ h1 => h1.2.2.1), Kd.R_mono (key h.r2) (fun _ h1 => ⟨h1.2, h1.1.2⟩), Kd.R_mono (key h.r3) (fun _ h1 => ⟨h1.2, h1.1.2⟩), Kd.R_mono (key h.r4) (fun _ h1 => ⟨h1.2, h1.1.2⟩), Nat.le_refl _⟩
theorem cell (h : Ow lo hi w u1 l u2 m u3 t u4 b) {gs : Nat} {cs : Array Value} (hb : w.heap[gs]? = some (.cells cs 29 (0, 0))) (i : Nat) (x : Value) : Ow lo hi (w.setCell ⟨gs, i, none⟩ x) u1 l u2 m u3 t u4 b :=
  h.step (by simp [World.setCell]) (fun k _ _ _ hc => Below.heap_setCell _ _ _ _ (by
    rintro rfl
    obtain ⟨q, hq, cells, hc⟩ := hc
    rw [hc] at hb
    injection hb with hb
    injection hb with _ hb
    rcases hq with rfl | rfl
    · exact absurd hb (by decide)
    · exact absurd hb (by decide)))
theorem up {hi' : Nat} (h : Ow lo hi w u1 l u2 m u3 t u4 b) (h1 : hi ≤ hi') (h2 : hi' ≤ w.heap.size) : Ow lo hi' w u1 l u2 m u3 t u4 b :=
  ⟨Kd.R_mono h.r1 (fun _ hk => Nat.lt_of_lt_of_le hk h1), Kd.R_mono h.r2 (fun _ hk => ⟨Nat.lt_of_lt_of_le hk.1 h1, hk.2⟩), Kd.R_mono h.r3 (fun _ hk => ⟨Nat.lt_of_lt_of_le hk.1 h1, hk.2⟩), Kd.R_mono h.r4 (fun _ hk => ⟨Nat.lt_of_lt_of_le hk.1 h1, hk.2⟩), h2⟩
end Ow
section
variable {lo hi : Nat} {w w1 : World} {u1 u2 u3 u4 v : Value} {l l' : List S36} {m t b m' : List Int}
/-- A number of the row is read. -/
theorem ow_at2 (h : Ow lo hi w u1 l u2 m u3 t u4 b) (i : Nat) (hi_ : i < m.length) : ∃ g c, u2 = .slice (some ⟨g, 0, none⟩) m.length c ∧ lo ≤ g ∧ w.cell? ⟨g, i, none⟩ = some (.int .i64 (rd m (i : Int))) := by
  obtain ⟨A, c, e⟩ := Kd.R_slice h.r2
  subst e
  obtain ⟨g, cur, rfl, hg, _⟩ := OwnK.R_at h.r2 (by omega)
  have := Kd.R_cell (0 : Int) h.r2 (i : Int) (by omega) (by omega)
  rw [Int.toNat_natCast] at this
  obtain ⟨inner, ho⟩ := Kd.R_own h.r2
  exact ⟨g, c, rfl, own_base ho g rfl, this.1⟩
theorem ow_at3 (h : Ow lo hi w u1 l u2 m u3 t u4 b) (i : Nat) (hi_ : i < t.length) : ∃ g c, u3 = .slice (some ⟨g, 0, none⟩) t.length c ∧ lo ≤ g ∧ w.cell? ⟨g, i, none⟩ = some (.int .i64 (rd t (i : Int))) := ow_at2 h.swap i hi_
end
theorem below_kept {w0 w w1 : World} {B lo : Nat} {S : Nat → Prop} (h0 : Below B w0 w) (h1 : Below B w0 w1) (hk : Kept w w1 S) (hS : ∀ k, S k → lo ≤ k) (hl : lo ≤ w.heap.size) : Below lo w w1 :=
  ⟨h1.os.trans h0.os.symm, h1.tape.trans h0.tape.symm, h1.output.trans h0.output.symm, hk.1, fun k hk' => hk.2 k (by omega) (fun hs => by have := hS k hs; omega)⟩
section
variable {P : Program} {ops : Array Oper} {rest : List Oper} {o : Oper} {a : Act} {Q : Exit → Act → World → Prop} {Kc : Act → World → Prop}
theorem lit_event {W : World} (hg : o.guard = none) {n c t : Nat} {cs : Array Value} (hrun : (execOp a.eval o).run P W = .ok (.value (.slice (some ⟨W.heap.size, 0, none⟩) n c)) (W.alloc (.cells cs t)))
    (h : ∀ g, g = W.heap.size → ∀ w1, w1.heap[g]? = some (.cells cs t (0, 0)) → Below W.heap.size W w1 → wpList P ops Q rest (a.put o.dst (.slice (some ⟨g, 0, none⟩) n c)) w1) : wpList P ops Q (o :: rest) a W :=
  Kd.event_run hg hrun (h _ rfl _ (blk_new W _) (below_alloc (Below.refl _ _) _))
theorem lit_step {W : World} (hw : Region.wanted o (yielded ops a.tmps) = true) {n c t : Nat} {cs : Array Value} (hrun : (execOp a.eval o).run P W = .ok (.value (.slice (some ⟨W.heap.size, 0, none⟩) n c)) (W.alloc (.cells cs t)))
    (h : ∀ g, g = W.heap.size → ∀ w1, w1.heap[g]? = some (.cells cs t (0, 0)) → Below W.heap.size W w1 → Kc (a.put o.dst (.slice (some ⟨g, 0, none⟩) n c)) w1) : if Region.wanted o (yielded ops a.tmps) = true then Oper.wp P o a W Kc Q else Kc (a.put o.dst undef) W :=
  event_step hw hrun (h _ rfl _ (blk_new W _) (below_alloc (Below.refl _ _) _))
end
/-- slices.Replace over a row of numbers. -/
theorem rep_go {w : World} {base vb c' i j : Nat} {ok : Nat → Prop} {v : Value} {l : List Int} (ys : List Int) (m : Nat) (hm : ys.length = m) (h : Kd.R (Kd.int .i64) 3 w base ok v l) (hij : i < j) (hjn : j ≤ l.length) (hm0 : 0 < m) (hneq : i + m ≠ j) (hbig : (l.length + m) * 8 ≤ 140737488355328) (hne : v.ownBlock ≠ some vb)
    (hv : w.heap[vb]? = some (.cells (ys.map (Value.int .i64)).toArray 3 (0, 0))) :
    Calls Try.prog 89 #[v, .int .i64 (i : Int), .int .i64 (j : Int), .slice (some ⟨vb, 0, none⟩) m c'] w fun e w' => ∃ v', e = .returned v' ∧ Kd.R (Kd.int .i64) 3 w' base (fun _ => True) v' (l.take i ++ ys ++ l.drop j) ∧ w.grownBy w' v.ownBlock ∧ (v'.ownBlock = v.ownBlock ∨ ∃ b, v'.ownBlock = some b ∧ w.heap.size ≤ b) := by
  have ho := Kd.own_of_R h
  have h1 : ∀ (xs : List Int), ∀ u ∈ xs.map (Value.int .i64), u.oneCell' = true := fun xs u hu => by
    obtain ⟨x, _, rfl⟩ := List.mem_map.1 hu
    rfl
  refine (ReplInt.calls base v l.length i j m vb c' (l.map (Value.int .i64)) (ys.map (Value.int .i64)) w ho hij hjn hm0 hbig hne hv (by simp [hm]) hneq (h1 l) (h1 ys)).mono ?_
  rintro e w' ⟨v', g, hg, rfl, hr, hgr, hat⟩
  rw [hg]
  refine ⟨v', rfl, Kd.R_of_own ?_ (fun _ _ => trivial), hgr, hat⟩
  have e1 : (l.map (Value.int .i64)).take i ++ ys.map (Value.int .i64) ++ (l.map (Value.int .i64)).drop j = (l.take i ++ ys ++ l.drop j).map (Value.int .i64) := by simp [List.map_take, List.map_drop]
  have e2 : i + m + (l.length - j) = (l.take i ++ ys ++ l.drop j).length := by simp only [List.length_append, List.length_take, List.length_drop, hm]; omega
  rw [e1, e2] at hr
  exact hr
end Go.Proofs.Ytbkkehjhfgocfaa.PFnTransferred
