/- Written by this repo's own copy of a print: plain functions beneath a law, and the proof that the program computes them; no condition. -/
import Derived.Test.YtnkdnijnhaamiaaPFnCoarsenedx0
import Derived.Test.YtnkdnijnhaamiaaPFnCoarsenedx2
import Derived.Test.YtnkdnijnhaamiaaPFnCoarsenedx4
import Derived.Test.YtnkdnijnhaamiaaPFnCoarsenedx5
import Derived.Test.YtnkdnijnhaamiaaPFnCoarsenedx7
namespace Go.Proofs.Ytnkdnijnhaamiaa.PFnCoarsened
open Go.RowKit Go.Proofs.YtnkdnijnhaamiaaW.PrintWords Go.Proofs.YtnkdnijnhaamiaaW.PrintLast Go.Proofs.YtnkdnijnhaamiaaW.PrintMore
attribute [local go_sem] max2_int min2_int max_two min_two max_three min_three max_four min_four   -- for this text's walks alone
set_option linter.unusedVariables false
set_option linter.unusedSimpArgs false

/-- A state of type 29 at block g of W; what its slices lead to came in by w0. -/
def IsS29 (w0 W : World) (g : Nat) (f0 : Int) (f1 : List (S41)) : Prop := ∃ A1 c1, W.heap[g]? = some (.cells #[.int .i64 f0, .slice A1 f1.length c1] 29 (0, 0)) ∧ w0.heap.size ≤ g ∧ Kd.C k41 w0 A1 f1.length f1
theorem IsS29.grown {w0 W : World} {g : Nat} {f0 : Int} {f1 : List (S41)} {W1 : World} {row : Option Nat} (h : IsS29 w0 W g f0 f1) (hw : W.grownBy W1 row) (hne : some g ≠ row) : IsS29 w0 W1 g f0 f1 := by
  obtain ⟨A1, c1, hb, hg, hr1⟩ := h
  exact ⟨A1, c1, blk_grown hb hw hne, hg, hr1⟩
theorem IsS29.own_neN {w0 W : World} {g : Nat} {f0 : Int} {f1 : List (S41)} {α : Type} {d : Kd α} {e : Nat} {base : Nat} {ok : Nat → Prop} {v : Value} {xs : List α} (h : IsS29 w0 W g f0 f1) (ho : Kd.N d e W base ok v xs) (ht : e ≠ 29) : some g ≠ v.ownBlock := by
  obtain ⟨A1, c1, hb, hg, hr1⟩ := h
  exact Kd.N_ne ho hb ht
theorem IsS29.fresh {w0 W : World} {g : Nat} {f0 : Int} {f1 : List (S41)} (h : IsS29 w0 W g f0 f1) : ∀ k, W.heap.size ≤ k → k ≠ g := by
  obtain ⟨A1, c1, hb, hg, hr1⟩ := h
  exact Kd.freshB hb
theorem IsS29.kept {w0 W : World} {g : Nat} {f0 : Int} {f1 : List (S41)} {W1 : World} {S : Nat → Prop} (h : IsS29 w0 W g f0 f1) (hk : Kept W W1 S) (hne : ¬ S g) : IsS29 w0 W1 g f0 f1 := by
  obtain ⟨A1, c1, hb, hg, hr1⟩ := h
  exact ⟨A1, c1, blk_kept hb hk hne, hg, hr1⟩
theorem IsS29.below {w0 W : World} {g : Nat} {f0 : Int} {f1 : List (S41)} {W1 : World} (h : IsS29 w0 W g f0 f1) (hw : Below W.heap.size W W1) : IsS29 w0 W1 g f0 f1 := h.grown (grown_of_below hw none) (by simp)
theorem IsS29.alloc {w0 W : World} {g : Nat} {f0 : Int} {f1 : List (S41)} (h : IsS29 w0 W g f0 f1) (o : Obj) : IsS29 w0 (W.alloc o) g f0 f1 := h.below (below_alloc (Below.refl _ _) o)
theorem IsS29.drewN {w0 W : World} {g : Nat} {f0 : Int} {f1 : List (S41)} (h : IsS29 w0 W g f0 f1) (m : Nat) : IsS29 w0 (W.drewN m) g f0 f1 := h
theorem IsS29.drew {w0 W : World} {g : Nat} {f0 : Int} {f1 : List (S41)} (h : IsS29 w0 W g f0 f1) : IsS29 w0 W.drew g f0 f1 := h
theorem IsS29.at_ {w0 W : World} {g : Nat} {f0 : Int} {f1 : List (S41)} {w' : World} {m : Nat} (hq : W.drewN m = w') (h : IsS29 w0 W g f0 f1) : IsS29 w0 w' g f0 f1 := by subst hq; exact IsS29.drewN h m
theorem IsS29.apart {w0 W : World} {g : Nat} {f0 : Int} {f1 : List (S41)} {α : Type} {d : Kd α} {e : Nat} {base : Nat} {ok : Nat → Prop} {v : Value} {xs : List α} (h : IsS29 w0 W g f0 f1) (ho : d.R e W base ok v xs) (ht : ∀ q, q ∈ e :: d.E → q ≠ 29) : d.R e W base (fun k => ok k ∧ k ≠ g) v xs := by
  obtain ⟨A1, c1, hb, hg, hr1⟩ := h
  exact Kd.R_types ho hb ht
theorem IsS29.own_ne {w0 W : World} {g : Nat} {f0 : Int} {f1 : List (S41)} {α : Type} {d : Kd α} {e : Nat} {base : Nat} {ok : Nat → Prop} {v : Value} {xs : List α} (h : IsS29 w0 W g f0 f1) (ho : d.R e W base ok v xs) (ht : e ≠ 29) : some g ≠ v.ownBlock := by
  obtain ⟨A1, c1, hb, hg, hr1⟩ := h
  exact Kd.R_ne ho hb ht
theorem IsS29.apartQ {w0 W : World} {g : Nat} {f0 : Int} {f1 : List (S41)} {α : Type} {d : Kd α} {e : Nat} {base : Nat} {ok : Nat → Prop} {v : Value} {xs : List α} (h : IsS29 w0 W g f0 f1) (ho : d.Q e W base ok v xs) (ht : ∀ q, q ∈ e :: d.E → q ≠ 29) : d.Q e W base (fun k => ok k ∧ k ≠ g) v xs := by
  obtain ⟨A1, c1, hb, hg, hr1⟩ := h
  exact Kd.Q_types ho hb ht
theorem IsS29.own_neQ {w0 W : World} {g : Nat} {f0 : Int} {f1 : List (S41)} {α : Type} {d : Kd α} {e : Nat} {base : Nat} {ok : Nat → Prop} {v : Value} {xs : List α} (h : IsS29 w0 W g f0 f1) (ho : d.Q e W base ok v xs) (ht : e ≠ 29) : some g ≠ v.ownBlock := by
  obtain ⟨A1, c1, hb, hg, hr1⟩ := h
  exact Kd.Q_ne ho hb ht
theorem IsS29.apartS {w0 W : World} {g : Nat} {f0 : Int} {f1 : List (S41)} {α : Type} {d : Kd α} {e : Nat} {base : Nat} {ok : Nat → Prop} {v : Value} {xs : List α} (h : IsS29 w0 W g f0 f1) (ho : d.S e W base ok v xs) (ht : ∀ q, q ∈ e :: d.E → q ≠ 29) : d.S e W base (fun k => ok k ∧ k ≠ g) v xs := by
  obtain ⟨A1, c1, hb, hg, hr1⟩ := h
  exact Kd.S_types ho hb ht
theorem IsS29.own_neS {w0 W : World} {g : Nat} {f0 : Int} {f1 : List (S41)} {α : Type} {d : Kd α} {e : Nat} {base : Nat} {ok : Nat → Prop} {v : Value} {xs : List α} (h : IsS29 w0 W g f0 f1) (ho : d.S e W base ok v xs) (ht : e ≠ 29) : some g ≠ v.ownBlock := by
  obtain ⟨A1, c1, hb, hg, hr1⟩ := h
  exact Kd.S_ne ho hb ht
theorem IsS29.lt {w0 W : World} {g : Nat} {f0 : Int} {f1 : List (S41)} (h : IsS29 w0 W g f0 f1) : g < W.heap.size := by
  obtain ⟨A1, c1, hb, hg, hr1⟩ := h
  exact blk_lt hb
theorem IsS29.ge {w0 W : World} {g : Nat} {f0 : Int} {f1 : List (S41)} (h : IsS29 w0 W g f0 f1) : w0.heap.size ≤ g := by
  obtain ⟨A1, c1, hb, hg, hr1⟩ := h
  exact hg
theorem IsS29.ne_blk {w0 W : World} {g : Nat} {f0 : Int} {f1 : List (S41)} {a : Nat} {cs : Array Value} {t : TypeId} {fr : Nat × Nat} (h : IsS29 w0 W g f0 f1) (hb2 : W.heap[a]? = some (.cells cs t fr)) (ht : t ≠ 29) : g ≠ a := by
  obtain ⟨A1, c1, hb, hg, hr1⟩ := h
  rintro rfl
  rw [hb] at hb2
  injection hb2 with hb2
  injection hb2 with _ ht2
  exact ht ht2.symm
theorem IsS29.far {w0 W : World} {g : Nat} {f0 : Int} {f1 : List (S41)} {p : Addr} (h : IsS29 w0 W g f0 f1) (hne : g ≠ p.block) (u : Value) : IsS29 w0 (W.setCell p u) g f0 f1 := by
  obtain ⟨A1, c1, hb, hg, hr1⟩ := h
  exact ⟨A1, c1, blk_far hb hne u, hg, hr1⟩
theorem cellS29_0 {W : World} {g : Nat} {A1 : Option Addr} {c1 : Nat} {f0 : Int} {f1 : List (S41)} (h : W.heap[g]? = some (.cells #[.int .i64 f0, .slice A1 f1.length c1] 29 (0, 0))) : W.cell? ⟨g, 0, none⟩ = some (.int .i64 f0) := (blk_cell h 0).trans rfl
theorem IsS29.set_0 {w0 W : World} {g : Nat} {f0 : Int} {f1 : List (S41)} (h : IsS29 w0 W g f0 f1) (x : Int) : IsS29 w0 (W.setCell ⟨g, 0, none⟩ (.int .i64 x)) g x f1 := by
  obtain ⟨A1, c1, hb, hg, hr1⟩ := h
  exact ⟨A1, c1, by simpa using blk_set hb 0 (.int .i64 x), hg, hr1⟩
theorem cellS29_1 {W : World} {g : Nat} {A1 : Option Addr} {c1 : Nat} {f0 : Int} {f1 : List (S41)} (h : W.heap[g]? = some (.cells #[.int .i64 f0, .slice A1 f1.length c1] 29 (0, 0))) : W.cell? ⟨g, 1, none⟩ = some (.slice A1 f1.length c1) := (blk_cell h 1).trans rfl
theorem IsS29.new (w0 W : World) (A1 : Option Addr) (c1 : Nat) (f0 : Int) (f1 : List (S41)) (hB : Below w0.heap.size w0 W) (hr1 : Kd.C k41 w0 A1 f1.length f1) : IsS29 w0 (W.alloc (.cells #[.int .i64 f0, .slice A1 f1.length c1] 29)) W.heap.size f0 f1 := ⟨A1, c1, by simpa using heap_alloc_new W _, hB.size, hr1⟩

/-! ### impl_Mesh_coarsen: function 52 (given) -/
def impl_Mesh_coarsen.flat (x : S41) : List Value := [.int .i64 x.f0, .int .i64 x.f1, .int .i64 x.f2]
set_option maxHeartbeats 8000000 in
set_option maxRecDepth 100000 in
theorem impl_Mesh_coarsen.at_ (w0 : World) (base gm : Nat) (R : Int) (u : Value) (l : List S41) (i : Nat) (x p : S41) (pb : Bool) (w : World) (hx : l[i]? = some x) (hi1l : i + 2 ≤ l.length) (hb0 : w0.heap.size ≤ base) (hgm : base ≤ gm) (hB : Below w0.heap.size w0 w) (hbw : base ≤ w.heap.size)
    (hm : w.heap[gm]? = some (.cells #[.int .i64 R, u] 29 (0, 0))) (hR : Kd.R k41 41 w base (fun _ => True) u l) (hsz : (l.length + 2) * 24 ≤ 140737488355328)
    (hpa : impl_ParentOf.f x.f0 x.f1 x.f2 = some (p.f0, p.f1, p.f2, pb)) :
    Calls Try.prog 52 #[.pointer (some ⟨gm, 0, none⟩), .int .i64 i] w fun e w' => e = .returned (.tuple #[]) ∧ Below w0.heap.size w0 w' ∧ Kept w w' (fun k => k = gm ∨ some k = u.ownBlock) ∧
      ∃ u', w'.heap[gm]? = some (.cells #[.int .i64 R, u'] 29 (0, 0)) ∧ Kd.R k41 41 w' base (fun _ => True) u' (l.take i ++ [p] ++ l.drop (i + 2)) ∧ (u'.ownBlock = u.ownBlock ∨ ∃ c, u'.ownBlock = some c ∧ w.heap.size ≤ c) := by
  obtain ⟨hil, hxe⟩ := List.getElem?_eq_some_iff.1 hx
  have hO : w.ownsRow base 41 3 u l.length (l.flatMap impl_Mesh_coarsen.flat) := Go.Proofs.Ytnkdnijnhaamiaa.OwnK.own_of_Kd (f := impl_Mesh_coarsen.flat) (fun h => k41_openM h) hR
  have NM := Aside0.mk (show some gm ≠ u.ownBlock from Kd.R_ne hR hm (by decide))
  rcases hO.2 with ⟨_, h0⟩ | ⟨g, cap, cur, rfl, hbg, hg, hnc, hcm, hcs, htake⟩
  · omega
  have hel : ∀ k, k < 3 → w.cell? ⟨g, i * 3 + k, none⟩ = (impl_Mesh_coarsen.flat x)[k]? := fun k hk => by
    rw [cell_of_row w g _ cur 41 (0, 0) hg, ← Array.getElem?_toList]
    have h1 : (cur.toList.take (l.length * 3))[i * 3 + k]? = cur.toList[i * 3 + k]? := by rw [List.getElem?_take, if_pos (by omega)]
    rw [← h1, htake]
    have h2 := Go.Proofs.Ytnkdnijnhaamiaa.OwnK.flat_drop (size := 3) (f := impl_Mesh_coarsen.flat) (fun _ => rfl) l i
    rw [← List.getElem?_drop, h2, List.drop_eq_getElem_cons hil, List.flatMap_cons, hxe, List.getElem?_append_left (by show k < 3; exact hk)]
  have hx0 : w.cell? ⟨g, i * 3, none⟩ = some (.int .i64 x.f0) := hel 0 (by decide)
  have hx1 : w.cell? ⟨g, i * 3 + 1, none⟩ = some (.int .i64 x.f1) := hel 1 (by decide)
  have hx2 : w.cell? ⟨g, i * 3 + 2, none⟩ = some (.int .i64 x.f2) := hel 2 (by decide)
  have hm1 : w.cell? ⟨gm, 1, none⟩ = some (.slice (some ⟨g, 0, none⟩) l.length cap) := (blk_cell hm 1).trans rfl
  have huI := Try.underlying41
  have hi1 : (0 : Int) ≤ (i : Int) := by omega
  have hi2 : (i : Int) < (l.length : Int) := by omega
  have HO := Aside0.mk hO
  have BM := Aside0.mk hm
  have HB := Aside0.mk hB
  have hgw : g < w.heap.size := (Array.getElem?_eq_some_iff.1 hg).1
  have HP := Aside0.mk hpa
  clear hO hR hel hpa
  go_enter Try.func52, Try.ntmps52
  go_wp2_with (
    go_at_call 78; refine (impl_ParentOf.calls x.f0 x.f1 x.f2 p.f0 p.f1 p.f2 pb _ HP.out).mono ?_
    rintro e W0 ⟨rfl, hb⟩
    have HBW := Aside0.mk (below_alloc (below_step HB.out hb) (.cells #[.int .i64 p.f0, .int .i64 p.f1, .int .i64 p.f2] 41))
    have BMW := Aside0.mk (blk_alloc (blk_below BM.out hb) (.cells #[.int .i64 p.f0, .int .i64 p.f1, .int .i64 p.f2] 41))
    have BXW := Aside0.mk (blk_new W0 (.cells #[.int .i64 p.f0, .int .i64 p.f1, .int .i64 p.f2] 41))
    have HOW := Aside0.mk ((pw_own_below HO.out hb).alloc (.cells #[.int .i64 p.f0, .int .i64 p.f1, .int .i64 p.f2] 41))
    have KPW := Aside0.mk ((Kept.of_below hb (fun k => k = gm ∨ some k = some g)).alloc (.cells #[.int .i64 p.f0, .int .i64 p.f1, .int .i64 p.f2] 41))
    have HSW := Aside0.mk (show W0.heap.size < (W0.alloc (.cells #[.int .i64 p.f0, .int .i64 p.f1, .int .i64 p.f2] 41)).heap.size by simp)
    have HS0 := Aside0.mk hb.size
    clear hb)
  have NX := Aside0.mk (show g ≠ W0.heap.size by have := HS0.out; omega)
  generalize W0.alloc (.cells #[.int .i64 p.f0, .int .i64 p.f1, .int .i64 p.f2] 41) = W at HBW BMW BXW HOW KPW HSW ⊢
  have hwi : IntKind.i64.wrap ((i : Int) + 2) = ((i + 2 : Nat) : Int) := by rw [IntKind.wrap_i64]; omega
  refine start_ (n := 14) (S := fun w' => w'.cell? ⟨gm, 1, none⟩ = some (.slice (some ⟨g, 0, none⟩) l.length cap) ∧ w'.cell? ⟨W0.heap.size, 0, none⟩ = some (.int .i64 p.f0) ∧ w'.cell? ⟨W0.heap.size, 1, none⟩ = some (.int .i64 p.f1) ∧ w'.cell? ⟨W0.heap.size, 2, none⟩ = some (.int .i64 p.f2)) (ds := [13]) #[false, false, false, false, false, false, false, false, false, false, false, false, false, false] (by kernel_rfl) rfl rfl ⟨(blk_cell BMW.out 1).trans rfl, (blk_cell BXW.out 0).trans rfl, (blk_cell BXW.out 1).trans rfl, (blk_cell BXW.out 2).trans rfl⟩ (fun hHeld => ?_)
  replace HBW := Aside0.mk (below_drew1 HBW.out); replace BMW := Aside0.mk (blk_drew BMW.out); replace BXW := Aside0.mk (blk_drew BXW.out); replace KPW := Aside0.mk (Kept.drew KPW.out); replace HSW := Aside0.mk (show W0.heap.size < W.drew.heap.size from HSW.out); replace HOW := Aside0.mk (show W.drew.ownsRow base 41 3 (.slice (some ⟨g, 0, none⟩) l.length cap) l.length (l.flatMap impl_Mesh_coarsen.flat) from HOW.out)
  generalize W.drew = W2 at HBW BMW BXW HOW KPW HSW hHeld ⊢
  refine pure_ (i := 0) (N := some 17) (v := ?_) (a' := ?_) #[true, false, false, false, false, false, false, false, false, false, false, false, false, false] rfl rfl (by kernel_rfl) (fun _ _ _ h => h) (Or.inl ⟨by rfl, ?_⟩) ?_ ?_
  rotate_left
  · intro w'
    go_simp
    with_reducible rfl
  rotate_left
  · simp only [Act.put, List.setIfInBounds_toArray, List.set_cons_zero, List.set_cons_succ, i64_w, i32_w]
    rfl
  refine pure_ (i := 1) (N := some 18) (v := ?_) (a' := ?_) #[true, true, false, false, false, false, false, false, false, false, false, false, false, false] rfl rfl (by kernel_rfl) (fun _ _ _ h => h) (Or.inl ⟨by rfl, ?_⟩) ?_ ?_
  rotate_left
  · intro w'
    go_simp
    with_reducible rfl
  rotate_left
  · simp only [Act.put, List.setIfInBounds_toArray, List.set_cons_zero, List.set_cons_succ, i64_w, i32_w]
    rfl
  refine pure_ (i := 2) (N := some 19) (v := ?_) (a' := ?_) #[true, true, true, false, false, false, false, false, false, false, false, false, false, false] rfl rfl (by kernel_rfl) (fun _ _ _ h => h) (Or.inl ⟨by rfl, ?_⟩) ?_ ?_
  rotate_left
  · intro w'
    go_simp
    with_reducible rfl
  rotate_left
  · simp only [Act.put, List.setIfInBounds_toArray, List.set_cons_zero, List.set_cons_succ, i64_w, i32_w]
    rfl
  refine pure_ (i := 3) (N := some 20) (v := ?_) (a' := ?_) #[true, true, true, true, false, false, false, false, false, false, false, false, false, false] rfl rfl (by kernel_rfl) (fun _ _ _ h => h) (Or.inl ⟨by rfl, ?_⟩) ?_ ?_
  rotate_left
  · intro w'
    go_simp
    with_reducible rfl
  rotate_left
  · simp only [Act.put, List.setIfInBounds_toArray, List.set_cons_zero, List.set_cons_succ, i64_w, i32_w]
    rfl
  refine take_ (i := 4) (N := some 21) (v := ?_) (a' := ?_) #[true, true, true, true, true, false, false, false, false, false, false, false, false, false] rfl rfl (by kernel_rfl) (fun _ _ _ h => h) (Or.inl ⟨by rfl, ?_⟩) hHeld ?_ ?_
  rotate_left
  · rintro w' ⟨s0, s1, s2, s3⟩
    go_simp
    with_reducible rfl
  rotate_left
  · simp only [Act.put, List.setIfInBounds_toArray, List.set_cons_zero, List.set_cons_succ, i64_w, i32_w]
    rfl
  refine pure_ (i := 5) (N := some 22) (v := ?_) (a' := ?_) #[true, true, true, true, true, true, false, false, false, false, false, false, false, false] rfl rfl (by kernel_rfl) (fun _ _ _ h => h) (Or.inl ⟨by rfl, ?_⟩) ?_ ?_
  rotate_left
  · intro w'
    go_simp
    with_reducible rfl
  rotate_left
  · simp only [Act.put, List.setIfInBounds_toArray, List.set_cons_zero, List.set_cons_succ, i64_w, i32_w]
    rfl
  refine pure_ (i := 6) (N := some 23) (v := ?_) (a' := ?_) #[true, true, true, true, true, true, true, false, false, false, false, false, false, false] rfl rfl (by kernel_rfl) (fun _ _ _ h => h) (Or.inl ⟨by rfl, ?_⟩) ?_ ?_
  rotate_left
  · intro w'
    go_simp
    with_reducible rfl
  rotate_left
  · simp only [Act.put, List.setIfInBounds_toArray, List.set_cons_zero, List.set_cons_succ, i64_w, i32_w]
    rfl
  refine pure_ (i := 7) (N := some 24) (v := ?_) (a' := ?_) #[true, true, true, true, true, true, true, true, false, false, false, false, false, false] rfl rfl (by kernel_rfl) (fun _ _ _ h => h) (Or.inl ⟨by rfl, ?_⟩) ?_ ?_
  rotate_left
  · intro w'
    go_simp
    with_reducible rfl
  rotate_left
  · simp only [Act.put, List.setIfInBounds_toArray, List.set_cons_zero, List.set_cons_succ, i64_w, i32_w]
    rfl
  refine take_ (i := 8) (N := some 25) (v := ?_) (a' := ?_) #[true, true, true, true, true, true, true, true, true, false, false, false, false, false] rfl rfl (by kernel_rfl) (fun _ _ _ h => h) (Or.inl ⟨by rfl, ?_⟩) hHeld ?_ ?_
  rotate_left
  · rintro w' ⟨s0, s1, s2, s3⟩
    go_simp
    with_reducible rfl
  rotate_left
  · simp only [Act.put, List.setIfInBounds_toArray, List.set_cons_zero, List.set_cons_succ, i64_w, i32_w]
    rfl
  refine one_ (i := 9) (N := some 26) #[true, true, true, true, true, true, true, true, true, true, false, false, false, false] rfl rfl (by kernel_rfl) (by decide) (fun K hK => ?_)
  refine value_ (w1 := ?_) (v := ?_) (by rfl) rfl ?_ ?_
  rotate_left 2
  · go_simp
    constructor
    · rfl
    · rfl
  have BV := Aside0.mk (blk_new W2 (.cells #[.int .i64 p.f0, .int .i64 p.f1, .int .i64 p.f2] 41))
  have NV := Aside0.mk (show g ≠ W2.heap.size from fun e => by have := World.ownsRow.lt HOW.out g rfl; omega)
  replace HBW := Aside0.mk (below_alloc HBW.out (.cells #[.int .i64 p.f0, .int .i64 p.f1, .int .i64 p.f2] 41))
  replace BMW := Aside0.mk (blk_alloc BMW.out (.cells #[.int .i64 p.f0, .int .i64 p.f1, .int .i64 p.f2] 41))
  replace BXW := Aside0.mk (blk_alloc BXW.out (.cells #[.int .i64 p.f0, .int .i64 p.f1, .int .i64 p.f2] 41))
  replace HOW := Aside0.mk (HOW.out.alloc (.cells #[.int .i64 p.f0, .int .i64 p.f1, .int .i64 p.f2] 41))
  replace KPW := Aside0.mk (KPW.out.alloc (.cells #[.int .i64 p.f0, .int .i64 p.f1, .int .i64 p.f2] 41))
  replace HSW := Aside0.mk (show W0.heap.size < (W2.alloc (.cells #[.int .i64 p.f0, .int .i64 p.f1, .int .i64 p.f2] 41)).heap.size by have := HSW.out; simp; omega)
  refine hK.out _ _ ⟨(blk_cell BMW.out 1).trans rfl, (blk_cell BXW.out 0).trans rfl, (blk_cell BXW.out 1).trans rfl, (blk_cell BXW.out 2).trans rfl⟩ (fun hHeld => ?_)
  clear hK K
  refine norm_ (a' := ?_) ?_ ?_
  rotate_left
  · show Act.put _ (some 26) _ = _
    simp only [Act.put, List.setIfInBounds_toArray, List.set_cons_zero, List.set_cons_succ, i64_w, i32_w]
    rfl
  refine one_ (i := 10) (N := some 27) #[true, true, true, true, true, true, true, true, true, true, true, false, false, false] rfl rfl (by kernel_rfl) (by decide) (fun K hK => ?_)
  refine goes_ Try.func75 (by kernel_rfl) (by kernel_rfl) #[.slice (some ⟨g, 0, none⟩) l.length cap, .int .i64 i, .int .i64 ((i + 2 : Nat) : Int), .slice (some ⟨W2.heap.size, 0, none⟩) 1 1] (by rfl) rfl rfl (by simp [Act.eval]) ?_
  refine (Go.Proofs.Ytnkdnijnhaamiaa.ReplId.calls base (.slice (some ⟨g, 0, none⟩) l.length cap) l.length i (i + 2) 1 W2.heap.size 1 (l.flatMap impl_Mesh_coarsen.flat) [.int .i64 p.f0, .int .i64 p.f1, .int .i64 p.f2] _ HOW.out (by omega) (by omega) (by omega) (by omega) (fun e => NV.out (by simpa [Value.ownBlock] using e)) BV.out rfl (by omega) (Go.Proofs.Ytnkdnijnhaamiaa.OwnK.flat_one (fun p u hu => by simp [impl_Mesh_coarsen.flat] at hu; rcases hu with rfl | rfl | rfl <;> rfl) l) (fun u hu => by simp at hu; rcases hu with rfl | rfl | rfl <;> rfl)).mono ?_
  rintro e w7 ⟨v7, g7, hg7, rfl, ho7, hgr, hat⟩
  obtain rfl : g = g7 := by simpa [Value.ownBlock] using hg7
  refine ⟨_, rfl, ?_⟩
  have hgm7 : some gm ≠ (Value.slice (some ⟨g, 0, none⟩) l.length cap).ownBlock := NM.out
  replace BMW := Aside0.mk (blk_grown BMW.out hgr hgm7)
  replace BXW := Aside0.mk (blk_grown BXW.out hgr (fun e => NX.out (by injection e with e; exact e.symm)))
  replace HBW := Aside0.mk (HBW.out.grown hgr (by have := HSW.out; have := HS0.out; omega) (fun k hk => by injection hk with hk; omega))
  replace KPW := Aside0.mk (Kept.of_grown hgr KPW.out (fun k hk => Or.inl (Or.inr hk.symm)))
  have HAT := Aside0.mk (show v7.ownBlock = some g ∨ ∃ c, v7.ownBlock = some c ∧ w.heap.size ≤ c from hat.imp id (fun ⟨c, h1, h2⟩ => ⟨c, h1, by have := HSW.out; have := HS0.out; omega⟩))
  obtain ⟨A7, c7, rfl⟩ := own_slice ho7
  have HO7 := Aside0.mk ho7
  refine hK.out _ _ ⟨(blk_cell BMW.out 1).trans rfl, (blk_cell BXW.out 0).trans rfl, (blk_cell BXW.out 1).trans rfl, (blk_cell BXW.out 2).trans rfl⟩ (fun hHeld => ?_)
  clear hgr hat ho7 hg7
  clear hK K
  refine norm_ (a' := ?_) ?_ ?_
  rotate_left
  · show Act.put _ (some 27) _ = _
    simp only [Act.put, List.setIfInBounds_toArray, List.set_cons_zero, List.set_cons_succ, i64_w, i32_w]
    rfl
  refine pure_ (i := 11) (N := some 28) (v := ?_) (a' := ?_) #[true, true, true, true, true, true, true, true, true, true, true, true, false, false] rfl rfl (by kernel_rfl) (fun _ _ _ h => h) (Or.inl ⟨by rfl, ?_⟩) ?_ ?_
  rotate_left
  · intro w'
    go_simp
    with_reducible rfl
  rotate_left
  · simp only [Act.put, List.setIfInBounds_toArray, List.set_cons_zero, List.set_cons_succ, i64_w, i32_w]
    rfl
  refine pure_ (i := 12) (N := some 29) (v := ?_) (a' := ?_) #[true, true, true, true, true, true, true, true, true, true, true, true, true, false] rfl rfl (by kernel_rfl) (fun _ _ _ h => h) (Or.inl ⟨by rfl, ?_⟩) ?_ ?_
  rotate_left
  · intro w'
    go_simp
    with_reducible rfl
  rotate_left
  · simp only [Act.put, List.setIfInBounds_toArray, List.set_cons_zero, List.set_cons_succ, i64_w, i32_w]
    rfl
  refine last_ (i := 13) (N := none) #[true, true, true, true, true, true, true, true, true, true, true, true, true, true] rfl rfl (by kernel_rfl) (by decide) (fun K hK => ?_)
  have hfz := blk_frozen BMW.out 1
  have hcz : w7.cell? ⟨gm, 1, none⟩ = some (.slice (some ⟨g, 0, none⟩) l.length cap) := (blk_cell BMW.out 1).trans rfl
  refine skip_ (w1 := ?_) (by rfl) rfl ?_ ?_
  rotate_left
  · go_simp
    rfl
  refine hK.out _ _ ?_
  clear hK K
  refine done_ (by kernel_rfl) ?_
  go_end0
  have hfl : (l.flatMap impl_Mesh_coarsen.flat).take (i * 3) ++ [.int .i64 p.f0, .int .i64 p.f1, .int .i64 p.f2] ++ (l.flatMap impl_Mesh_coarsen.flat).drop ((i + 2) * 3) = (l.take i ++ [p] ++ l.drop (i + 2)).flatMap impl_Mesh_coarsen.flat := by
    rw [Go.Proofs.Ytnkdnijnhaamiaa.OwnK.flat_take (size := 3) (f := impl_Mesh_coarsen.flat) (fun _ => rfl), Go.Proofs.Ytnkdnijnhaamiaa.OwnK.flat_drop (size := 3) (f := impl_Mesh_coarsen.flat) (fun _ => rfl), List.flatMap_append, List.flatMap_append]
    rfl
  have hlen : i + 1 + (l.length - (i + 2)) = (l.take i ++ [p] ++ l.drop (i + 2)).length := by simp; omega
  have hr7 := HO7.out
  rw [hfl, hlen] at hr7
  have hk7 := Go.Proofs.Ytnkdnijnhaamiaa.OwnK.Kd_of_own (d := k41) (f := impl_Mesh_coarsen.flat) (fun w base ok x => k41_mkM w base ok x) hr7
  rw [← hlen] at hk7
  refine ⟨rfl, HBW.out.setCell (by show w0.heap.size ≤ gm; omega) _, KPW.out.setCell (Or.inl (Or.inl rfl)) _, _, blk_put BMW.out 1 _ rfl, Kd.R_set hk7 BMW.out (by decide) 1 _, HAT.out⟩
def impl_Mesh_coarsen.f (l : List S41) (i : Int) : Option (List S41) :=
  if 0 ≤ i then
    match l[i.toNat]? with
    | some x => (impl_ParentOf.f x.f0 x.f1 x.f2).bind fun p => if i.toNat + 2 ≤ l.length then (if (l.length + 2) * 24 ≤ 140737488355328 then some (l.take i.toNat ++ [⟨p.1, p.2.1, p.2.2.1⟩] ++ l.drop (i.toNat + 2)) else none) else none
    | none => none
  else none
theorem impl_Mesh_coarsen.calls (w0 : World) (base gm : Nat) (R : Int) (u : Value) (l l' : List S41) (i : Int) (w : World) (hf : impl_Mesh_coarsen.f l i = some l') (hb0 : w0.heap.size ≤ base) (hgm : base ≤ gm) (hB : Below w0.heap.size w0 w) (hbw : base ≤ w.heap.size)
    (hm : w.heap[gm]? = some (.cells #[.int .i64 R, u] 29 (0, 0))) (hR : Kd.R k41 41 w base (fun _ => True) u l) :
    Calls Try.prog 52 #[.pointer (some ⟨gm, 0, none⟩), .int .i64 i] w fun e w' => e = .returned (.tuple #[]) ∧ Below w0.heap.size w0 w' ∧ Kept w w' (fun k => k = gm ∨ some k = u.ownBlock) ∧
      ∃ u', w'.heap[gm]? = some (.cells #[.int .i64 R, u'] 29 (0, 0)) ∧ Kd.R k41 41 w' base (fun _ => True) u' l' ∧ (u'.ownBlock = u.ownBlock ∨ ∃ c, u'.ownBlock = some c ∧ w.heap.size ≤ c) := by
  unfold impl_Mesh_coarsen.f at hf
  by_cases h0 : 0 ≤ i
  · rw [if_pos h0] at hf
    cases hx : l[i.toNat]? with
    | none => rw [hx] at hf; cases hf
    | some x =>
      rw [hx] at hf
      obtain ⟨⟨p0, p1, p2, pb⟩, hpa, hf⟩ := Option.bind_eq_some_iff.1 hf
      by_cases h2 : i.toNat + 2 ≤ l.length
      · rw [if_pos h2] at hf
        by_cases hs : (l.length + 2) * 24 ≤ 140737488355328
        · rw [if_pos hs] at hf
          obtain rfl := Option.some.inj hf
          have := impl_Mesh_coarsen.at_ w0 base gm R u l i.toNat x ⟨p0, p1, p2⟩ pb w hx h2 hb0 hgm hB hbw hm hR hs hpa
          rwa [Int.toNat_of_nonneg h0] at this
        · rw [if_neg hs] at hf; cases hf
      · rw [if_neg h2] at hf; cases hf
  · rw [if_neg h0] at hf; cases hf


/-! ### impl_CoarsenPair: function 24 (given) -/
def impl_CoarsenPair.f (k : Nat) (a0_0 : Int) (l0_1 : List S41) (a1 : Int) : Option (Int × (List S41) × Bool) :=
  (impl_copyMesh.f a0_0 l0_1).bind fun t => (impl_MayCoarsen.f k a0_0 l0_1 a1).bind fun m => if m = true then (impl_Mesh_coarsen.f t.2 a1).bind fun l => some (t.1, l, true) else some (t.1, t.2, false)
theorem impl_CoarsenPair.mono : ∀ a0 a1 a2 k, LeO (impl_CoarsenPair.f k a0 a1 a2) (impl_CoarsenPair.f (k + 1) a0 a1 a2) := by
  intro a0 a1 a2 k
  unfold impl_CoarsenPair.f
  exact LeO.bind (LeO.refl _) (fun _ => LeO.bind (impl_MayCoarsen.mono _ _ _ _) (fun _ => LeO.refl _))
set_option maxHeartbeats 8000000 in
set_option maxRecDepth 100000 in
theorem impl_CoarsenPair.calls (k : Nat) (a0_0 : Int) (A0_1 : Option Addr) (c0_1 : Nat) (l0_1 : List (S41)) (a1 : Int) (r1 : Int) (r2 : List (S41)) (r3 : Bool) (w : World) (hr0_1 : Kd.C k41 w A0_1 l0_1.length l0_1) (hc0_1 : l0_1.length ≤ c0_1) (h : impl_CoarsenPair.f k a0_0 l0_1 a1 = some (r1, r2, r3)) :
    Calls Try.prog 24 #[.agg #[.int .i64 a0_0, .slice A0_1 l0_1.length c0_1], .int .i64 a1] w fun e w' => ∃ v1_ : Value, e = .returned (.tuple #[.agg #[.int .i64 r1, v1_], .bool r3]) ∧ Kd.R k41 41 w' w.heap.size (fun _ => True) v1_ r2 ∧ Below w.heap.size w w' := by
  have hu29 := Try.underlying29
  obtain ⟨⟨t1, t2⟩, hcopy, h⟩ := Option.bind_eq_some_iff.1 h
  obtain ⟨m, hmay, h⟩ := Option.bind_eq_some_iff.1 h
  have HC := Aside0.mk hcopy
  have HM := Aside0.mk hmay
  have HR := Aside0.mk hr0_1
  have HP1 := Aside0.mk (blk_alloc (blk_new w (.cells #[.int .i64 a0_0, .slice A0_1 l0_1.length c0_1] 29)) (.cells #[.int .i64 0, .slice none 0 0] 29))
  have HZ1 := Aside0.mk (show ((w.alloc (.cells #[.int .i64 a0_0, .slice A0_1 l0_1.length c0_1] 29)).alloc (.cells #[.int .i64 0, .slice none 0 0] 29)).heap[w.heap.size + 1]? = some (.cells #[.int .i64 0, .slice none 0 0] 29 (0, 0)) by rw [show w.heap.size + 1 = (w.alloc (.cells #[.int .i64 a0_0, .slice A0_1 l0_1.length c0_1] 29)).heap.size by simp]; exact blk_new _ _)
  have HB1 := Aside0.mk (below_alloc (below_alloc (Below.refl w.heap.size w) (.cells #[.int .i64 a0_0, .slice A0_1 l0_1.length c0_1] 29)) (.cells #[.int .i64 0, .slice none 0 0] 29))
  have HS1 := Aside0.mk (show w.heap.size + 1 < ((w.alloc (.cells #[.int .i64 a0_0, .slice A0_1 l0_1.length c0_1] 29)).alloc (.cells #[.int .i64 0, .slice none 0 0] 29)).heap.size by simp)
  have HQ := Aside0.mk (show (w.alloc (.cells #[.int .i64 a0_0, .slice A0_1 l0_1.length c0_1] 29)).heap.size = w.heap.size + 1 by simp)
  clear hcopy hmay hr0_1
  cases m with
  | false =>
    rw [if_neg (by decide)] at h
    obtain ⟨rfl, rfl, rfl⟩ : t1 = r1 ∧ t2 = r2 ∧ false = r3 := by simpa using h
    go_enter Try.func24, Try.ntmps24
    go_wp2_with (first
      | (go_at_call 46; refine (impl_copyMesh.calls a0_0 A0_1 c0_1 l0_1 t1 t2 _ (Kd.C_below HR.out HB1.out) hc0_1 HC.out).mono ?_
         rintro e W ⟨v1, rfl, ho, hb⟩
         obtain ⟨A1, c1, rfl⟩ := Kd.R_slice ho
         have HP := Aside0.mk (blk_alloc (blk_below HP1.out hb) (.cells #[.int .i64 t1, .slice A1 t2.length c1] 29))
         have HZ := Aside0.mk (blk_alloc (blk_below HZ1.out hb) (.cells #[.int .i64 t1, .slice A1 t2.length c1] 29))
         have HB := Aside0.mk (below_alloc (below_step HB1.out hb) (.cells #[.int .i64 t1, .slice A1 t2.length c1] 29))
         have HS := Aside0.mk (Nat.lt_of_lt_of_le HS1.out hb.size)
         have HO := Aside0.mk (Kd.R_alloc (Kd.R_lower ho (base' := w.heap.size) (by have := HS1.out; omega)) (.cells #[.int .i64 t1, .slice A1 t2.length c1] 29))
         have BM := Aside0.mk (blk_new W (.cells #[.int .i64 t1, .slice A1 t2.length c1] 29))
         have hp0 : (W.alloc (.cells #[.int .i64 t1, .slice A1 t2.length c1] 29)).cell? ⟨w.heap.size, 0, none⟩ = some (.int .i64 a0_0) := (blk_cell HP.out 0).trans rfl
         have hp1 : (W.alloc (.cells #[.int .i64 t1, .slice A1 t2.length c1] 29)).cell? ⟨w.heap.size, 1, none⟩ = some (.slice A0_1 l0_1.length c0_1) := (blk_cell HP.out 1).trans rfl
         clear ho hb)
      | (go_at_call 13; refine (impl_MayCoarsen.calls k a0_0 A0_1 c0_1 l0_1 a1 false _ (Kd.C_below HR.out HB.out) hc0_1 HM.out).mono ?_
         rintro e W2 ⟨rfl, hb⟩
         replace HZ := Aside0.mk (blk_below HZ.out hb)
         replace HB := Aside0.mk (below_step HB.out hb)
         replace HO := Aside0.mk (Kd.R_below HO.out hb)
         replace BM := Aside0.mk (blk_below BM.out hb)
         have hm0 : W2.cell? ⟨W.heap.size, 0, none⟩ = some (.int .i64 t1) := (blk_cell BM.out 0).trans rfl
         have hm1 : W2.cell? ⟨W.heap.size, 1, none⟩ = some (.slice A1 t2.length c1) := (blk_cell BM.out 1).trans rfl
         have hz0 : W2.cell? ⟨w.heap.size + 1, 0, none⟩ = some (.int .i64 0) := (blk_cell HZ.out 0).trans rfl
         have hz1 : W2.cell? ⟨w.heap.size + 1, 1, none⟩ = some (.slice none 0 0) := (blk_cell HZ.out 1).trans rfl
         have hf0 := blk_frozen HZ.out 0
         have hf1 := blk_frozen HZ.out 1
         clear hb hp0 hp1))
    refine bodyPost_ret (results_ct rfl _ _ (w.heap.size + 1) 29 #[.int .i64 t1, .slice A1 t2.length c1] (0, 0) _ rfl (by refine blk_put (cs := #[.int .i64 t1, .slice none 0 0]) ?_ 1 _ rfl; refine blk_put (cs := #[.int .i64 0, .slice none 0 0]) ?_ 0 _ rfl; exact HZ.out) Try.underlying29 rfl (by kernel_rfl)) rfl ?_
    exact ⟨_, rfl, Kd.R_mono (Kd.R_far (p := ⟨w.heap.size + 1, 1, none⟩) (Kd.R_far (p := ⟨w.heap.size + 1, 0, none⟩) (Kd.R_types HO.out HZ.out (by decide)) (fun _ hk => hk.2) _) (fun _ hk => hk.2) _) (fun _ hk => trivial), (HB.out.setCell (by show w.heap.size ≤ w.heap.size + 1; omega) _).setCell (by show w.heap.size ≤ w.heap.size + 1; omega) _⟩
  | true =>
    rw [if_pos rfl] at h
    obtain ⟨l2, hl2, h⟩ := Option.bind_eq_some_iff.1 h
    have HL := Aside0.mk hl2
    clear hl2
    obtain ⟨rfl, rfl, rfl⟩ : t1 = r1 ∧ l2 = r2 ∧ true = r3 := by simpa using h
    go_enter Try.func24, Try.ntmps24
    go_wp2_with (first
      | (go_at_call 46; refine (impl_copyMesh.calls a0_0 A0_1 c0_1 l0_1 t1 t2 _ (Kd.C_below HR.out HB1.out) hc0_1 HC.out).mono ?_
         rintro e W ⟨v1, rfl, ho, hb⟩
         obtain ⟨A1, c1, rfl⟩ := Kd.R_slice ho
         have HP := Aside0.mk (blk_alloc (blk_below HP1.out hb) (.cells #[.int .i64 t1, .slice A1 t2.length c1] 29))
         have HZ := Aside0.mk (blk_alloc (blk_below HZ1.out hb) (.cells #[.int .i64 t1, .slice A1 t2.length c1] 29))
         have HB := Aside0.mk (below_alloc (below_step HB1.out hb) (.cells #[.int .i64 t1, .slice A1 t2.length c1] 29))
         have HS := Aside0.mk (Nat.lt_of_lt_of_le HS1.out hb.size)
         have HO := Aside0.mk (Kd.R_alloc (Kd.R_lower ho (base' := w.heap.size) (by have := HS1.out; omega)) (.cells #[.int .i64 t1, .slice A1 t2.length c1] 29))
         have BM := Aside0.mk (blk_new W (.cells #[.int .i64 t1, .slice A1 t2.length c1] 29))
         have hp0 : (W.alloc (.cells #[.int .i64 t1, .slice A1 t2.length c1] 29)).cell? ⟨w.heap.size, 0, none⟩ = some (.int .i64 a0_0) := (blk_cell HP.out 0).trans rfl
         have hp1 : (W.alloc (.cells #[.int .i64 t1, .slice A1 t2.length c1] 29)).cell? ⟨w.heap.size, 1, none⟩ = some (.slice A0_1 l0_1.length c0_1) := (blk_cell HP.out 1).trans rfl
         clear ho hb)
      | (go_at_call 13; refine (impl_MayCoarsen.calls k a0_0 A0_1 c0_1 l0_1 a1 true _ (Kd.C_below HR.out HB.out) hc0_1 HM.out).mono ?_
         rintro e W2 ⟨rfl, hb⟩
         replace HZ := Aside0.mk (blk_below HZ.out hb)
         replace HB := Aside0.mk (below_step HB.out hb)
         replace HO := Aside0.mk (Kd.R_below HO.out hb)
         replace BM := Aside0.mk (blk_below BM.out hb)
         clear hb hp0 hp1)
      | (go_at_call 52; refine (impl_Mesh_coarsen.calls w w.heap.size W.heap.size t1 (.slice A1 t2.length c1) t2 l2 a1 _ HL.out (Nat.le_refl _) ?q1 HB.out ?q2 BM.out HO.out).mono ?_
         (case q1 => have := HS.out; omega)
         (case q2 => exact HB.out.size)
         rintro e W3 ⟨rfl, hb, hk, u', hm', ho', hat⟩
         obtain ⟨A3, c3, rfl⟩ := Kd.R_slice ho'
         have nz : ¬ ((fun k => k = W.heap.size ∨ some k = (Value.slice A1 t2.length c1).ownBlock) (w.heap.size + 1)) := by
           rintro (e | e)
           · have := HS.out; omega
           · exact Kd.R_ne HO.out HZ.out (by decide) e
         replace HZ := Aside0.mk (blk_kept HZ.out hk nz)
         replace HB := Aside0.mk hb
         replace BM := Aside0.mk hm'
         replace HO := Aside0.mk ho'
         have hm0 : W3.cell? ⟨W.heap.size, 0, none⟩ = some (.int .i64 t1) := (blk_cell BM.out 0).trans rfl
         have hm1 : W3.cell? ⟨W.heap.size, 1, none⟩ = some (.slice A3 l2.length c3) := (blk_cell BM.out 1).trans rfl
         have hz0 : W3.cell? ⟨w.heap.size + 1, 0, none⟩ = some (.int .i64 0) := (blk_cell HZ.out 0).trans rfl
         have hz1 : W3.cell? ⟨w.heap.size + 1, 1, none⟩ = some (.slice none 0 0) := (blk_cell HZ.out 1).trans rfl
         have hf0 := blk_frozen HZ.out 0
         have hf1 := blk_frozen HZ.out 1
         clear hb hk hm' ho' hat nz))
    refine bodyPost_ret (results_ct rfl _ _ (w.heap.size + 1) 29 #[.int .i64 t1, .slice A3 l2.length c3] (0, 0) _ rfl (by refine blk_put (cs := #[.int .i64 t1, .slice none 0 0]) ?_ 1 _ rfl; refine blk_put (cs := #[.int .i64 0, .slice none 0 0]) ?_ 0 _ rfl; exact HZ.out) Try.underlying29 rfl (by kernel_rfl)) rfl ?_
    exact ⟨_, rfl, Kd.R_mono (Kd.R_far (p := ⟨w.heap.size + 1, 1, none⟩) (Kd.R_far (p := ⟨w.heap.size + 1, 0, none⟩) (Kd.R_types HO.out HZ.out (by decide)) (fun _ hk => hk.2) _) (fun _ hk => hk.2) _) (fun _ hk => trivial), (HB.out.setCell (by show w.heap.size ≤ w.heap.size + 1; omega) _).setCell (by show w.heap.size ≤ w.heap.size + 1; omega) _⟩

/-! ### spec_IsBalanced: function 25 -/
def spec_IsBalanced.f (k : Nat) (a0_0 : Int) (l0_1 : List (S41)) : Option (Bool) := (spec_MeshOk.f k a0_0 l0_1).bind fun t308 => (if t308 = true then ((spec_l05First.f k a0_0 l0_1).bind fun t309 => (some (decide (t309 < 0)))) else (some false))
theorem spec_IsBalanced.mono : ∀ a0 a1 k, LeO (spec_IsBalanced.f k a0 a1) (spec_IsBalanced.f (k + 1) a0 a1) := by
  intro a0 a1 k
  unfold spec_IsBalanced.f
  repeat' first
      | (with_reducible exact spec_MeshOk.mono _ _ _)
      | (with_reducible exact spec_l05First.mono _ _ _)
      | (with_reducible exact LeO.refl _)
      | (with_reducible exact LeO.none _)
      | (with_reducible refine LeO.ite ?_ ?_)
      | (with_reducible refine LeO.bind ?_ (fun _ => ?_))
      | exact spec_MeshOk.mono _ _ _
      | exact spec_l05First.mono _ _ _
      | exact LeO.none _
      | refine LeO.ite ?_ ?_
      | refine LeO.bind ?_ (fun _ => ?_)
set_option maxHeartbeats 8000000 in
set_option maxRecDepth 100000 in
theorem spec_IsBalanced.calls (k : Nat) (a0_0 : Int) (A0_1 : Option Addr) (c0_1 : Nat) (l0_1 : List (S41)) (r : Bool) (w : World) (hr0_1 : Kd.C k41 w A0_1 l0_1.length l0_1) (hc0_1 : l0_1.length ≤ c0_1) (h : spec_IsBalanced.f k a0_0 l0_1 = some r) :
    Calls Try.prog 25 #[.agg #[.int .i64 a0_0, .slice A0_1 l0_1.length c0_1]] w fun e w' => e = .returned (.bool r) ∧ Below w.heap.size w w' := by
  have hu29 := Try.underlying29
  have HR0_1 := Aside0.mk hr0_1
  have HC0_1 := Aside0.mk hc0_1
  clear hr0_1 hc0_1
  have HB := Aside0.mk (Below.refl w.heap.size w)
  have H : ((spec_MeshOk.f k a0_0 l0_1).bind fun t308 => (if t308 = true then ((spec_l05First.f k a0_0 l0_1).bind fun t309 => (some (decide (t309 < 0)))) else (some false))) = some r := h
  clear h
  replace H := Option.bind_eq_some_iff.mp H
  obtain ⟨t308, A20, H⟩ := H
  replace H : (if t308 = true then ((spec_l05First.f k a0_0 l0_1).bind fun t309 => (some (decide (t309 < 0)))) else (some false)) = some r := H
  have A2 := Aside0.mk A20
  clear A20
  by_cases c3 : t308 = true
  · subst c3
    have H1 : ((spec_l05First.f k a0_0 l0_1).bind fun t309 => (some (decide (t309 < 0)))) = some r := by rw [if_pos rfl] at H; exact H
    clear H
    have H := H1
    clear H1
    replace H := Option.bind_eq_some_iff.mp H
    obtain ⟨t309, A40, H⟩ := H
    replace H : (some (decide (t309 < 0))) = some r := H
    have A4 := Aside0.mk A40
    clear A40
    obtain rfl := Option.some.inj H
    go_enter Try.func25, Try.ntmps25
    go_wp2_with (first | ((with_reducible refine gate_dst (N := 1) rfl ?_); refine box_event ?hg (N := 1) ?hd (cs := #[.int .i64 a0_0, .slice A0_1 l0_1.length c0_1]) (t := 29) ?hr ?_; (case hd => rfl); (case hg => rfl); (case hr => first | (go_simp; done) | (go_simp; rfl)); intro gb307 hg w5 hbox hb; have n0_ := Aside0.mk (below_step (by repeat (first | (with_reducible first | exact HB.out | apply below_alloc | apply pw_below_drewN | apply below_drew1) | exact HB.out)) hb); have n1_ := Aside0.mk (hbox); have n2_ := Aside0.mk ((by rw [hg]; exact (below_size (by repeat (first | (with_reducible first | exact HB.out | apply below_alloc | apply pw_below_drewN | apply below_drew1) | exact HB.out))) : w.heap.size ≤ gb307)); have n3_ := Aside0.mk ((by rw [hg]; exact (below_size (by repeat (first | (with_reducible first | exact HB.out | apply below_alloc | apply pw_below_drewN | apply below_drew1) | exact HB.out))) : w.heap.size ≤ gb307)); clear HB; have HB := n0_; have BK307 := n1_; have GW307 := n2_; have GE307 := n3_; clear n0_ n1_ n2_ n3_; clear hb hbox hg; have hcz6_0 : w5.cell? ⟨gb307, 0, none⟩ = some (.int .i64 a0_0) := (blk_cell BK307.out 0).trans rfl; have hcz6_1 : w5.cell? ⟨gb307, 1, none⟩ = some (.slice A0_1 l0_1.length c0_1) := (blk_cell BK307.out 1).trans rfl; have hfz6_0 := blk_frozen BK307.out 0; have hfz6_1 := blk_frozen BK307.out 1) | ((with_reducible refine gate_callee (f := 33) rfl ?_); refine goesL_ (some 4) rfl rfl Try.func33 (by kernel_rfl) rfl #[.agg #[.int .i64 a0_0, .slice A0_1 l0_1.length c0_1]] rfl (by (try simp only [List.map_toArray, List.map_cons, List.map_nil]); first | done | rfl | (simp only [List.length_drop, List.length_take]; rfl)) ?_; (with_reducible refine (spec_MeshOk.calls k a0_0 _ _ l0_1 true _ ?side1 ?side2 A2.out).mono ?_); (case side1 => repeat (first | exact (Kd.C_below HR0_1.out HB.out) | (with_reducible refine Kd.C_alloc ?_ _) | (with_reducible refine Kd.C_drewN ?_ _) | (with_reducible refine Kd.C_drew ?_))); (case side2 => exact HC0_1.out); rintro e w7 ⟨rfl, hb⟩; refine ⟨_, rfl, ?_⟩; have n0_ := Aside0.mk (blk_below (g := gb307) (o := .cells #[.int .i64 a0_0, .slice A0_1 l0_1.length c0_1] 29 (0, 0)) (by (with_reducible repeat (first | refine blk_drewN ?_ _ | refine blk_drew ?_ | refine blk_alloc ?_ _)); exact BK307.out) hb); have n1_ := Aside0.mk (below_step (by repeat (first | (with_reducible first | exact HB.out | apply below_alloc | apply pw_below_drewN | apply below_drew1 | refine below_set ?_ GE307.out) | exact HB.out)) hb); clear BK307; clear HB; have BK307 := n0_; have HB := n1_; clear n0_ n1_; (try clear hb); (try clear hb2); (try clear hk); (try clear hi); have hcz8_0 : w7.cell? ⟨gb307, 0, none⟩ = some (.int .i64 a0_0) := (blk_cell BK307.out 0).trans rfl; have hcz8_1 : w7.cell? ⟨gb307, 1, none⟩ = some (.slice A0_1 l0_1.length c0_1) := (blk_cell BK307.out 1).trans rfl; have hfz8_0 := blk_frozen BK307.out 0; have hfz8_1 := blk_frozen BK307.out 1) | (go_at_call 53; (with_reducible refine (spec_l05First.calls k a0_0 _ _ l0_1 t309 _ ?side1 ?side2 A4.out).mono ?_); (case side1 => repeat (first | exact (Kd.C_below HR0_1.out HB.out) | (with_reducible refine Kd.C_alloc ?_ _) | (with_reducible refine Kd.C_drewN ?_ _) | (with_reducible refine Kd.C_drew ?_))); (case side2 => exact HC0_1.out); rintro e w9 ⟨rfl, hb⟩; have n0_ := Aside0.mk (blk_below (g := gb307) (o := .cells #[.int .i64 a0_0, .slice A0_1 l0_1.length c0_1] 29 (0, 0)) (by (with_reducible repeat (first | refine blk_drewN ?_ _ | refine blk_drew ?_ | refine blk_alloc ?_ _)); exact BK307.out) hb); have n1_ := Aside0.mk (below_step (by repeat (first | (with_reducible first | exact HB.out | apply below_alloc | apply pw_below_drewN | apply below_drew1 | refine below_set ?_ GE307.out) | exact HB.out)) hb); clear BK307; clear HB; have BK307 := n0_; have HB := n1_; clear n0_ n1_; (try clear hb); (try clear hb2); (try clear hk); (try clear hi)))
    go_ret
    exact ⟨by first | rfl | (simp [errW_none, errW_some] <;> rfl) | (simp [*, errW_none, errW_some] <;> rfl), by repeat (first | (with_reducible first | exact HB.out | apply below_alloc | apply pw_below_drewN | apply below_drew1 | refine below_set ?_ GE307.out) | exact HB.out)⟩
  · replace c3 := Bool.eq_false_iff.mpr c3
    subst c3
    have H1 : (some false) = some r := by rw [if_neg (show ¬ (false = true) by decide)] at H; exact H
    clear H
    have H := H1
    clear H1
    obtain rfl := Option.some.inj H
    go_enter Try.func25, Try.ntmps25
    go_wp2_with (first | ((with_reducible refine gate_dst (N := 1) rfl ?_); refine box_event ?hg (N := 1) ?hd (cs := #[.int .i64 a0_0, .slice A0_1 l0_1.length c0_1]) (t := 29) ?hr ?_; (case hd => rfl); (case hg => rfl); (case hr => first | (go_simp; done) | (go_simp; rfl)); intro gb307 hg w10 hbox hb; have n0_ := Aside0.mk (below_step (by repeat (first | (with_reducible first | exact HB.out | apply below_alloc | apply pw_below_drewN | apply below_drew1) | exact HB.out)) hb); have n1_ := Aside0.mk (hbox); have n2_ := Aside0.mk ((by rw [hg]; exact (below_size (by repeat (first | (with_reducible first | exact HB.out | apply below_alloc | apply pw_below_drewN | apply below_drew1) | exact HB.out))) : w.heap.size ≤ gb307)); have n3_ := Aside0.mk ((by rw [hg]; exact (below_size (by repeat (first | (with_reducible first | exact HB.out | apply below_alloc | apply pw_below_drewN | apply below_drew1) | exact HB.out))) : w.heap.size ≤ gb307)); clear HB; have HB := n0_; have BK307 := n1_; have GW307 := n2_; have GE307 := n3_; clear n0_ n1_ n2_ n3_; clear hb hbox hg; have hcz11_0 : w10.cell? ⟨gb307, 0, none⟩ = some (.int .i64 a0_0) := (blk_cell BK307.out 0).trans rfl; have hcz11_1 : w10.cell? ⟨gb307, 1, none⟩ = some (.slice A0_1 l0_1.length c0_1) := (blk_cell BK307.out 1).trans rfl; have hfz11_0 := blk_frozen BK307.out 0; have hfz11_1 := blk_frozen BK307.out 1) | ((with_reducible refine gate_callee (f := 33) rfl ?_); refine goesL_ (some 4) rfl rfl Try.func33 (by kernel_rfl) rfl #[.agg #[.int .i64 a0_0, .slice A0_1 l0_1.length c0_1]] rfl (by (try simp only [List.map_toArray, List.map_cons, List.map_nil]); first | done | rfl | (simp only [List.length_drop, List.length_take]; rfl)) ?_; (with_reducible refine (spec_MeshOk.calls k a0_0 _ _ l0_1 false _ ?side1 ?side2 A2.out).mono ?_); (case side1 => repeat (first | exact (Kd.C_below HR0_1.out HB.out) | (with_reducible refine Kd.C_alloc ?_ _) | (with_reducible refine Kd.C_drewN ?_ _) | (with_reducible refine Kd.C_drew ?_))); (case side2 => exact HC0_1.out); rintro e w12 ⟨rfl, hb⟩; refine ⟨_, rfl, ?_⟩; have n0_ := Aside0.mk (blk_below (g := gb307) (o := .cells #[.int .i64 a0_0, .slice A0_1 l0_1.length c0_1] 29 (0, 0)) (by (with_reducible repeat (first | refine blk_drewN ?_ _ | refine blk_drew ?_ | refine blk_alloc ?_ _)); exact BK307.out) hb); have n1_ := Aside0.mk (below_step (by repeat (first | (with_reducible first | exact HB.out | apply below_alloc | apply pw_below_drewN | apply below_drew1 | refine below_set ?_ GE307.out) | exact HB.out)) hb); clear BK307; clear HB; have BK307 := n0_; have HB := n1_; clear n0_ n1_; (try clear hb); (try clear hb2); (try clear hk); (try clear hi)))
    go_ret
    exact ⟨by first | rfl | (simp [errW_none, errW_some] <;> rfl) | (simp [*, errW_none, errW_some] <;> rfl), by repeat (first | (with_reducible first | exact HB.out | apply below_alloc | apply pw_below_drewN | apply below_drew1 | refine below_set ?_ GE307.out) | exact HB.out)⟩

/-! ### laws_FnCoarsened: function 5 -/
def laws_FnCoarsened.l0 : Nat → Int → Int → List (S41) → Option (Bool)
  | 0, _, _, _ => none
  | k + 1, x4, x316000, x316001 => if x4 < (x316001.length : Int) then ((impl_CoarsenPair.f k x316000 x316001 x4).bind fun bt316 => ((impl_MayCoarsen.f k x316000 x316001 x4).bind fun t322 => (if (bt316.2.2 != t322) = true then (none) else ((spec_IsBalanced.f k bt316.1 bt316.2.1).bind fun t323 => (if t323 = true then (if bt316.2.2 = true then (if (bt316.2.1.length : Int) = (wrap64 ((x316001.length : Int) - 1)) then (laws_FnCoarsened.l0 k (wrap64 (x4 + 1)) x316000 x316001) else (none)) else ((spec_SameMesh.f k bt316.1 bt316.2.1 x316000 x316001).bind fun t324 => (if t324 = true then (laws_FnCoarsened.l0 k (wrap64 (x4 + 1)) x316000 x316001) else (none)))) else (none)))))) else (some true)
def laws_FnCoarsened.f (k : Nat) (l0 : List Int) : Option (Bool) := (laws_big.f l0).bind fun t310 => (if t310 = true then (some true) else ((spec_DrawBalanced.f k l0).bind fun bt311 => (laws_FnCoarsened.l0 k 0 bt311.1 bt311.2)))
theorem laws_FnCoarsened.mono_l : ∀ k, (∀ y0 y1 y2, LeO (laws_FnCoarsened.l0 k y0 y1 y2) (laws_FnCoarsened.l0 (k + 1) y0 y1 y2))
  | 0 => fun _ _ _ r h => by simp [laws_FnCoarsened.l0] at h
  | k + 1 => by
    have ih0 := laws_FnCoarsened.mono_l k
    · intro y0 y1 y2
      unfold laws_FnCoarsened.l0
      repeat' first
      | (with_reducible exact ih0 _ _ _)
      | (with_reducible exact impl_CoarsenPair.mono _ _ _ _)
      | (with_reducible exact impl_MayCoarsen.mono _ _ _ _)
      | (with_reducible exact spec_DrawBalanced.mono _ _)
      | (with_reducible exact spec_IsBalanced.mono _ _ _)
      | (with_reducible exact spec_SameMesh.mono _ _ _ _ _)
      | (with_reducible exact LeO.refl _)
      | (with_reducible exact LeO.none _)
      | (with_reducible refine LeO.ite ?_ ?_)
      | (with_reducible refine LeO.bind ?_ (fun _ => ?_))
      | exact ih0 _ _ _
      | exact impl_CoarsenPair.mono _ _ _ _
      | exact impl_MayCoarsen.mono _ _ _ _
      | exact spec_DrawBalanced.mono _ _
      | exact spec_IsBalanced.mono _ _ _
      | exact spec_SameMesh.mono _ _ _ _ _
      | exact LeO.none _
      | refine LeO.ite ?_ ?_
      | refine LeO.bind ?_ (fun _ => ?_)
theorem laws_FnCoarsened.mono : ∀ a0 k, LeO (laws_FnCoarsened.f k a0) (laws_FnCoarsened.f (k + 1) a0) := by
  intro a0 k
  have ih0 := laws_FnCoarsened.mono_l k
  unfold laws_FnCoarsened.f
  repeat' first
      | (with_reducible exact ih0 _ _ _)
      | (with_reducible exact impl_CoarsenPair.mono _ _ _ _)
      | (with_reducible exact impl_MayCoarsen.mono _ _ _ _)
      | (with_reducible exact spec_DrawBalanced.mono _ _)
      | (with_reducible exact spec_IsBalanced.mono _ _ _)
      | (with_reducible exact spec_SameMesh.mono _ _ _ _ _)
      | (with_reducible exact LeO.refl _)
      | (with_reducible exact LeO.none _)
      | (with_reducible refine LeO.ite ?_ ?_)
      | (with_reducible refine LeO.bind ?_ (fun _ => ?_))
      | exact ih0 _ _ _
      | exact impl_CoarsenPair.mono _ _ _ _
      | exact impl_MayCoarsen.mono _ _ _ _
      | exact spec_DrawBalanced.mono _ _
      | exact spec_IsBalanced.mono _ _ _
      | exact spec_SameMesh.mono _ _ _ _ _
      | exact LeO.none _
      | refine LeO.ite ?_ ?_
      | refine LeO.bind ?_ (fun _ => ?_)
set_option maxHeartbeats 8000000 in
set_option maxRecDepth 100000 in
theorem laws_FnCoarsened.calls (k : Nat) (A0 : Option Addr) (c0 : Nat) (l0 : List Int) (r : Bool) (w : World) (hr0 : Kd.C (Kd.int .u8) w A0 l0.length l0) (hc0 : l0.length ≤ c0) (h : laws_FnCoarsened.f k l0 = some r) :
    Calls Try.prog 5 #[.slice A0 l0.length c0] w fun e w' => e = .returned (.bool r) ∧ Below w.heap.size w w' := by
  have hu29 := Try.underlying29
  have HR0 := Aside0.mk hr0
  have HC0 := Aside0.mk hc0
  clear hr0 hc0
  have HB := Aside0.mk (Below.refl w.heap.size w)
  have H : ((laws_big.f l0).bind fun t310 => (if t310 = true then (some true) else ((spec_DrawBalanced.f k l0).bind fun bt311 => (laws_FnCoarsened.l0 k 0 bt311.1 bt311.2)))) = some r := h
  clear h
  replace H := Option.bind_eq_some_iff.mp H
  obtain ⟨t310, A20, H⟩ := H
  replace H : (if t310 = true then (some true) else ((spec_DrawBalanced.f k l0).bind fun bt311 => (laws_FnCoarsened.l0 k 0 bt311.1 bt311.2))) = some r := H
  have A2 := Aside0.mk A20
  clear A20
  by_cases c3 : t310 = true
  · subst c3
    have H1 : (some true) = some r := by rw [if_pos rfl] at H; exact H
    clear H
    have H := H1
    clear H1
    obtain rfl := Option.some.inj H
    go_enter Try.func5, Try.ntmps5
    go_wp2_with (first | ((with_reducible refine gate_callee (f := 15) rfl ?_); refine goesL_ (some 8) rfl rfl Try.func15 (by kernel_rfl) rfl #[.slice A0 l0.length c0] rfl (by (try simp only [List.map_toArray, List.map_cons, List.map_nil]); first | done | rfl | (simp only [List.length_drop, List.length_take]; rfl)) ?_; (with_reducible refine (laws_big.calls _ _ l0 true _ ?side1 ?side2 A2.out).mono ?_); (case side1 => repeat (first | exact HR0.out | (with_reducible refine Kd.C_alloc ?_ _) | (with_reducible refine Kd.C_drewN ?_ _) | (with_reducible refine Kd.C_drew ?_))); (case side2 => exact HC0.out); rintro e w' ⟨rfl, ⟨nd, rfl⟩⟩; refine ⟨_, rfl, ?_⟩))
    go_ret
    exact ⟨by first | rfl | (simp [errW_none, errW_some] <;> rfl) | (simp [*, errW_none, errW_some] <;> rfl), by repeat (first | (with_reducible first | exact HB.out | apply below_alloc | apply pw_below_drewN | apply below_drew1) | exact HB.out)⟩
  · replace c3 := Bool.eq_false_iff.mpr c3
    subst c3
    have H1 : ((spec_DrawBalanced.f k l0).bind fun bt311 => (laws_FnCoarsened.l0 k 0 bt311.1 bt311.2)) = some r := by rw [if_neg (show ¬ (false = true) by decide)] at H; exact H
    clear H
    have H := H1
    clear H1
    replace H := Option.bind_eq_some_iff.mp H
    obtain ⟨⟨t311, t312⟩, A40, H⟩ := H
    replace H : (laws_FnCoarsened.l0 k 0 t311 t312) = some r := H
    have A4 := Aside0.mk A40
    clear A40
    have H' := Aside0.mk H
    clear H
    go_enter Try.func5, Try.ntmps5
    go_wp2_with (first | ((with_reducible refine gate_callee (f := 15) rfl ?_); refine goesL_ (some 8) rfl rfl Try.func15 (by kernel_rfl) rfl #[.slice A0 l0.length c0] rfl (by (try simp only [List.map_toArray, List.map_cons, List.map_nil]); first | done | rfl | (simp only [List.length_drop, List.length_take]; rfl)) ?_; (with_reducible refine (laws_big.calls _ _ l0 false _ ?side1 ?side2 A2.out).mono ?_); (case side1 => repeat (first | exact HR0.out | (with_reducible refine Kd.C_alloc ?_ _) | (with_reducible refine Kd.C_drewN ?_ _) | (with_reducible refine Kd.C_drew ?_))); (case side2 => exact HC0.out); rintro e w' ⟨rfl, ⟨nd, rfl⟩⟩; refine ⟨_, rfl, ?_⟩) | ((with_reducible refine gate_callee (f := 23) rfl ?_); refine goesL_ (some 10) rfl rfl Try.func23 (by kernel_rfl) rfl #[.slice A0 l0.length c0] rfl (by (try simp only [List.map_toArray, List.map_cons, List.map_nil]); first | done | rfl | (simp only [List.length_drop, List.length_take]; rfl)) ?_; (with_reducible refine (spec_DrawBalanced.calls k _ _ l0 t311 t312 _ ?side1 ?side2 A4.out).mono ?_); (case side1 => repeat (first | exact HR0.out | (with_reducible refine Kd.C_alloc ?_ _) | (with_reducible refine Kd.C_drewN ?_ _) | (with_reducible refine Kd.C_drew ?_))); (case side2 => exact HC0.out); rintro e w5 ⟨v313, rfl, ho0, hb⟩; refine ⟨_, rfl, ?_⟩; have n0_ := Aside0.mk (Kd.R_lower ho0 (below_size (by repeat (first | (with_reducible first | exact HB.out | apply below_alloc | apply pw_below_drewN | apply below_drew1) | exact HB.out)))); have n1_ := Aside0.mk (below_step (by repeat (first | (with_reducible first | exact HB.out | apply below_alloc | apply pw_below_drewN | apply below_drew1) | exact HB.out)) hb); clear HB; have HO314 := n0_; have HB := n1_; clear n0_ n1_; (try clear hb); (try clear hb2); (try clear hk); (try clear hi); (try clear ho0)) | ((with_reducible refine gate_dst (N := 3) rfl ?_); (try (refine gate_guard (by rfl) ?_; dsimp only)); refine box_event ?hg (N := 3) ?hd (cs := #[.int .i64 0, .slice none 0 0]) (t := 29) ?hr ?_; (case hd => rfl); (case hg => rfl); (case hr => first | (go_simp; done) | (go_simp; rfl)); intro gb315 hg w6 hbox hb; have n0_ := Aside0.mk (Kd.R_below (by (with_reducible repeat (first | apply Kd.R_alloc | apply Kd.R_drewN | apply Kd.R_drew)); exact HO314.out) hb); have n1_ := Aside0.mk (below_step (by repeat (first | (with_reducible first | exact HB.out | apply below_alloc | apply pw_below_drewN | apply below_drew1) | exact HB.out)) hb); have n2_ := Aside0.mk (hbox); have n3_ := Aside0.mk ((by rw [hg]; exact (below_size (by repeat (first | (with_reducible first | exact HB.out | apply below_alloc | apply pw_below_drewN | apply below_drew1) | exact HB.out))) : w.heap.size ≤ gb315)); have n4_ := Aside0.mk ((by rw [hg]; exact (below_size (by repeat (first | (with_reducible first | exact HB.out | apply below_alloc | apply pw_below_drewN | apply below_drew1) | exact HB.out))) : w.heap.size ≤ gb315)); clear HO314; clear HB; have HO314 := n0_; have HB := n1_; have BK315 := n2_; have GW315 := n3_; have GE315 := n4_; clear n0_ n1_ n2_ n3_ n4_; clear hb hbox hg; have hcz7_0 : w6.cell? ⟨gb315, 0, none⟩ = some (.int .i64 0) := (blk_cell BK315.out 0).trans rfl; have hcz7_1 : w6.cell? ⟨gb315, 1, none⟩ = some (.slice none 0 0) := (blk_cell BK315.out 1).trans rfl; have hfz7_0 := blk_frozen BK315.out 0; have hfz7_1 := blk_frozen BK315.out 1; obtain ⟨Ao8, co8, eo8⟩ := Kd.R_slice HO314.out; subst eo8))
    go_loopg [4] k (fun kq v4 w' => ∃ (x4_1 : Int), v4 = .int .i64 x4_1 ∧ Aside0 (laws_FnCoarsened.l0 kq x4_1 t311 t312 = some r) ∧ Aside0 (kq ≤ k) ∧ Aside0 (Kd.R k41 41 w' w.heap.size (fun _ => True) (.slice Ao8 t312.length co8) t312) ∧ Aside0 (w'.heap[gb315]? = some (.cells #[.int .i64 t311, (.slice Ao8 t312.length co8)] 29 (0, 0))) ∧ Aside0 (Below w.heap.size w w'))
    case atStart => exact ⟨(0), (by first | rfl | (simp; done) | (simp [*]; done)), H', ⟨Nat.le_refl _⟩, ⟨by (with_reducible repeat (first | apply Kd.R_alloc | apply Kd.R_drewN | apply Kd.R_drew)); exact Kd.R_mono (Kd.R_far (p := ⟨gb315, 1, none⟩) (Kd.R_far (p := ⟨gb315, 0, none⟩) (Kd.R_types HO314.out BK315.out (by decide)) (fun _ hk => hk.2) (.int .i64 t311)) (fun _ hk => hk.2) (.slice Ao8 t312.length co8)) (fun _ hk => trivial)⟩, ⟨by (with_reducible repeat (first | refine blk_drewN ?_ _ | refine blk_drew ?_ | refine blk_alloc ?_ _)); refine blk_put (cs := #[.int .i64 t311, .slice none 0 0]) ?_ 1 _ rfl; (with_reducible repeat (first | refine blk_drewN ?_ _ | refine blk_drew ?_ | refine blk_alloc ?_ _)); refine blk_put (cs := #[.int .i64 0, .slice none 0 0]) ?_ 0 _ rfl; (with_reducible repeat (first | refine blk_drewN ?_ _ | refine blk_drew ?_ | refine blk_alloc ?_ _)); exact BK315.out⟩, ⟨by repeat (first | (with_reducible first | exact HB.out | apply below_alloc | apply pw_below_drewN | apply below_drew1 | refine below_set ?_ GE315.out) | exact HB.out)⟩⟩
    case round =>
      clear H'
      try clear c1
      try clear c2
      try clear p2
      try clear c3
      try clear c5
      try clear hcz7_0
      try clear hcz7_1
      try clear hfz7_0
      try clear hfz7_1
      obtain ⟨x4_1, rfl, HA, HK1, HO_316001, BK315, HB⟩ := hrel
      cases gk with
      | zero => exact absurd HA.out (by simp [laws_FnCoarsened.l0])
      | succ k1 =>
        have H := HA.out
        clear HA
        simp only [laws_FnCoarsened.l0] at H
        by_cases c9 : x4_1 < (t312.length : Int)
        · rw [if_pos c9] at H
          have c9b0 : decide (x4_1 < (t312.length : Int)) = true := decide_eq_true c9
          clear c9
          replace H := Option.bind_eq_some_iff.mp H
          obtain ⟨⟨t316, t317, t320⟩, A100, H⟩ := H
          replace H : ((impl_MayCoarsen.f k1 t311 t312 x4_1).bind fun t322 => (if (t320 != t322) = true then (none) else ((spec_IsBalanced.f k1 t316 t317).bind fun t323 => (if t323 = true then (if t320 = true then (if (t317.length : Int) = (wrap64 ((t312.length : Int) - 1)) then (laws_FnCoarsened.l0 k1 (wrap64 (x4_1 + 1)) t311 t312) else (none)) else ((spec_SameMesh.f k1 t316 t317 t311 t312).bind fun t324 => (if t324 = true then (laws_FnCoarsened.l0 k1 (wrap64 (x4_1 + 1)) t311 t312) else (none)))) else (none))))) = some r := H
          have A10 := Aside0.mk A100
          clear A100
          replace H := Option.bind_eq_some_iff.mp H
          obtain ⟨t322, A110, H⟩ := H
          replace H : (if (t320 != t322) = true then (none) else ((spec_IsBalanced.f k1 t316 t317).bind fun t323 => (if t323 = true then (if t320 = true then (if (t317.length : Int) = (wrap64 ((t312.length : Int) - 1)) then (laws_FnCoarsened.l0 k1 (wrap64 (x4_1 + 1)) t311 t312) else (none)) else ((spec_SameMesh.f k1 t316 t317 t311 t312).bind fun t324 => (if t324 = true then (laws_FnCoarsened.l0 k1 (wrap64 (x4_1 + 1)) t311 t312) else (none)))) else (none)))) = some r := H
          have A11 := Aside0.mk A110
          clear A110
          by_cases c12 : (t320 != t322) = true
          · rw [if_pos c12] at H
            exact absurd H (by simp)
          · rw [if_neg c12] at H
            have c12b0 : (t320 != t322) = false := by simpa using c12
            (try (have c12b1 : decide (t320 = t322) = true := by simpa using c12))
            (try (have c12b2 : (t320 == t322) = true := by simpa using c12))
            clear c12
            replace H := Option.bind_eq_some_iff.mp H
            obtain ⟨t323, A130, H⟩ := H
            replace H : (if t323 = true then (if t320 = true then (if (t317.length : Int) = (wrap64 ((t312.length : Int) - 1)) then (laws_FnCoarsened.l0 k1 (wrap64 (x4_1 + 1)) t311 t312) else (none)) else ((spec_SameMesh.f k1 t316 t317 t311 t312).bind fun t324 => (if t324 = true then (laws_FnCoarsened.l0 k1 (wrap64 (x4_1 + 1)) t311 t312) else (none)))) else (none)) = some r := H
            have A13 := Aside0.mk A130
            clear A130
            by_cases c14 : t323 = true
            · subst c14
              have H1 : (if t320 = true then (if (t317.length : Int) = (wrap64 ((t312.length : Int) - 1)) then (laws_FnCoarsened.l0 k1 (wrap64 (x4_1 + 1)) t311 t312) else (none)) else ((spec_SameMesh.f k1 t316 t317 t311 t312).bind fun t324 => (if t324 = true then (laws_FnCoarsened.l0 k1 (wrap64 (x4_1 + 1)) t311 t312) else (none)))) = some r := by rw [if_pos rfl] at H; exact H
              clear H
              have H := H1
              clear H1
              by_cases c15 : t320 = true
              · subst c15
                have H1 : (if (t317.length : Int) = (wrap64 ((t312.length : Int) - 1)) then (laws_FnCoarsened.l0 k1 (wrap64 (x4_1 + 1)) t311 t312) else (none)) = some r := by rw [if_pos rfl] at H; exact H
                clear H
                have H := H1
                clear H1
                by_cases c16 : (t317.length : Int) = (wrap64 ((t312.length : Int) - 1))
                · rw [if_pos c16] at H
                  have c16b0 : ((t317.length : Int) == (wrap64 ((t312.length : Int) - 1))) = true := beq_iff_eq.mpr c16
                  have c16b1 : ((t317.length : Int) != (wrap64 ((t312.length : Int) - 1))) = false := bne_eq_false_iff_eq.mpr c16
                  clear c16
                  have H' := Aside0.mk H
                  clear H
                  have hcz17_0 : wr.cell? ⟨gb315, 0, none⟩ = some (.int .i64 t311) := (blk_cell BK315.out 0).trans rfl
                  have hcz17_1 : wr.cell? ⟨gb315, 1, none⟩ = some (.slice Ao8 t312.length co8) := (blk_cell BK315.out 1).trans rfl
                  have hfz17_0 := blk_frozen BK315.out 0
                  have hfz17_1 := blk_frozen BK315.out 1
                  go_wp2_with (first | ((with_reducible refine gate_callee (f := 24) rfl ?_); refine goesL_ (some 21) rfl rfl Try.func24 (by kernel_rfl) rfl #[.agg #[.int .i64 t311, .slice Ao8 t312.length co8], .int .i64 x4_1] rfl (by (try simp only [List.map_toArray, List.map_cons, List.map_nil]); first | done | rfl | (simp only [List.length_drop, List.length_take]; rfl)) ?_; (with_reducible refine (impl_CoarsenPair.calls k1 t311 _ _ t312 x4_1 t316 t317 true _ ?side1 ?side2 A10.out).mono ?_); (case side1 => repeat (first | exact (Kd.R_reads' HO_316001.out).2.2 | (with_reducible refine Kd.C_alloc ?_ _) | (with_reducible refine Kd.C_drewN ?_ _) | (with_reducible refine Kd.C_drew ?_))); (case side2 => exact (Kd.R_reads' HO_316001.out).2.1); rintro e w18 ⟨v318, rfl, ho0, hb⟩; refine ⟨_, rfl, ?_⟩; have n0_ := Aside0.mk (Kd.R_elder' (by (with_reducible repeat (first | apply Kd.R_alloc | apply Kd.R_drewN | apply Kd.R_drew)); exact HO_316001.out) (Kd.R_base ho0) hb); have n1_ := Aside0.mk (Kd.R_lower (Kd.R_new' ho0 (Kd.R_lt (by (with_reducible repeat (first | apply Kd.R_alloc | apply Kd.R_drewN | apply Kd.R_drew)); exact HO_316001.out))) (below_size (by repeat (first | (with_reducible first | exact HB.out | apply below_alloc | apply pw_below_drewN | apply below_drew1 | refine below_set ?_ GE315.out) | exact HB.out)))); have n2_ := Aside0.mk (blk_below (g := gb315) (o := .cells #[.int .i64 t311, .slice Ao8 t312.length co8] 29 (0, 0)) (by (with_reducible repeat (first | refine blk_drewN ?_ _ | refine blk_drew ?_ | refine blk_alloc ?_ _)); exact BK315.out) hb); have n3_ := Aside0.mk (below_step (by repeat (first | (with_reducible first | exact HB.out | apply below_alloc | apply pw_below_drewN | apply below_drew1 | refine below_set ?_ GE315.out) | exact HB.out)) hb); clear HO_316001; clear BK315; clear HB; have HO_316001 := n0_; have HO319 := n1_; have BK315 := n2_; have HB := n3_; clear n0_ n1_ n2_ n3_; (try clear hb); (try clear hb2); (try clear hk); (try clear hi); (try clear ho0)) | ((with_reducible refine gate_dst (N := 5) rfl ?_); (try (refine gate_guard (by rfl) ?_; dsimp only)); refine box_event ?hg (N := 5) ?hd (cs := #[.int .i64 0, .slice none 0 0]) (t := 29) ?hr ?_; (case hd => rfl); (case hg => rfl); (case hr => first | (go_simp; done) | (go_simp; rfl)); intro gb321 hg w19 hbox hb; have n0_ := Aside0.mk (Kd.R_below (by (with_reducible repeat (first | apply Kd.R_alloc | apply Kd.R_drewN | apply Kd.R_drew)); exact HO_316001.out) hb); have n1_ := Aside0.mk (Kd.R_below (by (with_reducible repeat (first | apply Kd.R_alloc | apply Kd.R_drewN | apply Kd.R_drew)); exact HO319.out) hb); have n2_ := Aside0.mk (blk_below (g := gb315) (o := .cells #[.int .i64 t311, .slice Ao8 t312.length co8] 29 (0, 0)) (by (with_reducible repeat (first | refine blk_drewN ?_ _ | refine blk_drew ?_ | refine blk_alloc ?_ _)); exact BK315.out) hb); have n3_ := Aside0.mk (below_step (by repeat (first | (with_reducible first | exact HB.out | apply below_alloc | apply pw_below_drewN | apply below_drew1 | refine below_set ?_ GE315.out) | exact HB.out)) hb); have n4_ := Aside0.mk (hbox); have n5_ := Aside0.mk ((by rw [hg]; exact (below_size (by repeat (first | (with_reducible first | exact HB.out | apply below_alloc | apply pw_below_drewN | apply below_drew1 | refine below_set ?_ GE315.out) | exact HB.out))) : w.heap.size ≤ gb321)); have n6_ := Aside0.mk ((by rw [hg]; exact (below_size (by repeat (first | (with_reducible first | exact HB.out | apply below_alloc | apply pw_below_drewN | apply below_drew1 | refine below_set ?_ GE315.out) | exact HB.out))) : w.heap.size ≤ gb321)); have n7_ := Aside0.mk ((by rw [hg]; exact Nat.ne_of_lt (blk_lt (g := gb315) (o := .cells #[.int .i64 t311, .slice Ao8 t312.length co8] 29 (0, 0)) (by (with_reducible repeat (first | refine blk_drewN ?_ _ | refine blk_drew ?_ | refine blk_alloc ?_ _)); exact BK315.out)) : gb315 ≠ gb321)); have n8_ := Aside0.mk ((by rw [hg]; exact Nat.ne_of_gt (blk_lt (g := gb315) (o := .cells #[.int .i64 t311, .slice Ao8 t312.length co8] 29 (0, 0)) (by (with_reducible repeat (first | refine blk_drewN ?_ _ | refine blk_drew ?_ | refine blk_alloc ?_ _)); exact BK315.out)) : gb321 ≠ gb315)); clear HO_316001; clear HO319; clear BK315; clear HB; have HO_316001 := n0_; have HO319 := n1_; have BK315 := n2_; have HB := n3_; have BK321 := n4_; have GW321 := n5_; have GE321 := n6_; have NB315_321 := n7_; have NB321_315 := n8_; clear n0_ n1_ n2_ n3_ n4_ n5_ n6_ n7_ n8_; clear hb hbox hg; have hnb20 := NB321_315.out; have hnc20 := NB315_321.out; have hcz21_0 : w19.cell? ⟨gb321, 0, none⟩ = some (.int .i64 0) := (blk_cell BK321.out 0).trans rfl; have hcz21_1 : w19.cell? ⟨gb321, 1, none⟩ = some (.slice none 0 0) := (blk_cell BK321.out 1).trans rfl; have hfz21_0 := blk_frozen BK321.out 0; have hfz21_1 := blk_frozen BK321.out 1; obtain ⟨Ao22, co22, eo22⟩ := Kd.R_slice HO319.out; subst eo22; have hcz23_0 : w19.cell? ⟨gb315, 0, none⟩ = some (.int .i64 t311) := (blk_cell BK315.out 0).trans rfl; have hcz23_1 : w19.cell? ⟨gb315, 1, none⟩ = some (.slice Ao8 t312.length co8) := (blk_cell BK315.out 1).trans rfl; have hfz23_0 := blk_frozen BK315.out 0; have hfz23_1 := blk_frozen BK315.out 1) | ((with_reducible refine gate_callee (f := 13) rfl ?_); refine goesL_ (some 27) rfl rfl Try.func13 (by kernel_rfl) rfl #[.agg #[.int .i64 t311, .slice Ao8 t312.length co8], .int .i64 x4_1] rfl (by (try simp only [List.map_toArray, List.map_cons, List.map_nil]); first | done | rfl | (simp only [List.length_drop, List.length_take]; rfl)) ?_; (with_reducible refine (impl_MayCoarsen.calls k1 t311 _ _ t312 x4_1 t322 _ ?side1 ?side2 A11.out).mono ?_); (case side1 => refine (Kd.R_reads' (e := 41) (base := w.heap.size) (ok := fun k_ => (True ∧ some k_ ≠ (.slice Ao22 t317.length co22 : Value).ownBlock)) (n := t312.length) (c := co8) ?_).2.2; exact (by (with_reducible repeat (first | apply Kd.R_alloc | apply Kd.R_drewN | apply Kd.R_drew)); exact (Kd.R_mono (Kd.R_far (p := ⟨gb321, 1, none⟩) (Kd.R_far (p := ⟨gb321, 0, none⟩) (Kd.R_types HO_316001.out BK321.out (by decide)) (fun _ hk => hk.2) (.int .i64 t316)) (fun _ hk => hk.2) (.slice Ao22 t317.length co22)) (fun _ h_ => h_.1)))); (case side2 => exact (Kd.R_reads' HO_316001.out).2.1); rintro e w24 ⟨rfl, hb⟩; refine ⟨_, rfl, ?_⟩; have n0_ := Aside0.mk (Kd.R_below (by (with_reducible repeat (first | apply Kd.R_alloc | apply Kd.R_drewN | apply Kd.R_drew)); exact (Kd.R_mono (Kd.R_far (p := ⟨gb321, 1, none⟩) (Kd.R_far (p := ⟨gb321, 0, none⟩) (Kd.R_types HO_316001.out BK321.out (by decide)) (fun _ hk => hk.2) (.int .i64 t316)) (fun _ hk => hk.2) (.slice Ao22 t317.length co22)) (fun _ h_ => h_.1))) hb); have n1_ := Aside0.mk (Kd.R_below (by (with_reducible repeat (first | apply Kd.R_alloc | apply Kd.R_drewN | apply Kd.R_drew)); exact (Kd.R_mono (Kd.R_far (p := ⟨gb321, 1, none⟩) (Kd.R_far (p := ⟨gb321, 0, none⟩) (Kd.R_types HO319.out BK321.out (by decide)) (fun _ hk => hk.2) (.int .i64 t316)) (fun _ hk => hk.2) (.slice Ao22 t317.length co22)) (fun _ h_ => h_.1))) hb); have n2_ := Aside0.mk (blk_below (g := gb315) (o := .cells #[.int .i64 t311, .slice Ao8 t312.length co8] 29 (0, 0)) (by (with_reducible repeat (first | refine blk_drewN ?_ _ | refine blk_drew ?_ | refine blk_alloc ?_ _)); refine blk_far ?_ NB315_321.out _; (with_reducible repeat (first | refine blk_drewN ?_ _ | refine blk_drew ?_ | refine blk_alloc ?_ _)); refine blk_far ?_ NB315_321.out _; (with_reducible repeat (first | refine blk_drewN ?_ _ | refine blk_drew ?_ | refine blk_alloc ?_ _)); exact BK315.out) hb); have n3_ := Aside0.mk (blk_below (g := gb321) (o := .cells #[.int .i64 t316, .slice Ao22 t317.length co22] 29 (0, 0)) (by (with_reducible repeat (first | refine blk_drewN ?_ _ | refine blk_drew ?_ | refine blk_alloc ?_ _)); refine blk_put (cs := #[.int .i64 t316, .slice none 0 0]) ?_ 1 _ rfl; (with_reducible repeat (first | refine blk_drewN ?_ _ | refine blk_drew ?_ | refine blk_alloc ?_ _)); refine blk_put (cs := #[.int .i64 0, .slice none 0 0]) ?_ 0 _ rfl; (with_reducible repeat (first | refine blk_drewN ?_ _ | refine blk_drew ?_ | refine blk_alloc ?_ _)); exact BK321.out) hb); have n4_ := Aside0.mk (below_step (by repeat (first | (with_reducible first | exact HB.out | apply below_alloc | apply pw_below_drewN | apply below_drew1 | refine below_set ?_ GE315.out | refine below_set ?_ GE321.out) | exact HB.out)) hb); clear HO_316001; clear HO319; clear BK315; clear BK321; clear HB; have HO_316001 := n0_; have HO319 := n1_; have BK315 := n2_; have BK321 := n3_; have HB := n4_; clear n0_ n1_ n2_ n3_ n4_; (try clear hb); (try clear hb2); (try clear hk); (try clear hi); have hcz25_0 : w24.cell? ⟨gb321, 0, none⟩ = some (.int .i64 t316) := (blk_cell BK321.out 0).trans rfl; have hcz25_1 : w24.cell? ⟨gb321, 1, none⟩ = some (.slice Ao22 t317.length co22) := (blk_cell BK321.out 1).trans rfl; have hfz25_0 := blk_frozen BK321.out 0; have hfz25_1 := blk_frozen BK321.out 1) | (go_at_call 25; (with_reducible refine (spec_IsBalanced.calls k1 t316 _ _ t317 true _ ?side1 ?side2 A13.out).mono ?_); (case side1 => repeat (first | exact (Kd.R_reads' HO319.out).2.2 | (with_reducible refine Kd.C_alloc ?_ _) | (with_reducible refine Kd.C_drewN ?_ _) | (with_reducible refine Kd.C_drew ?_))); (case side2 => exact (Kd.R_reads' HO319.out).2.1); rintro e w26 ⟨rfl, hb⟩; have n0_ := Aside0.mk (Kd.R_below (by (with_reducible repeat (first | apply Kd.R_alloc | apply Kd.R_drewN | apply Kd.R_drew)); exact HO_316001.out) hb); have n1_ := Aside0.mk (Kd.R_below (by (with_reducible repeat (first | apply Kd.R_alloc | apply Kd.R_drewN | apply Kd.R_drew)); exact HO319.out) hb); have n2_ := Aside0.mk (blk_below (g := gb315) (o := .cells #[.int .i64 t311, .slice Ao8 t312.length co8] 29 (0, 0)) (by (with_reducible repeat (first | refine blk_drewN ?_ _ | refine blk_drew ?_ | refine blk_alloc ?_ _)); exact BK315.out) hb); have n3_ := Aside0.mk (blk_below (g := gb321) (o := .cells #[.int .i64 t316, .slice Ao22 t317.length co22] 29 (0, 0)) (by (with_reducible repeat (first | refine blk_drewN ?_ _ | refine blk_drew ?_ | refine blk_alloc ?_ _)); exact BK321.out) hb); have n4_ := Aside0.mk (below_step (by repeat (first | (with_reducible first | exact HB.out | apply below_alloc | apply pw_below_drewN | apply below_drew1 | refine below_set ?_ GE315.out | refine below_set ?_ GE321.out) | exact HB.out)) hb); clear HO_316001; clear HO319; clear BK315; clear BK321; clear HB; have HO_316001 := n0_; have HO319 := n1_; have BK315 := n2_; have BK321 := n3_; have HB := n4_; clear n0_ n1_ n2_ n3_ n4_; (try clear hb); (try clear hb2); (try clear hk); (try clear hi); have hcz27_0 : w26.cell? ⟨gb321, 0, none⟩ = some (.int .i64 t316) := (blk_cell BK321.out 0).trans rfl; have hcz27_1 : w26.cell? ⟨gb321, 1, none⟩ = some (.slice Ao22 t317.length co22) := (blk_cell BK321.out 1).trans rfl; have hfz27_0 := blk_frozen BK321.out 0; have hfz27_1 := blk_frozen BK321.out 1; have hcz28_0 : w26.cell? ⟨gb315, 0, none⟩ = some (.int .i64 t311) := (blk_cell BK315.out 0).trans rfl; have hcz28_1 : w26.cell? ⟨gb315, 1, none⟩ = some (.slice Ao8 t312.length co8) := (blk_cell BK315.out 1).trans rfl; have hfz28_0 := blk_frozen BK315.out 0; have hfz28_1 := blk_frozen BK315.out 1))
                  go_roundg k1
                  case measure => have := HK1.out; omega
                  case rel => exact ⟨(wrap64 (x4_1 + 1)), (by first | rfl | (simp; done) | (simp [*]; done)), H', ⟨by have := HK1.out; omega⟩, ⟨by (with_reducible repeat (first | apply Kd.R_alloc | apply Kd.R_drewN | apply Kd.R_drew)); exact Kd.R_mono HO_316001.out (fun _ hk => trivial)⟩, ⟨by (with_reducible repeat (first | refine blk_drewN ?_ _ | refine blk_drew ?_ | refine blk_alloc ?_ _)); exact BK315.out⟩, ⟨by repeat (first | (with_reducible first | exact HB.out | apply below_alloc | apply pw_below_drewN | apply below_drew1 | refine below_set ?_ GE315.out | refine below_set ?_ GE321.out) | exact HB.out)⟩⟩
                · rw [if_neg c16] at H
                  exact absurd H (by simp)
              · replace c15 := Bool.eq_false_iff.mpr c15
                subst c15
                have H1 : ((spec_SameMesh.f k1 t316 t317 t311 t312).bind fun t324 => (if t324 = true then (laws_FnCoarsened.l0 k1 (wrap64 (x4_1 + 1)) t311 t312) else (none))) = some r := by rw [if_neg (show ¬ (false = true) by decide)] at H; exact H
                clear H
                have H := H1
                clear H1
                replace H := Option.bind_eq_some_iff.mp H
                obtain ⟨t324, A290, H⟩ := H
                replace H : (if t324 = true then (laws_FnCoarsened.l0 k1 (wrap64 (x4_1 + 1)) t311 t312) else (none)) = some r := H
                have A29 := Aside0.mk A290
                clear A290
                by_cases c30 : t324 = true
                · subst c30
                  have H1 : (laws_FnCoarsened.l0 k1 (wrap64 (x4_1 + 1)) t311 t312) = some r := by rw [if_pos rfl] at H; exact H
                  clear H
                  have H := H1
                  clear H1
                  have H' := Aside0.mk H
                  clear H
                  have hcz31_0 : wr.cell? ⟨gb315, 0, none⟩ = some (.int .i64 t311) := (blk_cell BK315.out 0).trans rfl
                  have hcz31_1 : wr.cell? ⟨gb315, 1, none⟩ = some (.slice Ao8 t312.length co8) := (blk_cell BK315.out 1).trans rfl
                  have hfz31_0 := blk_frozen BK315.out 0
                  have hfz31_1 := blk_frozen BK315.out 1
                  go_wp2_with (first | ((with_reducible refine gate_callee (f := 24) rfl ?_); refine goesL_ (some 21) rfl rfl Try.func24 (by kernel_rfl) rfl #[.agg #[.int .i64 t311, .slice Ao8 t312.length co8], .int .i64 x4_1] rfl (by (try simp only [List.map_toArray, List.map_cons, List.map_nil]); first | done | rfl | (simp only [List.length_drop, List.length_take]; rfl)) ?_; (with_reducible refine (impl_CoarsenPair.calls k1 t311 _ _ t312 x4_1 t316 t317 false _ ?side1 ?side2 A10.out).mono ?_); (case side1 => repeat (first | exact (Kd.R_reads' HO_316001.out).2.2 | (with_reducible refine Kd.C_alloc ?_ _) | (with_reducible refine Kd.C_drewN ?_ _) | (with_reducible refine Kd.C_drew ?_))); (case side2 => exact (Kd.R_reads' HO_316001.out).2.1); rintro e w32 ⟨v318, rfl, ho0, hb⟩; refine ⟨_, rfl, ?_⟩; have n0_ := Aside0.mk (Kd.R_elder' (by (with_reducible repeat (first | apply Kd.R_alloc | apply Kd.R_drewN | apply Kd.R_drew)); exact HO_316001.out) (Kd.R_base ho0) hb); have n1_ := Aside0.mk (Kd.R_lower (Kd.R_new' ho0 (Kd.R_lt (by (with_reducible repeat (first | apply Kd.R_alloc | apply Kd.R_drewN | apply Kd.R_drew)); exact HO_316001.out))) (below_size (by repeat (first | (with_reducible first | exact HB.out | apply below_alloc | apply pw_below_drewN | apply below_drew1 | refine below_set ?_ GE315.out) | exact HB.out)))); have n2_ := Aside0.mk (blk_below (g := gb315) (o := .cells #[.int .i64 t311, .slice Ao8 t312.length co8] 29 (0, 0)) (by (with_reducible repeat (first | refine blk_drewN ?_ _ | refine blk_drew ?_ | refine blk_alloc ?_ _)); exact BK315.out) hb); have n3_ := Aside0.mk (below_step (by repeat (first | (with_reducible first | exact HB.out | apply below_alloc | apply pw_below_drewN | apply below_drew1 | refine below_set ?_ GE315.out) | exact HB.out)) hb); clear HO_316001; clear BK315; clear HB; have HO_316001 := n0_; have HO319 := n1_; have BK315 := n2_; have HB := n3_; clear n0_ n1_ n2_ n3_; (try clear hb); (try clear hb2); (try clear hk); (try clear hi); (try clear ho0)) | ((with_reducible refine gate_dst (N := 5) rfl ?_); (try (refine gate_guard (by rfl) ?_; dsimp only)); refine box_event ?hg (N := 5) ?hd (cs := #[.int .i64 0, .slice none 0 0]) (t := 29) ?hr ?_; (case hd => rfl); (case hg => rfl); (case hr => first | (go_simp; done) | (go_simp; rfl)); intro gb321 hg w33 hbox hb; have n0_ := Aside0.mk (Kd.R_below (by (with_reducible repeat (first | apply Kd.R_alloc | apply Kd.R_drewN | apply Kd.R_drew)); exact HO_316001.out) hb); have n1_ := Aside0.mk (Kd.R_below (by (with_reducible repeat (first | apply Kd.R_alloc | apply Kd.R_drewN | apply Kd.R_drew)); exact HO319.out) hb); have n2_ := Aside0.mk (blk_below (g := gb315) (o := .cells #[.int .i64 t311, .slice Ao8 t312.length co8] 29 (0, 0)) (by (with_reducible repeat (first | refine blk_drewN ?_ _ | refine blk_drew ?_ | refine blk_alloc ?_ _)); exact BK315.out) hb); have n3_ := Aside0.mk (below_step (by repeat (first | (with_reducible first | exact HB.out | apply below_alloc | apply pw_below_drewN | apply below_drew1 | refine below_set ?_ GE315.out) | exact HB.out)) hb); have n4_ := Aside0.mk (hbox); have n5_ := Aside0.mk ((by rw [hg]; exact (below_size (by repeat (first | (with_reducible first | exact HB.out | apply below_alloc | apply pw_below_drewN | apply below_drew1 | refine below_set ?_ GE315.out) | exact HB.out))) : w.heap.size ≤ gb321)); have n6_ := Aside0.mk ((by rw [hg]; exact (below_size (by repeat (first | (with_reducible first | exact HB.out | apply below_alloc | apply pw_below_drewN | apply below_drew1 | refine below_set ?_ GE315.out) | exact HB.out))) : w.heap.size ≤ gb321)); have n7_ := Aside0.mk ((by rw [hg]; exact Nat.ne_of_lt (blk_lt (g := gb315) (o := .cells #[.int .i64 t311, .slice Ao8 t312.length co8] 29 (0, 0)) (by (with_reducible repeat (first | refine blk_drewN ?_ _ | refine blk_drew ?_ | refine blk_alloc ?_ _)); exact BK315.out)) : gb315 ≠ gb321)); have n8_ := Aside0.mk ((by rw [hg]; exact Nat.ne_of_gt (blk_lt (g := gb315) (o := .cells #[.int .i64 t311, .slice Ao8 t312.length co8] 29 (0, 0)) (by (with_reducible repeat (first | refine blk_drewN ?_ _ | refine blk_drew ?_ | refine blk_alloc ?_ _)); exact BK315.out)) : gb321 ≠ gb315)); clear HO_316001; clear HO319; clear BK315; clear HB; have HO_316001 := n0_; have HO319 := n1_; have BK315 := n2_; have HB := n3_; have BK321 := n4_; have GW321 := n5_; have GE321 := n6_; have NB315_321 := n7_; have NB321_315 := n8_; clear n0_ n1_ n2_ n3_ n4_ n5_ n6_ n7_ n8_; clear hb hbox hg; have hnb34 := NB321_315.out; have hnc34 := NB315_321.out; have hcz35_0 : w33.cell? ⟨gb321, 0, none⟩ = some (.int .i64 0) := (blk_cell BK321.out 0).trans rfl; have hcz35_1 : w33.cell? ⟨gb321, 1, none⟩ = some (.slice none 0 0) := (blk_cell BK321.out 1).trans rfl; have hfz35_0 := blk_frozen BK321.out 0; have hfz35_1 := blk_frozen BK321.out 1; obtain ⟨Ao36, co36, eo36⟩ := Kd.R_slice HO319.out; subst eo36; have hcz37_0 : w33.cell? ⟨gb315, 0, none⟩ = some (.int .i64 t311) := (blk_cell BK315.out 0).trans rfl; have hcz37_1 : w33.cell? ⟨gb315, 1, none⟩ = some (.slice Ao8 t312.length co8) := (blk_cell BK315.out 1).trans rfl; have hfz37_0 := blk_frozen BK315.out 0; have hfz37_1 := blk_frozen BK315.out 1) | ((with_reducible refine gate_callee (f := 13) rfl ?_); refine goesL_ (some 27) rfl rfl Try.func13 (by kernel_rfl) rfl #[.agg #[.int .i64 t311, .slice Ao8 t312.length co8], .int .i64 x4_1] rfl (by (try simp only [List.map_toArray, List.map_cons, List.map_nil]); first | done | rfl | (simp only [List.length_drop, List.length_take]; rfl)) ?_; (with_reducible refine (impl_MayCoarsen.calls k1 t311 _ _ t312 x4_1 t322 _ ?side1 ?side2 A11.out).mono ?_); (case side1 => refine (Kd.R_reads' (e := 41) (base := w.heap.size) (ok := fun k_ => (True ∧ some k_ ≠ (.slice Ao36 t317.length co36 : Value).ownBlock)) (n := t312.length) (c := co8) ?_).2.2; exact (by (with_reducible repeat (first | apply Kd.R_alloc | apply Kd.R_drewN | apply Kd.R_drew)); exact (Kd.R_mono (Kd.R_far (p := ⟨gb321, 1, none⟩) (Kd.R_far (p := ⟨gb321, 0, none⟩) (Kd.R_types HO_316001.out BK321.out (by decide)) (fun _ hk => hk.2) (.int .i64 t316)) (fun _ hk => hk.2) (.slice Ao36 t317.length co36)) (fun _ h_ => h_.1)))); (case side2 => exact (Kd.R_reads' HO_316001.out).2.1); rintro e w38 ⟨rfl, hb⟩; refine ⟨_, rfl, ?_⟩; have n0_ := Aside0.mk (Kd.R_below (by (with_reducible repeat (first | apply Kd.R_alloc | apply Kd.R_drewN | apply Kd.R_drew)); exact (Kd.R_mono (Kd.R_far (p := ⟨gb321, 1, none⟩) (Kd.R_far (p := ⟨gb321, 0, none⟩) (Kd.R_types HO_316001.out BK321.out (by decide)) (fun _ hk => hk.2) (.int .i64 t316)) (fun _ hk => hk.2) (.slice Ao36 t317.length co36)) (fun _ h_ => h_.1))) hb); have n1_ := Aside0.mk (Kd.R_below (by (with_reducible repeat (first | apply Kd.R_alloc | apply Kd.R_drewN | apply Kd.R_drew)); exact (Kd.R_mono (Kd.R_far (p := ⟨gb321, 1, none⟩) (Kd.R_far (p := ⟨gb321, 0, none⟩) (Kd.R_types HO319.out BK321.out (by decide)) (fun _ hk => hk.2) (.int .i64 t316)) (fun _ hk => hk.2) (.slice Ao36 t317.length co36)) (fun _ h_ => h_.1))) hb); have n2_ := Aside0.mk (blk_below (g := gb315) (o := .cells #[.int .i64 t311, .slice Ao8 t312.length co8] 29 (0, 0)) (by (with_reducible repeat (first | refine blk_drewN ?_ _ | refine blk_drew ?_ | refine blk_alloc ?_ _)); refine blk_far ?_ NB315_321.out _; (with_reducible repeat (first | refine blk_drewN ?_ _ | refine blk_drew ?_ | refine blk_alloc ?_ _)); refine blk_far ?_ NB315_321.out _; (with_reducible repeat (first | refine blk_drewN ?_ _ | refine blk_drew ?_ | refine blk_alloc ?_ _)); exact BK315.out) hb); have n3_ := Aside0.mk (blk_below (g := gb321) (o := .cells #[.int .i64 t316, .slice Ao36 t317.length co36] 29 (0, 0)) (by (with_reducible repeat (first | refine blk_drewN ?_ _ | refine blk_drew ?_ | refine blk_alloc ?_ _)); refine blk_put (cs := #[.int .i64 t316, .slice none 0 0]) ?_ 1 _ rfl; (with_reducible repeat (first | refine blk_drewN ?_ _ | refine blk_drew ?_ | refine blk_alloc ?_ _)); refine blk_put (cs := #[.int .i64 0, .slice none 0 0]) ?_ 0 _ rfl; (with_reducible repeat (first | refine blk_drewN ?_ _ | refine blk_drew ?_ | refine blk_alloc ?_ _)); exact BK321.out) hb); have n4_ := Aside0.mk (below_step (by repeat (first | (with_reducible first | exact HB.out | apply below_alloc | apply pw_below_drewN | apply below_drew1 | refine below_set ?_ GE315.out | refine below_set ?_ GE321.out) | exact HB.out)) hb); clear HO_316001; clear HO319; clear BK315; clear BK321; clear HB; have HO_316001 := n0_; have HO319 := n1_; have BK315 := n2_; have BK321 := n3_; have HB := n4_; clear n0_ n1_ n2_ n3_ n4_; (try clear hb); (try clear hb2); (try clear hk); (try clear hi); have hcz39_0 : w38.cell? ⟨gb321, 0, none⟩ = some (.int .i64 t316) := (blk_cell BK321.out 0).trans rfl; have hcz39_1 : w38.cell? ⟨gb321, 1, none⟩ = some (.slice Ao36 t317.length co36) := (blk_cell BK321.out 1).trans rfl; have hfz39_0 := blk_frozen BK321.out 0; have hfz39_1 := blk_frozen BK321.out 1) | (go_at_call 25; (with_reducible refine (spec_IsBalanced.calls k1 t316 _ _ t317 true _ ?side1 ?side2 A13.out).mono ?_); (case side1 => repeat (first | exact (Kd.R_reads' HO319.out).2.2 | (with_reducible refine Kd.C_alloc ?_ _) | (with_reducible refine Kd.C_drewN ?_ _) | (with_reducible refine Kd.C_drew ?_))); (case side2 => exact (Kd.R_reads' HO319.out).2.1); rintro e w40 ⟨rfl, hb⟩; have n0_ := Aside0.mk (Kd.R_below (by (with_reducible repeat (first | apply Kd.R_alloc | apply Kd.R_drewN | apply Kd.R_drew)); exact HO_316001.out) hb); have n1_ := Aside0.mk (Kd.R_below (by (with_reducible repeat (first | apply Kd.R_alloc | apply Kd.R_drewN | apply Kd.R_drew)); exact HO319.out) hb); have n2_ := Aside0.mk (blk_below (g := gb315) (o := .cells #[.int .i64 t311, .slice Ao8 t312.length co8] 29 (0, 0)) (by (with_reducible repeat (first | refine blk_drewN ?_ _ | refine blk_drew ?_ | refine blk_alloc ?_ _)); exact BK315.out) hb); have n3_ := Aside0.mk (blk_below (g := gb321) (o := .cells #[.int .i64 t316, .slice Ao36 t317.length co36] 29 (0, 0)) (by (with_reducible repeat (first | refine blk_drewN ?_ _ | refine blk_drew ?_ | refine blk_alloc ?_ _)); exact BK321.out) hb); have n4_ := Aside0.mk (below_step (by repeat (first | (with_reducible first | exact HB.out | apply below_alloc | apply pw_below_drewN | apply below_drew1 | refine below_set ?_ GE315.out | refine below_set ?_ GE321.out) | exact HB.out)) hb); clear HO_316001; clear HO319; clear BK315; clear BK321; clear HB; have HO_316001 := n0_; have HO319 := n1_; have BK315 := n2_; have BK321 := n3_; have HB := n4_; clear n0_ n1_ n2_ n3_ n4_; (try clear hb); (try clear hb2); (try clear hk); (try clear hi); have hcz41_0 : w40.cell? ⟨gb321, 0, none⟩ = some (.int .i64 t316) := (blk_cell BK321.out 0).trans rfl; have hcz41_1 : w40.cell? ⟨gb321, 1, none⟩ = some (.slice Ao36 t317.length co36) := (blk_cell BK321.out 1).trans rfl; have hfz41_0 := blk_frozen BK321.out 0; have hfz41_1 := blk_frozen BK321.out 1; have hcz42_0 : w40.cell? ⟨gb315, 0, none⟩ = some (.int .i64 t311) := (blk_cell BK315.out 0).trans rfl; have hcz42_1 : w40.cell? ⟨gb315, 1, none⟩ = some (.slice Ao8 t312.length co8) := (blk_cell BK315.out 1).trans rfl; have hfz42_0 := blk_frozen BK315.out 0; have hfz42_1 := blk_frozen BK315.out 1) | (go_at_call 22; (with_reducible refine (spec_SameMesh.calls k1 t316 _ _ t317 t311 _ _ t312 true _ ?side1 ?side2 ?side3 ?side4 A29.out).mono ?_); (case side1 => repeat (first | exact (Kd.R_reads' HO319.out).2.2 | (with_reducible refine Kd.C_alloc ?_ _) | (with_reducible refine Kd.C_drewN ?_ _) | (with_reducible refine Kd.C_drew ?_))); (case side2 => exact (Kd.R_reads' HO319.out).2.1); (case side3 => repeat (first | exact (Kd.R_reads' HO_316001.out).2.2 | (with_reducible refine Kd.C_alloc ?_ _) | (with_reducible refine Kd.C_drewN ?_ _) | (with_reducible refine Kd.C_drew ?_))); (case side4 => exact (Kd.R_reads' HO_316001.out).2.1); rintro e w43 ⟨rfl, hb⟩; have n0_ := Aside0.mk (Kd.R_below (by (with_reducible repeat (first | apply Kd.R_alloc | apply Kd.R_drewN | apply Kd.R_drew)); exact HO_316001.out) hb); have n1_ := Aside0.mk (Kd.R_below (by (with_reducible repeat (first | apply Kd.R_alloc | apply Kd.R_drewN | apply Kd.R_drew)); exact HO319.out) hb); have n2_ := Aside0.mk (blk_below (g := gb315) (o := .cells #[.int .i64 t311, .slice Ao8 t312.length co8] 29 (0, 0)) (by (with_reducible repeat (first | refine blk_drewN ?_ _ | refine blk_drew ?_ | refine blk_alloc ?_ _)); exact BK315.out) hb); have n3_ := Aside0.mk (blk_below (g := gb321) (o := .cells #[.int .i64 t316, .slice Ao36 t317.length co36] 29 (0, 0)) (by (with_reducible repeat (first | refine blk_drewN ?_ _ | refine blk_drew ?_ | refine blk_alloc ?_ _)); exact BK321.out) hb); have n4_ := Aside0.mk (below_step (by repeat (first | (with_reducible first | exact HB.out | apply below_alloc | apply pw_below_drewN | apply below_drew1 | refine below_set ?_ GE315.out | refine below_set ?_ GE321.out) | exact HB.out)) hb); clear HO_316001; clear HO319; clear BK315; clear BK321; clear HB; have HO_316001 := n0_; have HO319 := n1_; have BK315 := n2_; have BK321 := n3_; have HB := n4_; clear n0_ n1_ n2_ n3_ n4_; (try clear hb); (try clear hb2); (try clear hk); (try clear hi)))
                  go_roundg k1
                  case measure => have := HK1.out; omega
                  case rel => exact ⟨(wrap64 (x4_1 + 1)), (by first | rfl | (simp; done) | (simp [*]; done)), H', ⟨by have := HK1.out; omega⟩, ⟨by (with_reducible repeat (first | apply Kd.R_alloc | apply Kd.R_drewN | apply Kd.R_drew)); exact Kd.R_mono HO_316001.out (fun _ hk => trivial)⟩, ⟨by (with_reducible repeat (first | refine blk_drewN ?_ _ | refine blk_drew ?_ | refine blk_alloc ?_ _)); exact BK315.out⟩, ⟨by repeat (first | (with_reducible first | exact HB.out | apply below_alloc | apply pw_below_drewN | apply below_drew1 | refine below_set ?_ GE315.out | refine below_set ?_ GE321.out) | exact HB.out)⟩⟩
                · replace c30 := Bool.eq_false_iff.mpr c30
                  subst c30
                  have H1 : (none) = some r := by rw [if_neg (show ¬ (false = true) by decide)] at H; exact H
                  clear H
                  have H := H1
                  clear H1
                  exact absurd H (by simp)
            · replace c14 := Bool.eq_false_iff.mpr c14
              subst c14
              have H1 : (none) = some r := by rw [if_neg (show ¬ (false = true) by decide)] at H; exact H
              clear H
              have H := H1
              clear H1
              exact absurd H (by simp)
        · rw [if_neg c9] at H
          have c9b0 : decide (x4_1 < (t312.length : Int)) = false := decide_eq_false c9
          clear c9
          obtain rfl := Option.some.inj H
          have hcz44_0 : wr.cell? ⟨gb315, 0, none⟩ = some (.int .i64 t311) := (blk_cell BK315.out 0).trans rfl
          have hcz44_1 : wr.cell? ⟨gb315, 1, none⟩ = some (.slice Ao8 t312.length co8) := (blk_cell BK315.out 1).trans rfl
          have hfz44_0 := blk_frozen BK315.out 0
          have hfz44_1 := blk_frozen BK315.out 1
          go_wp2
          go_ret
          exact ⟨by first | rfl | (simp [errW_none, errW_some] <;> rfl) | (simp [*, errW_none, errW_some] <;> rfl), by repeat (first | (with_reducible first | exact HB.out | apply below_alloc | apply pw_below_drewN | apply below_drew1 | refine below_set ?_ GE315.out) | exact HB.out)⟩

/-- THE ONE PURE STATEMENT of laws_FnCoarsened: yours. -/
def laws_FnCoarsened.Pure : Prop := ∀ (l0 : List Int), l0.length ≤ maxLen → l0.length * 1 ≤ 140737488351232 → (∀ x ∈ l0, (Lit.int .u8 x).wf = true) → ∃ k, laws_FnCoarsened.f k l0 = some true
theorem laws_FnCoarsened.walk (P : laws_FnCoarsened.Pure) (a0 : Option Addr) (len0 cap0 : Nat) (z0 : List Int) (w : World) (w0 : (a0 = none ∧ len0 = 0 ∧ cap0 = 0 ∧ z0 = []) ∨ ∃ x, a0 = some x ∧ len0 ≤ cap0 ∧ cap0 ≤ maxLen ∧ z0.length = cap0 ∧ (∀ i, i < z0.length → w.cell? (x.add i) = some (.int .u8 (z0.getD i 0))) ∧ ∀ n ∈ z0, (Lit.int .u8 n).wf = true) (y0 : len0 * 1 ≤ 140737488351232) :
    Calls Try.prog 5 #[.slice a0 len0 cap0] w fun e w' => e = .returned (.bool true) ∧ Below w.heap.size w w' := by
  obtain ⟨l0, rfl, hr0, hm0, hw0, hc0⟩ := ReadsInt.ofRowC w0
  obtain ⟨k, h⟩ := P l0 hm0 y0 hw0
  refine (laws_FnCoarsened.calls k _ _ l0 true w (Kd.C_of_reads (d := (0 : Int)) (h1 := fun _ => rfl) hr0) hc0 h).mono ?_
  rintro e w' ⟨rfl, hd⟩
  exact ⟨rfl, hd⟩

end Go.Proofs.Ytnkdnijnhaamiaa.PFnCoarsened
