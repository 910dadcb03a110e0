/- Functions of the reference and of the program over states, walked by hand; no condition. -/
import Derived.Test.YtbkkehjhfgocfaaReplId
import Derived.Test.YtbkkehjhfgocfaaPFnTransferredx18
namespace Go.Proofs.Ytbkkehjhfgocfaa.PFnTransferred
open Go.RowKit Go.Proofs.YtbkkehjhfgocfaaW.PrintWords Go.Proofs.YtbkkehjhfgocfaaW.PrintLast Go.Proofs.YtbkkehjhfgocfaaW.PrintMore
set_option linter.unusedVariables false
set_option linter.unusedSimpArgs false
def impl_Mesh_refine.flat (x : S36) : List Value := [.int .i64 x.f0, .int .i64 x.f1, .int .i64 x.f2]
set_option maxHeartbeats 8000000 in
set_option maxRecDepth 100000 in
theorem impl_Mesh_refine.at_ (w0 : World) (base gm : Nat) (R : Int) (u y2 y3 y4 : Value) (l : List S36) (i : Nat) (x a b : S36) (w : World) (hx : l[i]? = some x) (hb0 : w0.heap.size ≤ base) (hgm : base ≤ gm) (hB : Below w0.heap.size w0 w) (hbw : base ≤ w.heap.size)
    (hm : w.heap[gm]? = some (.cells #[.int .i64 R, u, y2, y3, y4] 29 (0, 0))) (hR : Kd.R k36 36 w base (fun _ => True) u l) (hsz : (l.length + 2) * 24 ≤ 140737488355328)
    (hca : impl_child.f x.f0 x.f1 x.f2 0 = some (a.f0, a.f1, a.f2)) (hcb : impl_child.f x.f0 x.f1 x.f2 1 = some (b.f0, b.f1, b.f2)) :
    Calls Try.prog 88 #[.pointer (some ⟨gm, 0, none⟩), .int .i64 i] w fun e w' => e = .returned (.tuple #[]) ∧ Below w0.heap.size w0 w' ∧ Kept w w' (fun k => k = gm ∨ some k = u.ownBlock) ∧
      ∃ u', w'.heap[gm]? = some (.cells #[.int .i64 R, u', y2, y3, y4] 29 (0, 0)) ∧ Kd.R k36 36 w' base (fun _ => True) u' (l.take i ++ [a, b] ++ l.drop (i + 1)) ∧ (u'.ownBlock = u.ownBlock ∨ ∃ c, u'.ownBlock = some c ∧ w.heap.size ≤ c) := by
  obtain ⟨hil, hxe⟩ := List.getElem?_eq_some_iff.1 hx
  have hO : w.ownsRow base 36 3 u l.length (l.flatMap impl_Mesh_refine.flat) := Go.Proofs.Ytbkkehjhfgocfaa.OwnK.own_of_Kd (f := impl_Mesh_refine.flat) (fun h => k36_openM h) hR
  have NM := Aside0.mk (show some gm ≠ u.ownBlock from Kd.R_ne hR hm (by decide))
  rcases hO.2 with ⟨_, h0⟩ | ⟨g, cap, cur, rfl, hbg, hg, hnc, hcm, hcs, htake⟩
  · omega
  have hel : ∀ k, k < 3 → w.cell? ⟨g, i * 3 + k, none⟩ = (impl_Mesh_refine.flat x)[k]? := fun k hk => by
    rw [cell_of_row w g _ cur 36 (0, 0) hg, ← Array.getElem?_toList]
    have h1 : (cur.toList.take (l.length * 3))[i * 3 + k]? = cur.toList[i * 3 + k]? := by rw [List.getElem?_take, if_pos (by omega)]
    rw [← h1, htake]
    have h2 := Go.Proofs.Ytbkkehjhfgocfaa.OwnK.flat_drop (size := 3) (f := impl_Mesh_refine.flat) (fun _ => rfl) l i
    rw [← List.getElem?_drop, h2, List.drop_eq_getElem_cons hil, List.flatMap_cons, hxe, List.getElem?_append_left (by show k < 3; exact hk)]
  have hx0 : w.cell? ⟨g, i * 3, none⟩ = some (.int .i64 x.f0) := hel 0 (by decide)
  have hx1 : w.cell? ⟨g, i * 3 + 1, none⟩ = some (.int .i64 x.f1) := hel 1 (by decide)
  have hx2 : w.cell? ⟨g, i * 3 + 2, none⟩ = some (.int .i64 x.f2) := hel 2 (by decide)
  have hm1 : w.cell? ⟨gm, 1, none⟩ = some (.slice (some ⟨g, 0, none⟩) l.length cap) := (blk_cell hm 1).trans rfl
  have huI := Try.underlying36
  have hi1 : (0 : Int) ≤ (i : Int) := by omega
  have hi2 : (i : Int) < (l.length : Int) := by omega
  have HO := Aside0.mk hO
  have BM := Aside0.mk hm
  have HB := Aside0.mk hB
  clear hO hR hel
  go_enter Try.func88, Try.ntmps88
  go_wp2
  have HBW := Aside0.mk (below_alloc HB.out (.cells #[.int .i64 x.f0, .int .i64 x.f1, .int .i64 x.f2] 36))
  have BMW := Aside0.mk (blk_alloc BM.out (.cells #[.int .i64 x.f0, .int .i64 x.f1, .int .i64 x.f2] 36))
  have BXW := Aside0.mk (blk_new w (.cells #[.int .i64 x.f0, .int .i64 x.f1, .int .i64 x.f2] 36))
  have HOW := Aside0.mk (HO.out.alloc (.cells #[.int .i64 x.f0, .int .i64 x.f1, .int .i64 x.f2] 36))
  have KPW := Aside0.mk ((Kept.refl w (fun k => k = gm ∨ some k = some g)).alloc (.cells #[.int .i64 x.f0, .int .i64 x.f1, .int .i64 x.f2] 36))
  have NX := Aside0.mk (show g ≠ w.heap.size by have := (Array.getElem?_eq_some_iff.1 hg).1; omega)
  have HSW := Aside0.mk (show w.heap.size < (w.alloc (.cells #[.int .i64 x.f0, .int .i64 x.f1, .int .i64 x.f2] 36)).heap.size by simp)
  clear HO BM HB
  generalize w.alloc (.cells #[.int .i64 x.f0, .int .i64 x.f1, .int .i64 x.f2] 36) = W at HBW BMW BXW HOW KPW HSW ⊢
  have hwi : IntKind.i64.wrap ((i : Int) + 1) = ((i + 1 : Nat) : Int) := by rw [IntKind.wrap_i64]; omega
  refine start_ (n := 17) (S := fun w' => w'.cell? ⟨gm, 1, none⟩ = some (.slice (some ⟨g, 0, none⟩) l.length cap) ∧ w'.cell? ⟨w.heap.size, 0, none⟩ = some (.int .i64 x.f0) ∧ w'.cell? ⟨w.heap.size, 1, none⟩ = some (.int .i64 x.f1) ∧ w'.cell? ⟨w.heap.size, 2, none⟩ = some (.int .i64 x.f2)) (ds := [16]) #[false, false, false, false, false, false, false, false, false, false, false, false, false, false, false, false, false] (by kernel_rfl) rfl rfl ⟨(blk_cell BMW.out 1).trans rfl, (blk_cell BXW.out 0).trans rfl, (blk_cell BXW.out 1).trans rfl, (blk_cell BXW.out 2).trans rfl⟩ (fun hHeld => ?_)
  replace HBW := Aside0.mk (below_drew1 HBW.out); replace BMW := Aside0.mk (blk_drew BMW.out); replace BXW := Aside0.mk (blk_drew BXW.out); replace KPW := Aside0.mk (Kept.drew KPW.out); replace HSW := Aside0.mk (show w.heap.size < W.drew.heap.size from HSW.out); replace HOW := Aside0.mk (show W.drew.ownsRow base 36 3 (.slice (some ⟨g, 0, none⟩) l.length cap) l.length (l.flatMap impl_Mesh_refine.flat) from HOW.out)
  generalize W.drew = W2 at HBW BMW BXW HOW KPW HSW hHeld ⊢
  refine pure_ (i := 0) (N := some 12) (v := ?_) (a' := ?_) #[true, false, false, false, false, false, false, false, false, false, false, false, false, false, false, false, false] rfl rfl (by kernel_rfl) (fun _ _ _ h => h) (Or.inl ⟨by rfl, ?_⟩) ?_ ?_
  rotate_left
  · intro w'
    go_simp
    with_reducible rfl
  rotate_left
  · simp only [Act.put, List.setIfInBounds_toArray, List.set_cons_zero, List.set_cons_succ, i64_w, i32_w]
    rfl
  refine pure_ (i := 1) (N := some 13) (v := ?_) (a' := ?_) #[true, true, false, false, false, false, false, false, false, false, false, false, false, false, false, false, false] rfl rfl (by kernel_rfl) (fun _ _ _ h => h) (Or.inl ⟨by rfl, ?_⟩) ?_ ?_
  rotate_left
  · intro w'
    go_simp
    with_reducible rfl
  rotate_left
  · simp only [Act.put, List.setIfInBounds_toArray, List.set_cons_zero, List.set_cons_succ, i64_w, i32_w]
    rfl
  refine pure_ (i := 2) (N := some 14) (v := ?_) (a' := ?_) #[true, true, true, false, false, false, false, false, false, false, false, false, false, false, false, false, false] rfl rfl (by kernel_rfl) (fun _ _ _ h => h) (Or.inl ⟨by rfl, ?_⟩) ?_ ?_
  rotate_left
  · intro w'
    go_simp
    with_reducible rfl
  rotate_left
  · simp only [Act.put, List.setIfInBounds_toArray, List.set_cons_zero, List.set_cons_succ, i64_w, i32_w]
    rfl
  refine pure_ (i := 3) (N := some 15) (v := ?_) (a' := ?_) #[true, true, true, true, false, false, false, false, false, false, false, false, false, false, false, false, false] rfl rfl (by kernel_rfl) (fun _ _ _ h => h) (Or.inl ⟨by rfl, ?_⟩) ?_ ?_
  rotate_left
  · intro w'
    go_simp
    with_reducible rfl
  rotate_left
  · simp only [Act.put, List.setIfInBounds_toArray, List.set_cons_zero, List.set_cons_succ, i64_w, i32_w]
    rfl
  refine take_ (i := 4) (N := some 16) (v := ?_) (a' := ?_) #[true, true, true, true, true, false, false, false, false, false, false, false, false, false, false, false, false] rfl rfl (by kernel_rfl) (fun _ _ _ h => h) (Or.inl ⟨by rfl, ?_⟩) hHeld ?_ ?_
  rotate_left
  · rintro w' ⟨s0, s1, s2, s3⟩
    go_simp
    with_reducible rfl
  rotate_left
  · simp only [Act.put, List.setIfInBounds_toArray, List.set_cons_zero, List.set_cons_succ, i64_w, i32_w]
    rfl
  refine pure_ (i := 5) (N := some 17) (v := ?_) (a' := ?_) #[true, true, true, true, true, true, false, false, false, false, false, false, false, false, false, false, false] rfl rfl (by kernel_rfl) (fun _ _ _ h => h) (Or.inl ⟨by rfl, ?_⟩) ?_ ?_
  rotate_left
  · intro w'
    go_simp
    with_reducible rfl
  rotate_left
  · simp only [Act.put, List.setIfInBounds_toArray, List.set_cons_zero, List.set_cons_succ, i64_w, i32_w]
    rfl
  refine pure_ (i := 6) (N := some 18) (v := ?_) (a' := ?_) #[true, true, true, true, true, true, true, false, false, false, false, false, false, false, false, false, false] rfl rfl (by kernel_rfl) (fun _ _ _ h => h) (Or.inl ⟨by rfl, ?_⟩) ?_ ?_
  rotate_left
  · intro w'
    go_simp
    with_reducible rfl
  rotate_left
  · simp only [Act.put, List.setIfInBounds_toArray, List.set_cons_zero, List.set_cons_succ, i64_w, i32_w]
    rfl
  refine pure_ (i := 7) (N := some 19) (v := ?_) (a' := ?_) #[true, true, true, true, true, true, true, true, false, false, false, false, false, false, false, false, false] rfl rfl (by kernel_rfl) (fun _ _ _ h => h) (Or.inl ⟨by rfl, ?_⟩) ?_ ?_
  rotate_left
  · intro w'
    go_simp
    with_reducible rfl
  rotate_left
  · simp only [Act.put, List.setIfInBounds_toArray, List.set_cons_zero, List.set_cons_succ, i64_w, i32_w]
    rfl
  refine take_ (i := 8) (N := some 20) (v := ?_) (a' := ?_) #[true, true, true, true, true, true, true, true, true, false, false, false, false, false, false, false, false] rfl rfl (by kernel_rfl) (fun _ _ _ h => h) (Or.inl ⟨by rfl, ?_⟩) hHeld ?_ ?_
  rotate_left
  · rintro w' ⟨s0, s1, s2, s3⟩
    go_simp
    with_reducible rfl
  rotate_left
  · simp only [Act.put, List.setIfInBounds_toArray, List.set_cons_zero, List.set_cons_succ, i64_w, i32_w]
    rfl
  refine take_ (i := 10) (N := some 22) (v := ?_) (a' := ?_) #[true, true, true, true, true, true, true, true, true, false, true, false, false, false, false, false, false] rfl rfl (by kernel_rfl) (fun _ _ _ h => h) (Or.inl ⟨by rfl, ?_⟩) hHeld ?_ ?_
  rotate_left
  · rintro w' ⟨s0, s1, s2, s3⟩
    go_simp
    with_reducible rfl
  rotate_left
  · simp only [Act.put, List.setIfInBounds_toArray, List.set_cons_zero, List.set_cons_succ, i64_w, i32_w]
    rfl
  refine one_ (i := 9) (N := some 21) #[true, true, true, true, true, true, true, true, true, true, true, false, false, false, false, false, false] rfl rfl (by kernel_rfl) (by decide) (fun K hK => ?_)
  refine goes_ Try.func114 (by kernel_rfl) (by kernel_rfl) #[.agg #[.int .i64 x.f0, .int .i64 x.f1, .int .i64 x.f2], .int .i64 0] (by rfl) rfl rfl (by simp [Act.eval]) ?_
  refine (impl_child.calls x.f0 x.f1 x.f2 0 a.f0 a.f1 a.f2 _ hca).mono ?_
  rintro e w5a ⟨rfl, hb5⟩
  refine ⟨_, rfl, ?_⟩
  replace HBW := Aside0.mk (below_step HBW.out hb5)
  replace BMW := Aside0.mk (blk_below BMW.out hb5)
  replace BXW := Aside0.mk (blk_below BXW.out hb5)
  replace HOW := Aside0.mk (pw_own_below HOW.out hb5)
  replace KPW := Aside0.mk (KPW.out.below hb5)
  replace HSW := Aside0.mk (Nat.lt_of_lt_of_le HSW.out hb5.size)
  refine hK.out _ _ ⟨(blk_cell BMW.out 1).trans rfl, (blk_cell BXW.out 0).trans rfl, (blk_cell BXW.out 1).trans rfl, (blk_cell BXW.out 2).trans rfl⟩ (fun hHeld => ?_)
  clear hb5
  clear hK K
  refine norm_ (a' := ?_) ?_ ?_
  rotate_left
  · show Act.put _ (some 21) _ = _
    simp only [Act.put, List.setIfInBounds_toArray, List.set_cons_zero, List.set_cons_succ, i64_w, i32_w]
    rfl
  refine one_ (i := 11) (N := some 23) #[true, true, true, true, true, true, true, true, true, true, true, true, false, false, false, false, false] rfl rfl (by kernel_rfl) (by decide) (fun K hK => ?_)
  refine goes_ Try.func114 (by kernel_rfl) (by kernel_rfl) #[.agg #[.int .i64 x.f0, .int .i64 x.f1, .int .i64 x.f2], .int .i64 1] (by rfl) rfl rfl (by simp [Act.eval]) ?_
  refine (impl_child.calls x.f0 x.f1 x.f2 1 b.f0 b.f1 b.f2 _ hcb).mono ?_
  rintro e w5b ⟨rfl, hb5⟩
  refine ⟨_, rfl, ?_⟩
  replace HBW := Aside0.mk (below_step HBW.out hb5)
  replace BMW := Aside0.mk (blk_below BMW.out hb5)
  replace BXW := Aside0.mk (blk_below BXW.out hb5)
  replace HOW := Aside0.mk (pw_own_below HOW.out hb5)
  replace KPW := Aside0.mk (KPW.out.below hb5)
  replace HSW := Aside0.mk (Nat.lt_of_lt_of_le HSW.out hb5.size)
  refine hK.out _ _ ⟨(blk_cell BMW.out 1).trans rfl, (blk_cell BXW.out 0).trans rfl, (blk_cell BXW.out 1).trans rfl, (blk_cell BXW.out 2).trans rfl⟩ (fun hHeld => ?_)
  clear hb5
  clear hK K
  refine norm_ (a' := ?_) ?_ ?_
  rotate_left
  · show Act.put _ (some 23) _ = _
    simp only [Act.put, List.setIfInBounds_toArray, List.set_cons_zero, List.set_cons_succ, i64_w, i32_w]
    rfl
  refine one_ (i := 12) (N := some 24) #[true, true, true, true, true, true, true, true, true, true, true, true, true, false, false, false, false] rfl rfl (by kernel_rfl) (by decide) (fun K hK => ?_)
  refine value_ (w1 := ?_) (v := ?_) (by rfl) rfl ?_ ?_
  rotate_left 2
  · go_simp
    constructor
    · rfl
    · rfl
  have BV := Aside0.mk (blk_new w5b (.cells #[.int .i64 a.f0, .int .i64 a.f1, .int .i64 a.f2, .int .i64 b.f0, .int .i64 b.f1, .int .i64 b.f2] 36))
  have NV := Aside0.mk (show g ≠ w5b.heap.size from fun e => by have := World.ownsRow.lt HOW.out g rfl; omega)
  have NVM := Aside0.mk (show gm ≠ w5b.heap.size from fun e => by have := (Array.getElem?_eq_some_iff.1 BMW.out).1; omega)
  replace HBW := Aside0.mk (below_alloc HBW.out (.cells #[.int .i64 a.f0, .int .i64 a.f1, .int .i64 a.f2, .int .i64 b.f0, .int .i64 b.f1, .int .i64 b.f2] 36))
  replace BMW := Aside0.mk (blk_alloc BMW.out (.cells #[.int .i64 a.f0, .int .i64 a.f1, .int .i64 a.f2, .int .i64 b.f0, .int .i64 b.f1, .int .i64 b.f2] 36))
  replace BXW := Aside0.mk (blk_alloc BXW.out (.cells #[.int .i64 a.f0, .int .i64 a.f1, .int .i64 a.f2, .int .i64 b.f0, .int .i64 b.f1, .int .i64 b.f2] 36))
  replace HOW := Aside0.mk (HOW.out.alloc (.cells #[.int .i64 a.f0, .int .i64 a.f1, .int .i64 a.f2, .int .i64 b.f0, .int .i64 b.f1, .int .i64 b.f2] 36))
  replace KPW := Aside0.mk (KPW.out.alloc (.cells #[.int .i64 a.f0, .int .i64 a.f1, .int .i64 a.f2, .int .i64 b.f0, .int .i64 b.f1, .int .i64 b.f2] 36))
  replace HSW := Aside0.mk (show w.heap.size < (w5b.alloc (.cells #[.int .i64 a.f0, .int .i64 a.f1, .int .i64 a.f2, .int .i64 b.f0, .int .i64 b.f1, .int .i64 b.f2] 36)).heap.size by have := HSW.out; simp; omega)
  refine hK.out _ _ ⟨(blk_cell BMW.out 1).trans rfl, (blk_cell BXW.out 0).trans rfl, (blk_cell BXW.out 1).trans rfl, (blk_cell BXW.out 2).trans rfl⟩ (fun hHeld => ?_)
  clear hK K
  refine norm_ (a' := ?_) ?_ ?_
  rotate_left
  · show Act.put _ (some 24) _ = _
    simp only [Act.put, List.setIfInBounds_toArray, List.set_cons_zero, List.set_cons_succ, i64_w, i32_w]
    rfl
  refine one_ (i := 13) (N := some 25) #[true, true, true, true, true, true, true, true, true, true, true, true, true, true, false, false, false] rfl rfl (by kernel_rfl) (by decide) (fun K hK => ?_)
  refine goes_ Try.func113 (by kernel_rfl) (by kernel_rfl) #[.slice (some ⟨g, 0, none⟩) l.length cap, .int .i64 i, .int .i64 ((i + 1 : Nat) : Int), .slice (some ⟨w5b.heap.size, 0, none⟩) 2 2] (by rfl) rfl rfl (by simp [Act.eval]) ?_
  refine (Go.Proofs.Ytbkkehjhfgocfaa.ReplId.calls base (.slice (some ⟨g, 0, none⟩) l.length cap) l.length i (i + 1) 2 w5b.heap.size 2 (l.flatMap impl_Mesh_refine.flat) [.int .i64 a.f0, .int .i64 a.f1, .int .i64 a.f2, .int .i64 b.f0, .int .i64 b.f1, .int .i64 b.f2] _ HOW.out (by omega) (by omega) (by omega) (by omega) (fun e => NV.out (by simpa [Value.ownBlock] using e)) BV.out rfl (by omega) (Go.Proofs.Ytbkkehjhfgocfaa.OwnK.flat_one (fun p u hu => by simp [impl_Mesh_refine.flat] at hu; rcases hu with rfl | rfl | rfl <;> rfl) l) (fun u hu => by simp at hu; rcases hu with rfl | rfl | rfl | rfl | rfl | rfl <;> rfl)).mono ?_
  rintro e w7 ⟨v7, g7, hg7, rfl, ho7, hgr, hat⟩
  obtain rfl : g = g7 := by simpa [Value.ownBlock] using hg7
  refine ⟨_, rfl, ?_⟩
  have hgm7 : some gm ≠ (Value.slice (some ⟨g, 0, none⟩) l.length cap).ownBlock := NM.out
  replace BMW := Aside0.mk (blk_grown BMW.out hgr hgm7)
  replace BXW := Aside0.mk (blk_grown BXW.out hgr (fun e => NX.out (by injection e with e; exact e.symm)))
  replace HBW := Aside0.mk (HBW.out.grown hgr (by have := HSW.out; omega) (fun k hk => by injection hk with hk; omega))
  replace KPW := Aside0.mk (Kept.of_grown hgr KPW.out (fun k hk => Or.inl (Or.inr hk.symm)))
  have HS7 := Aside0.mk (show w.heap.size < w7.heap.size from Nat.lt_of_lt_of_le HSW.out hgr.size)
  have HAT := Aside0.mk (show v7.ownBlock = some g ∨ ∃ c, v7.ownBlock = some c ∧ w.heap.size ≤ c from hat.imp id (fun ⟨c, h1, h2⟩ => ⟨c, h1, by have := HSW.out; omega⟩))
  obtain ⟨A7, c7, rfl⟩ := own_slice ho7
  have HO7 := Aside0.mk ho7
  refine hK.out _ _ ⟨(blk_cell BMW.out 1).trans rfl, (blk_cell BXW.out 0).trans rfl, (blk_cell BXW.out 1).trans rfl, (blk_cell BXW.out 2).trans rfl⟩ (fun hHeld => ?_)
  clear hgr hat ho7 hg7
  clear hK K
  refine norm_ (a' := ?_) ?_ ?_
  rotate_left
  · show Act.put _ (some 25) _ = _
    simp only [Act.put, List.setIfInBounds_toArray, List.set_cons_zero, List.set_cons_succ, i64_w, i32_w]
    rfl
  refine pure_ (i := 14) (N := some 26) (v := ?_) (a' := ?_) #[true, true, true, true, true, true, true, true, true, true, true, true, true, true, true, false, false] rfl rfl (by kernel_rfl) (fun _ _ _ h => h) (Or.inl ⟨by rfl, ?_⟩) ?_ ?_
  rotate_left
  · intro w'
    go_simp
    with_reducible rfl
  rotate_left
  · simp only [Act.put, List.setIfInBounds_toArray, List.set_cons_zero, List.set_cons_succ, i64_w, i32_w]
    rfl
  refine pure_ (i := 15) (N := some 27) (v := ?_) (a' := ?_) #[true, true, true, true, true, true, true, true, true, true, true, true, true, true, true, true, false] rfl rfl (by kernel_rfl) (fun _ _ _ h => h) (Or.inl ⟨by rfl, ?_⟩) ?_ ?_
  rotate_left
  · intro w'
    go_simp
    with_reducible rfl
  rotate_left
  · simp only [Act.put, List.setIfInBounds_toArray, List.set_cons_zero, List.set_cons_succ, i64_w, i32_w]
    rfl
  refine last_ (i := 16) (N := none) #[true, true, true, true, true, true, true, true, true, true, true, true, true, true, true, true, true] rfl rfl (by kernel_rfl) (by decide) (fun K hK => ?_)
  have hfz := blk_frozen BMW.out 1
  have hcz : w7.cell? ⟨gm, 1, none⟩ = some (.slice (some ⟨g, 0, none⟩) l.length cap) := (blk_cell BMW.out 1).trans rfl
  refine skip_ (w1 := ?_) (by rfl) rfl ?_ ?_
  rotate_left
  · go_simp
    rfl
  refine hK.out _ _ ?_
  clear hK K
  refine done_ (by kernel_rfl) ?_
  go_end0
  have hfl : (l.flatMap impl_Mesh_refine.flat).take (i * 3) ++ [.int .i64 a.f0, .int .i64 a.f1, .int .i64 a.f2, .int .i64 b.f0, .int .i64 b.f1, .int .i64 b.f2] ++ (l.flatMap impl_Mesh_refine.flat).drop ((i + 1) * 3) = (l.take i ++ [a, b] ++ l.drop (i + 1)).flatMap impl_Mesh_refine.flat := by
    rw [Go.Proofs.Ytbkkehjhfgocfaa.OwnK.flat_take (size := 3) (f := impl_Mesh_refine.flat) (fun _ => rfl), Go.Proofs.Ytbkkehjhfgocfaa.OwnK.flat_drop (size := 3) (f := impl_Mesh_refine.flat) (fun _ => rfl), List.flatMap_append, List.flatMap_append]
    rfl
  have hlen : i + 2 + (l.length - (i + 1)) = (l.take i ++ [a, b] ++ l.drop (i + 1)).length := by simp; omega
  have hr7 := HO7.out
  rw [hfl, hlen] at hr7
  have hk7 := Go.Proofs.Ytbkkehjhfgocfaa.OwnK.Kd_of_own (d := k36) (f := impl_Mesh_refine.flat) (fun w base ok x => k36_mkM w base ok x) hr7
  rw [← hlen] at hk7
  refine ⟨rfl, HBW.out.setCell (by show w0.heap.size ≤ gm; omega) _, KPW.out.setCell (Or.inl (Or.inl rfl)) _, _, blk_put BMW.out 1 _ rfl, Kd.R_set hk7 BMW.out (by decide) 1 _, HAT.out⟩
def impl_Mesh_refine.f (l : List S36) (i : Int) : Option (List S36) :=
  if 0 ≤ i then
    match l[i.toNat]? with
    | some x => (impl_child.f x.f0 x.f1 x.f2 0).bind fun a => (impl_child.f x.f0 x.f1 x.f2 1).bind fun b => if (l.length + 2) * 24 ≤ 140737488355328 then some (l.take i.toNat ++ [⟨a.1, a.2.1, a.2.2⟩, ⟨b.1, b.2.1, b.2.2⟩] ++ l.drop (i.toNat + 1)) else none
    | none => none
  else none
theorem impl_Mesh_refine.calls (w0 : World) (base gm : Nat) (R : Int) (u y2 y3 y4 : Value) (l l' : List S36) (i : Int) (w : World) (hf : impl_Mesh_refine.f l i = some l') (hb0 : w0.heap.size ≤ base) (hgm : base ≤ gm) (hB : Below w0.heap.size w0 w) (hbw : base ≤ w.heap.size)
    (hm : w.heap[gm]? = some (.cells #[.int .i64 R, u, y2, y3, y4] 29 (0, 0))) (hR : Kd.R k36 36 w base (fun _ => True) u l) :
    Calls Try.prog 88 #[.pointer (some ⟨gm, 0, none⟩), .int .i64 i] w fun e w' => e = .returned (.tuple #[]) ∧ Below w0.heap.size w0 w' ∧ Kept w w' (fun k => k = gm ∨ some k = u.ownBlock) ∧
      ∃ u', w'.heap[gm]? = some (.cells #[.int .i64 R, u', y2, y3, y4] 29 (0, 0)) ∧ Kd.R k36 36 w' base (fun _ => True) u' l' ∧ (u'.ownBlock = u.ownBlock ∨ ∃ c, u'.ownBlock = some c ∧ w.heap.size ≤ c) := by
  unfold impl_Mesh_refine.f at hf
  by_cases h0 : 0 ≤ i
  · rw [if_pos h0] at hf
    cases hx : l[i.toNat]? with
    | none => rw [hx] at hf; cases hf
    | some x =>
      rw [hx] at hf
      obtain ⟨⟨a0, a1, a2⟩, hca, hf⟩ := Option.bind_eq_some_iff.1 hf
      obtain ⟨⟨b0, b1, b2⟩, hcb, hf⟩ := Option.bind_eq_some_iff.1 hf
      by_cases hs : (l.length + 2) * 24 ≤ 140737488355328
      · rw [if_pos hs] at hf
        obtain rfl := Option.some.inj hf
        have := impl_Mesh_refine.at_ w0 base gm R u y2 y3 y4 l i.toNat x ⟨a0, a1, a2⟩ ⟨b0, b1, b2⟩ w hx hb0 hgm hB hbw hm hR hs hca hcb
        rwa [Int.toNat_of_nonneg h0] at this
      · rw [if_neg hs] at hf; cases hf
  · rw [if_neg h0] at hf; cases hf

def impl_Mesh_coarsen.flat (x : S36) : List Value := [.int .i64 x.f0, .int .i64 x.f1, .int .i64 x.f2]
set_option maxHeartbeats 8000000 in
set_option maxRecDepth 100000 in
theorem impl_Mesh_coarsen.at_ (w0 : World) (base gm : Nat) (R : Int) (u y2 y3 y4 : Value) (l : List S36) (i : Nat) (x p : S36) (pb : Bool) (w : World) (hx : l[i]? = some x) (hi1l : i + 2 ≤ l.length) (hb0 : w0.heap.size ≤ base) (hgm : base ≤ gm) (hB : Below w0.heap.size w0 w) (hbw : base ≤ w.heap.size)
    (hm : w.heap[gm]? = some (.cells #[.int .i64 R, u, y2, y3, y4] 29 (0, 0))) (hR : Kd.R k36 36 w base (fun _ => True) u l) (hsz : (l.length + 2) * 24 ≤ 140737488355328)
    (hpa : impl_ParentOf.f x.f0 x.f1 x.f2 = some (p.f0, p.f1, p.f2, pb)) :
    Calls Try.prog 92 #[.pointer (some ⟨gm, 0, none⟩), .int .i64 i] w fun e w' => e = .returned (.tuple #[]) ∧ Below w0.heap.size w0 w' ∧ Kept w w' (fun k => k = gm ∨ some k = u.ownBlock) ∧
      ∃ u', w'.heap[gm]? = some (.cells #[.int .i64 R, u', y2, y3, y4] 29 (0, 0)) ∧ Kd.R k36 36 w' base (fun _ => True) u' (l.take i ++ [p] ++ l.drop (i + 2)) ∧ (u'.ownBlock = u.ownBlock ∨ ∃ c, u'.ownBlock = some c ∧ w.heap.size ≤ c) := by
  obtain ⟨hil, hxe⟩ := List.getElem?_eq_some_iff.1 hx
  have hO : w.ownsRow base 36 3 u l.length (l.flatMap impl_Mesh_coarsen.flat) := Go.Proofs.Ytbkkehjhfgocfaa.OwnK.own_of_Kd (f := impl_Mesh_coarsen.flat) (fun h => k36_openM h) hR
  have NM := Aside0.mk (show some gm ≠ u.ownBlock from Kd.R_ne hR hm (by decide))
  rcases hO.2 with ⟨_, h0⟩ | ⟨g, cap, cur, rfl, hbg, hg, hnc, hcm, hcs, htake⟩
  · omega
  have hel : ∀ k, k < 3 → w.cell? ⟨g, i * 3 + k, none⟩ = (impl_Mesh_coarsen.flat x)[k]? := fun k hk => by
    rw [cell_of_row w g _ cur 36 (0, 0) hg, ← Array.getElem?_toList]
    have h1 : (cur.toList.take (l.length * 3))[i * 3 + k]? = cur.toList[i * 3 + k]? := by rw [List.getElem?_take, if_pos (by omega)]
    rw [← h1, htake]
    have h2 := Go.Proofs.Ytbkkehjhfgocfaa.OwnK.flat_drop (size := 3) (f := impl_Mesh_coarsen.flat) (fun _ => rfl) l i
    rw [← List.getElem?_drop, h2, List.drop_eq_getElem_cons hil, List.flatMap_cons, hxe, List.getElem?_append_left (by show k < 3; exact hk)]
  have hx0 : w.cell? ⟨g, i * 3, none⟩ = some (.int .i64 x.f0) := hel 0 (by decide)
  have hx1 : w.cell? ⟨g, i * 3 + 1, none⟩ = some (.int .i64 x.f1) := hel 1 (by decide)
  have hx2 : w.cell? ⟨g, i * 3 + 2, none⟩ = some (.int .i64 x.f2) := hel 2 (by decide)
  have hm1 : w.cell? ⟨gm, 1, none⟩ = some (.slice (some ⟨g, 0, none⟩) l.length cap) := (blk_cell hm 1).trans rfl
  have huI := Try.underlying36
  have hi1 : (0 : Int) ≤ (i : Int) := by omega
  have hi2 : (i : Int) < (l.length : Int) := by omega
  have HO := Aside0.mk hO
  have BM := Aside0.mk hm
  have HB := Aside0.mk hB
  have hgw : g < w.heap.size := (Array.getElem?_eq_some_iff.1 hg).1
  have HP := Aside0.mk hpa
  clear hO hR hel hpa
  go_enter Try.func92, Try.ntmps92
  go_wp2_with (
    go_at_call 120; refine (impl_ParentOf.calls x.f0 x.f1 x.f2 p.f0 p.f1 p.f2 pb _ HP.out).mono ?_
    rintro e W0 ⟨rfl, hb⟩
    have HBW := Aside0.mk (below_alloc (below_step HB.out hb) (.cells #[.int .i64 p.f0, .int .i64 p.f1, .int .i64 p.f2] 36))
    have BMW := Aside0.mk (blk_alloc (blk_below BM.out hb) (.cells #[.int .i64 p.f0, .int .i64 p.f1, .int .i64 p.f2] 36))
    have BXW := Aside0.mk (blk_new W0 (.cells #[.int .i64 p.f0, .int .i64 p.f1, .int .i64 p.f2] 36))
    have HOW := Aside0.mk ((pw_own_below HO.out hb).alloc (.cells #[.int .i64 p.f0, .int .i64 p.f1, .int .i64 p.f2] 36))
    have KPW := Aside0.mk ((Kept.of_below hb (fun k => k = gm ∨ some k = some g)).alloc (.cells #[.int .i64 p.f0, .int .i64 p.f1, .int .i64 p.f2] 36))
    have HSW := Aside0.mk (show W0.heap.size < (W0.alloc (.cells #[.int .i64 p.f0, .int .i64 p.f1, .int .i64 p.f2] 36)).heap.size by simp)
    have HS0 := Aside0.mk hb.size
    clear hb)
  have NX := Aside0.mk (show g ≠ W0.heap.size by have := HS0.out; omega)
  generalize W0.alloc (.cells #[.int .i64 p.f0, .int .i64 p.f1, .int .i64 p.f2] 36) = W at HBW BMW BXW HOW KPW HSW ⊢
  have hwi : IntKind.i64.wrap ((i : Int) + 2) = ((i + 2 : Nat) : Int) := by rw [IntKind.wrap_i64]; omega
  refine start_ (n := 14) (S := fun w' => w'.cell? ⟨gm, 1, none⟩ = some (.slice (some ⟨g, 0, none⟩) l.length cap) ∧ w'.cell? ⟨W0.heap.size, 0, none⟩ = some (.int .i64 p.f0) ∧ w'.cell? ⟨W0.heap.size, 1, none⟩ = some (.int .i64 p.f1) ∧ w'.cell? ⟨W0.heap.size, 2, none⟩ = some (.int .i64 p.f2)) (ds := [13]) #[false, false, false, false, false, false, false, false, false, false, false, false, false, false] (by kernel_rfl) rfl rfl ⟨(blk_cell BMW.out 1).trans rfl, (blk_cell BXW.out 0).trans rfl, (blk_cell BXW.out 1).trans rfl, (blk_cell BXW.out 2).trans rfl⟩ (fun hHeld => ?_)
  replace HBW := Aside0.mk (below_drew1 HBW.out); replace BMW := Aside0.mk (blk_drew BMW.out); replace BXW := Aside0.mk (blk_drew BXW.out); replace KPW := Aside0.mk (Kept.drew KPW.out); replace HSW := Aside0.mk (show W0.heap.size < W.drew.heap.size from HSW.out); replace HOW := Aside0.mk (show W.drew.ownsRow base 36 3 (.slice (some ⟨g, 0, none⟩) l.length cap) l.length (l.flatMap impl_Mesh_coarsen.flat) from HOW.out)
  generalize W.drew = W2 at HBW BMW BXW HOW KPW HSW hHeld ⊢
  refine pure_ (i := 0) (N := some 17) (v := ?_) (a' := ?_) #[true, false, false, false, false, false, false, false, false, false, false, false, false, false] rfl rfl (by kernel_rfl) (fun _ _ _ h => h) (Or.inl ⟨by rfl, ?_⟩) ?_ ?_
  rotate_left
  · intro w'
    go_simp
    with_reducible rfl
  rotate_left
  · simp only [Act.put, List.setIfInBounds_toArray, List.set_cons_zero, List.set_cons_succ, i64_w, i32_w]
    rfl
  refine pure_ (i := 1) (N := some 18) (v := ?_) (a' := ?_) #[true, true, false, false, false, false, false, false, false, false, false, false, false, false] rfl rfl (by kernel_rfl) (fun _ _ _ h => h) (Or.inl ⟨by rfl, ?_⟩) ?_ ?_
  rotate_left
  · intro w'
    go_simp
    with_reducible rfl
  rotate_left
  · simp only [Act.put, List.setIfInBounds_toArray, List.set_cons_zero, List.set_cons_succ, i64_w, i32_w]
    rfl
  refine pure_ (i := 2) (N := some 19) (v := ?_) (a' := ?_) #[true, true, true, false, false, false, false, false, false, false, false, false, false, false] rfl rfl (by kernel_rfl) (fun _ _ _ h => h) (Or.inl ⟨by rfl, ?_⟩) ?_ ?_
  rotate_left
  · intro w'
    go_simp
    with_reducible rfl
  rotate_left
  · simp only [Act.put, List.setIfInBounds_toArray, List.set_cons_zero, List.set_cons_succ, i64_w, i32_w]
    rfl
  refine pure_ (i := 3) (N := some 20) (v := ?_) (a' := ?_) #[true, true, true, true, false, false, false, false, false, false, false, false, false, false] rfl rfl (by kernel_rfl) (fun _ _ _ h => h) (Or.inl ⟨by rfl, ?_⟩) ?_ ?_
  rotate_left
  · intro w'
    go_simp
    with_reducible rfl
  rotate_left
  · simp only [Act.put, List.setIfInBounds_toArray, List.set_cons_zero, List.set_cons_succ, i64_w, i32_w]
    rfl
  refine take_ (i := 4) (N := some 21) (v := ?_) (a' := ?_) #[true, true, true, true, true, false, false, false, false, false, false, false, false, false] rfl rfl (by kernel_rfl) (fun _ _ _ h => h) (Or.inl ⟨by rfl, ?_⟩) hHeld ?_ ?_
  rotate_left
  · rintro w' ⟨s0, s1, s2, s3⟩
    go_simp
    with_reducible rfl
  rotate_left
  · simp only [Act.put, List.setIfInBounds_toArray, List.set_cons_zero, List.set_cons_succ, i64_w, i32_w]
    rfl
  refine pure_ (i := 5) (N := some 22) (v := ?_) (a' := ?_) #[true, true, true, true, true, true, false, false, false, false, false, false, false, false] rfl rfl (by kernel_rfl) (fun _ _ _ h => h) (Or.inl ⟨by rfl, ?_⟩) ?_ ?_
  rotate_left
  · intro w'
    go_simp
    with_reducible rfl
  rotate_left
  · simp only [Act.put, List.setIfInBounds_toArray, List.set_cons_zero, List.set_cons_succ, i64_w, i32_w]
    rfl
  refine pure_ (i := 6) (N := some 23) (v := ?_) (a' := ?_) #[true, true, true, true, true, true, true, false, false, false, false, false, false, false] rfl rfl (by kernel_rfl) (fun _ _ _ h => h) (Or.inl ⟨by rfl, ?_⟩) ?_ ?_
  rotate_left
  · intro w'
    go_simp
    with_reducible rfl
  rotate_left
  · simp only [Act.put, List.setIfInBounds_toArray, List.set_cons_zero, List.set_cons_succ, i64_w, i32_w]
    rfl
  refine pure_ (i := 7) (N := some 24) (v := ?_) (a' := ?_) #[true, true, true, true, true, true, true, true, false, false, false, false, false, false] rfl rfl (by kernel_rfl) (fun _ _ _ h => h) (Or.inl ⟨by rfl, ?_⟩) ?_ ?_
  rotate_left
  · intro w'
    go_simp
    with_reducible rfl
  rotate_left
  · simp only [Act.put, List.setIfInBounds_toArray, List.set_cons_zero, List.set_cons_succ, i64_w, i32_w]
    rfl
  refine take_ (i := 8) (N := some 25) (v := ?_) (a' := ?_) #[true, true, true, true, true, true, true, true, true, false, false, false, false, false] rfl rfl (by kernel_rfl) (fun _ _ _ h => h) (Or.inl ⟨by rfl, ?_⟩) hHeld ?_ ?_
  rotate_left
  · rintro w' ⟨s0, s1, s2, s3⟩
    go_simp
    with_reducible rfl
  rotate_left
  · simp only [Act.put, List.setIfInBounds_toArray, List.set_cons_zero, List.set_cons_succ, i64_w, i32_w]
    rfl
  refine one_ (i := 9) (N := some 26) #[true, true, true, true, true, true, true, true, true, true, false, false, false, false] rfl rfl (by kernel_rfl) (by decide) (fun K hK => ?_)
  refine value_ (w1 := ?_) (v := ?_) (by rfl) rfl ?_ ?_
  rotate_left 2
  · go_simp
    constructor
    · rfl
    · rfl
  have BV := Aside0.mk (blk_new W2 (.cells #[.int .i64 p.f0, .int .i64 p.f1, .int .i64 p.f2] 36))
  have NV := Aside0.mk (show g ≠ W2.heap.size from fun e => by have := World.ownsRow.lt HOW.out g rfl; omega)
  replace HBW := Aside0.mk (below_alloc HBW.out (.cells #[.int .i64 p.f0, .int .i64 p.f1, .int .i64 p.f2] 36))
  replace BMW := Aside0.mk (blk_alloc BMW.out (.cells #[.int .i64 p.f0, .int .i64 p.f1, .int .i64 p.f2] 36))
  replace BXW := Aside0.mk (blk_alloc BXW.out (.cells #[.int .i64 p.f0, .int .i64 p.f1, .int .i64 p.f2] 36))
  replace HOW := Aside0.mk (HOW.out.alloc (.cells #[.int .i64 p.f0, .int .i64 p.f1, .int .i64 p.f2] 36))
  replace KPW := Aside0.mk (KPW.out.alloc (.cells #[.int .i64 p.f0, .int .i64 p.f1, .int .i64 p.f2] 36))
  replace HSW := Aside0.mk (show W0.heap.size < (W2.alloc (.cells #[.int .i64 p.f0, .int .i64 p.f1, .int .i64 p.f2] 36)).heap.size by have := HSW.out; simp; omega)
  refine hK.out _ _ ⟨(blk_cell BMW.out 1).trans rfl, (blk_cell BXW.out 0).trans rfl, (blk_cell BXW.out 1).trans rfl, (blk_cell BXW.out 2).trans rfl⟩ (fun hHeld => ?_)
  clear hK K
  refine norm_ (a' := ?_) ?_ ?_
  rotate_left
  · show Act.put _ (some 26) _ = _
    simp only [Act.put, List.setIfInBounds_toArray, List.set_cons_zero, List.set_cons_succ, i64_w, i32_w]
    rfl
  refine one_ (i := 10) (N := some 27) #[true, true, true, true, true, true, true, true, true, true, true, false, false, false] rfl rfl (by kernel_rfl) (by decide) (fun K hK => ?_)
  refine goes_ Try.func113 (by kernel_rfl) (by kernel_rfl) #[.slice (some ⟨g, 0, none⟩) l.length cap, .int .i64 i, .int .i64 ((i + 2 : Nat) : Int), .slice (some ⟨W2.heap.size, 0, none⟩) 1 1] (by rfl) rfl rfl (by simp [Act.eval]) ?_
  refine (Go.Proofs.Ytbkkehjhfgocfaa.ReplId.calls base (.slice (some ⟨g, 0, none⟩) l.length cap) l.length i (i + 2) 1 W2.heap.size 1 (l.flatMap impl_Mesh_coarsen.flat) [.int .i64 p.f0, .int .i64 p.f1, .int .i64 p.f2] _ HOW.out (by omega) (by omega) (by omega) (by omega) (fun e => NV.out (by simpa [Value.ownBlock] using e)) BV.out rfl (by omega) (Go.Proofs.Ytbkkehjhfgocfaa.OwnK.flat_one (fun p u hu => by simp [impl_Mesh_coarsen.flat] at hu; rcases hu with rfl | rfl | rfl <;> rfl) l) (fun u hu => by simp at hu; rcases hu with rfl | rfl | rfl <;> rfl)).mono ?_
  rintro e w7 ⟨v7, g7, hg7, rfl, ho7, hgr, hat⟩
  obtain rfl : g = g7 := by simpa [Value.ownBlock] using hg7
  refine ⟨_, rfl, ?_⟩
  have hgm7 : some gm ≠ (Value.slice (some ⟨g, 0, none⟩) l.length cap).ownBlock := NM.out
  replace BMW := Aside0.mk (blk_grown BMW.out hgr hgm7)
  replace BXW := Aside0.mk (blk_grown BXW.out hgr (fun e => NX.out (by injection e with e; exact e.symm)))
  replace HBW := Aside0.mk (HBW.out.grown hgr (by have := HSW.out; have := HS0.out; omega) (fun k hk => by injection hk with hk; omega))
  replace KPW := Aside0.mk (Kept.of_grown hgr KPW.out (fun k hk => Or.inl (Or.inr hk.symm)))
  have HAT := Aside0.mk (show v7.ownBlock = some g ∨ ∃ c, v7.ownBlock = some c ∧ w.heap.size ≤ c from hat.imp id (fun ⟨c, h1, h2⟩ => ⟨c, h1, by have := HSW.out; have := HS0.out; omega⟩))
  obtain ⟨A7, c7, rfl⟩ := own_slice ho7
  have HO7 := Aside0.mk ho7
  refine hK.out _ _ ⟨(blk_cell BMW.out 1).trans rfl, (blk_cell BXW.out 0).trans rfl, (blk_cell BXW.out 1).trans rfl, (blk_cell BXW.out 2).trans rfl⟩ (fun hHeld => ?_)
  clear hgr hat ho7 hg7
  clear hK K
  refine norm_ (a' := ?_) ?_ ?_
  rotate_left
  · show Act.put _ (some 27) _ = _
    simp only [Act.put, List.setIfInBounds_toArray, List.set_cons_zero, List.set_cons_succ, i64_w, i32_w]
    rfl
  refine pure_ (i := 11) (N := some 28) (v := ?_) (a' := ?_) #[true, true, true, true, true, true, true, true, true, true, true, true, false, false] rfl rfl (by kernel_rfl) (fun _ _ _ h => h) (Or.inl ⟨by rfl, ?_⟩) ?_ ?_
  rotate_left
  · intro w'
    go_simp
    with_reducible rfl
  rotate_left
  · simp only [Act.put, List.setIfInBounds_toArray, List.set_cons_zero, List.set_cons_succ, i64_w, i32_w]
    rfl
  refine pure_ (i := 12) (N := some 29) (v := ?_) (a' := ?_) #[true, true, true, true, true, true, true, true, true, true, true, true, true, false] rfl rfl (by kernel_rfl) (fun _ _ _ h => h) (Or.inl ⟨by rfl, ?_⟩) ?_ ?_
  rotate_left
  · intro w'
    go_simp
    with_reducible rfl
  rotate_left
  · simp only [Act.put, List.setIfInBounds_toArray, List.set_cons_zero, List.set_cons_succ, i64_w, i32_w]
    rfl
  refine last_ (i := 13) (N := none) #[true, true, true, true, true, true, true, true, true, true, true, true, true, true] rfl rfl (by kernel_rfl) (by decide) (fun K hK => ?_)
  have hfz := blk_frozen BMW.out 1
  have hcz : w7.cell? ⟨gm, 1, none⟩ = some (.slice (some ⟨g, 0, none⟩) l.length cap) := (blk_cell BMW.out 1).trans rfl
  refine skip_ (w1 := ?_) (by rfl) rfl ?_ ?_
  rotate_left
  · go_simp
    rfl
  refine hK.out _ _ ?_
  clear hK K
  refine done_ (by kernel_rfl) ?_
  go_end0
  have hfl : (l.flatMap impl_Mesh_coarsen.flat).take (i * 3) ++ [.int .i64 p.f0, .int .i64 p.f1, .int .i64 p.f2] ++ (l.flatMap impl_Mesh_coarsen.flat).drop ((i + 2) * 3) = (l.take i ++ [p] ++ l.drop (i + 2)).flatMap impl_Mesh_coarsen.flat := by
    rw [Go.Proofs.Ytbkkehjhfgocfaa.OwnK.flat_take (size := 3) (f := impl_Mesh_coarsen.flat) (fun _ => rfl), Go.Proofs.Ytbkkehjhfgocfaa.OwnK.flat_drop (size := 3) (f := impl_Mesh_coarsen.flat) (fun _ => rfl), List.flatMap_append, List.flatMap_append]
    rfl
  have hlen : i + 1 + (l.length - (i + 2)) = (l.take i ++ [p] ++ l.drop (i + 2)).length := by simp; omega
  have hr7 := HO7.out
  rw [hfl, hlen] at hr7
  have hk7 := Go.Proofs.Ytbkkehjhfgocfaa.OwnK.Kd_of_own (d := k36) (f := impl_Mesh_coarsen.flat) (fun w base ok x => k36_mkM w base ok x) hr7
  rw [← hlen] at hk7
  refine ⟨rfl, HBW.out.setCell (by show w0.heap.size ≤ gm; omega) _, KPW.out.setCell (Or.inl (Or.inl rfl)) _, _, blk_put BMW.out 1 _ rfl, Kd.R_set hk7 BMW.out (by decide) 1 _, HAT.out⟩
def impl_Mesh_coarsen.f (l : List S36) (i : Int) : Option (List S36) :=
  if 0 ≤ i then
    match l[i.toNat]? with
    | some x => (impl_ParentOf.f x.f0 x.f1 x.f2).bind fun p => if i.toNat + 2 ≤ l.length then (if (l.length + 2) * 24 ≤ 140737488355328 then some (l.take i.toNat ++ [⟨p.1, p.2.1, p.2.2.1⟩] ++ l.drop (i.toNat + 2)) else none) else none
    | none => none
  else none
theorem impl_Mesh_coarsen.calls (w0 : World) (base gm : Nat) (R : Int) (u y2 y3 y4 : Value) (l l' : List S36) (i : Int) (w : World) (hf : impl_Mesh_coarsen.f l i = some l') (hb0 : w0.heap.size ≤ base) (hgm : base ≤ gm) (hB : Below w0.heap.size w0 w) (hbw : base ≤ w.heap.size)
    (hm : w.heap[gm]? = some (.cells #[.int .i64 R, u, y2, y3, y4] 29 (0, 0))) (hR : Kd.R k36 36 w base (fun _ => True) u l) :
    Calls Try.prog 92 #[.pointer (some ⟨gm, 0, none⟩), .int .i64 i] w fun e w' => e = .returned (.tuple #[]) ∧ Below w0.heap.size w0 w' ∧ Kept w w' (fun k => k = gm ∨ some k = u.ownBlock) ∧
      ∃ u', w'.heap[gm]? = some (.cells #[.int .i64 R, u', y2, y3, y4] 29 (0, 0)) ∧ Kd.R k36 36 w' base (fun _ => True) u' l' ∧ (u'.ownBlock = u.ownBlock ∨ ∃ c, u'.ownBlock = some c ∧ w.heap.size ≤ c) := by
  unfold impl_Mesh_coarsen.f at hf
  by_cases h0 : 0 ≤ i
  · rw [if_pos h0] at hf
    cases hx : l[i.toNat]? with
    | none => rw [hx] at hf; cases hf
    | some x =>
      rw [hx] at hf
      obtain ⟨⟨p0, p1, p2, pb⟩, hpa, hf⟩ := Option.bind_eq_some_iff.1 hf
      by_cases h2 : i.toNat + 2 ≤ l.length
      · rw [if_pos h2] at hf
        by_cases hs : (l.length + 2) * 24 ≤ 140737488355328
        · rw [if_pos hs] at hf
          obtain rfl := Option.some.inj hf
          have := impl_Mesh_coarsen.at_ w0 base gm R u y2 y3 y4 l i.toNat x ⟨p0, p1, p2⟩ pb w hx h2 hb0 hgm hB hbw hm hR hs hpa
          rwa [Int.toNat_of_nonneg h0] at this
        · rw [if_neg hs] at hf; cases hf
      · rw [if_neg h2] at hf; cases hf
  · rw [if_neg h0] at hf; cases hf

end Go.Proofs.Ytbkkehjhfgocfaa.PFnTransferred
