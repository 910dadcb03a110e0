/- Functions of the reference and of the program over states, walked by hand; no condition. -/
import Derived.Test.YtbkkehjhfgocfaaPFnTransferredx19
namespace Go.Proofs.Ytbkkehjhfgocfaa.PFnTransferred
open Go.RowKit Go.Proofs.YtbkkehjhfgocfaaW.PrintWords Go.Proofs.YtbkkehjhfgocfaaW.PrintLast Go.Proofs.YtbkkehjhfgocfaaW.PrintMore
set_option linter.unusedVariables false
set_option linter.unusedSimpArgs false
set_option maxHeartbeats 16000000 in
set_option maxRecDepth 100000 in
theorem impl_State_coarsen.at_ (w0 : World) (lo hi gs : Nat) (R : Int) (u1 u2 u3 u4 : Value) (l : List S36) (m t b : List Int) (i : Nat) (j1 : Int) (hj1 : ((i + 1 : Nat) : Int) = j1) (w : World) (hi2 : i + 1 < m.length) (hi3 : i + 1 < t.length) (l' : List S36) (hl : impl_Mesh_coarsen.f l (i : Int) = some l') (hz : (m.length + 2) * 8 ≤ 140737488355328 ∧ (t.length + 2) * 8 ≤ 140737488355328)
  (hB : Below w0.heap.size w0 w) (hlo : w0.heap.size ≤ lo) (hgs : lo ≤ gs) (hbox : w.heap[gs]? = some (.cells #[.int .i64 R, u1, u2, u3, u4] 29 (0, 0))) (ho : Ow lo hi w u1 l u2 m u3 t u4 b) :
  Calls Try.prog 56 #[.pointer (some ⟨gs, 0, none⟩), .int .i64 (i : Int)] w fun e w' => e = .returned (.tuple #[]) ∧ Below lo w w' ∧ ∃ u1' u2' u3', w'.heap[gs]? = some (.cells #[.int .i64 R, u1', u2', u3', u4] 29 (0, 0)) ∧ Ow lo w'.heap.size w' u1' l' u2' (m.take i ++ [wrap64 (rd m (i : Int) + rd m j1)] ++ m.drop (i + 2)) u3' (t.take i ++ [wrap64 (rd t (i : Int) + rd t j1)] ++ t.drop (i + 2)) u4 b := by
  have hi0 : (0 : Int) ≤ (i : Int) := by omega
  have hi2' : (i : Int) < (m.length : Int) := by omega
  have hi3' : (i : Int) < (t.length : Int) := by omega
  have hj0 : (0 : Int) ≤ j1 := by omega
  have hj2 : j1 < (m.length : Int) := by omega
  have hj3 : j1 < (t.length : Int) := by omega
  have hwi : IntKind.i64.wrap ((i : Int) + 2) = ((i + 2 : Nat) : Int) := by rw [IntKind.wrap_i64]; have := hz.1; omega
  have hwj : IntKind.i64.wrap ((i : Int) + 1) = j1 := by rw [IntKind.wrap_i64, ← hj1]; have := hz.1; omega
  have hls : lo ≤ w.heap.size := by have := blk_lt hbox; omega
  obtain ⟨A1, c1, rfl⟩ := Kd.R_slice ho.r1
  obtain ⟨A2, c2, rfl⟩ := Kd.R_slice ho.r2
  obtain ⟨A3, c3, rfl⟩ := Kd.R_slice ho.r3
  obtain ⟨A4, c4, rfl⟩ := Kd.R_slice ho.r4
  have HL := Aside0.mk hl; have HZ := Aside0.mk (And.intro hz (And.intro hi2 hi3)); have HB := Aside0.mk hB; have HLO := Aside0.mk (And.intro hlo (And.intro hgs hls)); have BS := Aside0.mk hbox; have HO := Aside0.mk ho; have HW := Aside0.mk (Below.refl lo w); have HJ := Aside0.mk hj1
  clear hl hz hi2 hi3 hB hlo hgs hbox ho hls hj1
  go_enter Try.func56, Try.ntmps56
  go_wp2_with (go_at_call 92; refine (impl_Mesh_coarsen.calls w0 lo gs R (.slice A1 l.length c1) (.slice A2 m.length c2) (.slice A3 t.length c3) (.slice A4 b.length c4) l l' (i : Int) _ HL.out HLO.out.1 HLO.out.2.1 HB.out (Nat.le_trans HLO.out.2.2 HW.out.size) BS.out (Kd.R_mono HO.out.r1 (fun _ _ => trivial))).mono ?_; rintro e w38 ⟨rfl, hb, hk, u1', hm', hr', hat⟩; have hbl := below_kept HB.out hb hk (lo := lo) (fun k hs => by (rcases hs with rfl | e); exact HLO.out.2.1; (obtain ⟨inner, h9⟩ := Kd.R_own HO.out.r1; exact own_base h9 k e.symm)) (Nat.le_trans HLO.out.2.2 HW.out.size); replace HO := Aside0.mk (HO.out.put1 BS.out hk hr'); replace BS := Aside0.mk hm'; replace HW := Aside0.mk (HW.out.trans hbl); replace HB := Aside0.mk hb; clear hb hk hm' hr' hat hbl)
  obtain ⟨g2, c2_, e3, hg9, hx⟩ := ow_at2 HO.out i (by have := HZ.out.2.1; omega)
  injection e3 with e1 e2 e3
  subst e1 e3
  obtain ⟨g_, c_, e3, hg_, hy⟩ := ow_at2 HO.out (i + 1) HZ.out.2.1
  injection e3 with e1 e2' e3
  injection e1 with e1
  injection e1 with e1
  subst e1 e3
  rw [HJ.out] at hy
  have hd := (Below.refl w38.heap.size w38).drew
  have HX := Aside0.mk (pw_cell_below hd hx); have HY := Aside0.mk (show w38.drew.cell? ⟨g2, j1.toNat, none⟩ = some (.int .i64 (rd m j1)) by rw [← HJ.out, Int.toNat_natCast]; rw [HJ.out]; exact pw_cell_below hd hy); replace BS := Aside0.mk (blk_below BS.out hd); replace HO := Aside0.mk (HO.out.below hd); replace HW := Aside0.mk (show Below lo w w38.drew from HW.out.drew); replace HB := Aside0.mk (below_step HB.out hd); have HG := Aside0.mk hg9
  clear hd hx hy hg9 hg_ e2 e2'
  refine start_ (n := 29) (S := fun w' => w'.cell? ⟨gs, 2, none⟩ = some (.slice (some ⟨g2, 0, none⟩) m.length c2) ∧ w'.cell? ⟨g2, i, none⟩ = some (.int .i64 (rd m (i : Int))) ∧ w'.cell? ⟨g2, j1.toNat, none⟩ = some (.int .i64 (rd m j1))) (ds := [25, 28]) #[N_,N_,N_,N_,N_,N_,N_,N_,N_,N_,N_,N_,N_,N_,N_,N_,N_,N_,N_,N_,N_,N_,N_,N_,N_,N_,N_,N_,N_] (by kernel_rfl) rfl rfl ⟨(blk_cell BS.out 2).trans rfl, HX.out, HY.out⟩ (fun hHeld => ?_)
  generalize w38.drew = w52 at HX HY BS HO HW HB hHeld ⊢
  refine pure_ (i := 0) (N := some 9) (v := ?_) (a' := ?_) #[Y_,N_,N_,N_,N_,N_,N_,N_,N_,N_,N_,N_,N_,N_,N_,N_,N_,N_,N_,N_,N_,N_,N_,N_,N_,N_,N_,N_,N_] rfl rfl (by kernel_rfl) (fun _ _ _ h => h) (Or.inl ⟨by rfl, ?_⟩) ?_ ?_
  rotate_left
  · (intro w'; go_simp; with_reducible rfl)
  rotate_left
  · (simp only [Act.put, q1_, q2_, q3_, i64_w, i32_w]; rfl)
  refine pure_ (i := 1) (N := some 10) (v := ?_) (a' := ?_) #[Y_,Y_,N_,N_,N_,N_,N_,N_,N_,N_,N_,N_,N_,N_,N_,N_,N_,N_,N_,N_,N_,N_,N_,N_,N_,N_,N_,N_,N_] rfl rfl (by kernel_rfl) (fun _ _ _ h => h) (Or.inl ⟨by rfl, ?_⟩) ?_ ?_
  rotate_left
  · (intro w'; go_simp; with_reducible rfl)
  rotate_left
  · (simp only [Act.put, q1_, q2_, q3_, i64_w, i32_w]; rfl)
  refine pure_ (i := 2) (N := some 11) (v := ?_) (a' := ?_) #[Y_,Y_,Y_,N_,N_,N_,N_,N_,N_,N_,N_,N_,N_,N_,N_,N_,N_,N_,N_,N_,N_,N_,N_,N_,N_,N_,N_,N_,N_] rfl rfl (by kernel_rfl) (fun _ _ _ h => h) (Or.inl ⟨by rfl, ?_⟩) ?_ ?_
  rotate_left
  · (intro w'; go_simp; with_reducible rfl)
  rotate_left
  · (simp only [Act.put, q1_, q2_, q3_, i64_w, i32_w]; rfl)
  refine pure_ (i := 3) (N := some 12) (v := ?_) (a' := ?_) #[Y_,Y_,Y_,Y_,N_,N_,N_,N_,N_,N_,N_,N_,N_,N_,N_,N_,N_,N_,N_,N_,N_,N_,N_,N_,N_,N_,N_,N_,N_] rfl rfl (by kernel_rfl) (fun _ _ _ h => h) (Or.inl ⟨by rfl, ?_⟩) ?_ ?_
  rotate_left
  · (intro w'; go_simp; with_reducible rfl)
  rotate_left
  · (simp only [Act.put, q1_, q2_, q3_, i64_w, i32_w]; rfl)
  refine pure_ (i := 5) (N := some 14) (v := ?_) (a' := ?_) #[Y_,Y_,Y_,Y_,N_,Y_,N_,N_,N_,N_,N_,N_,N_,N_,N_,N_,N_,N_,N_,N_,N_,N_,N_,N_,N_,N_,N_,N_,N_] rfl rfl (by kernel_rfl) (fun _ _ _ h => h) (Or.inl ⟨by rfl, ?_⟩) ?_ ?_
  rotate_left
  · (intro w'; go_simp; with_reducible rfl)
  rotate_left
  · (simp only [Act.put, q1_, q2_, q3_, i64_w, i32_w]; rfl)
  refine pure_ (i := 6) (N := some 15) (v := ?_) (a' := ?_) #[Y_,Y_,Y_,Y_,N_,Y_,Y_,N_,N_,N_,N_,N_,N_,N_,N_,N_,N_,N_,N_,N_,N_,N_,N_,N_,N_,N_,N_,N_,N_] rfl rfl (by kernel_rfl) (fun _ _ _ h => h) (Or.inl ⟨by rfl, ?_⟩) ?_ ?_
  rotate_left
  · (intro w'; go_simp; with_reducible rfl)
  rotate_left
  · (simp only [Act.put, q1_, q2_, q3_, i64_w, i32_w]; rfl)
  refine pure_ (i := 7) (N := some 16) (v := ?_) (a' := ?_) #[Y_,Y_,Y_,Y_,N_,Y_,Y_,Y_,N_,N_,N_,N_,N_,N_,N_,N_,N_,N_,N_,N_,N_,N_,N_,N_,N_,N_,N_,N_,N_] rfl rfl (by kernel_rfl) (fun _ _ _ h => h) (Or.inl ⟨by rfl, ?_⟩) ?_ ?_
  rotate_left
  · (intro w'; go_simp; with_reducible rfl)
  rotate_left
  · (simp only [Act.put, q1_, q2_, q3_, i64_w, i32_w]; rfl)
  refine pure_ (i := 8) (N := some 17) (v := ?_) (a' := ?_) #[Y_,Y_,Y_,Y_,N_,Y_,Y_,Y_,Y_,N_,N_,N_,N_,N_,N_,N_,N_,N_,N_,N_,N_,N_,N_,N_,N_,N_,N_,N_,N_] rfl rfl (by kernel_rfl) (fun _ _ _ h => h) (Or.inl ⟨by rfl, ?_⟩) ?_ ?_
  rotate_left
  · (intro w'; go_simp; with_reducible rfl)
  rotate_left
  · (simp only [Act.put, q1_, q2_, q3_, i64_w, i32_w]; rfl)
  refine pure_ (i := 9) (N := some 18) (v := ?_) (a' := ?_) #[Y_,Y_,Y_,Y_,N_,Y_,Y_,Y_,Y_,Y_,N_,N_,N_,N_,N_,N_,N_,N_,N_,N_,N_,N_,N_,N_,N_,N_,N_,N_,N_] rfl rfl (by kernel_rfl) (fun _ _ _ h => h) (Or.inl ⟨by rfl, ?_⟩) ?_ ?_
  rotate_left
  · (intro w'; go_simp; with_reducible rfl)
  rotate_left
  · (simp only [Act.put, q1_, q2_, q3_, i64_w, i32_w]; rfl)
  refine pure_ (i := 10) (N := some 19) (v := ?_) (a' := ?_) #[Y_,Y_,Y_,Y_,N_,Y_,Y_,Y_,Y_,Y_,Y_,N_,N_,N_,N_,N_,N_,N_,N_,N_,N_,N_,N_,N_,N_,N_,N_,N_,N_] rfl rfl (by kernel_rfl) (fun _ _ _ h => h) (Or.inl ⟨by rfl, ?_⟩) ?_ ?_
  rotate_left
  · (intro w'; go_simp; with_reducible rfl)
  rotate_left
  · (simp only [Act.put, q1_, q2_, q3_, i64_w, i32_w]; rfl)
  refine pure_ (i := 12) (N := some 21) (v := ?_) (a' := ?_) #[Y_,Y_,Y_,Y_,N_,Y_,Y_,Y_,Y_,Y_,Y_,N_,Y_,N_,N_,N_,N_,N_,N_,N_,N_,N_,N_,N_,N_,N_,N_,N_,N_] rfl rfl (by kernel_rfl) (fun _ _ _ h => h) (Or.inl ⟨by rfl, ?_⟩) ?_ ?_
  rotate_left
  · (intro w'; go_simp; with_reducible rfl)
  rotate_left
  · (simp only [Act.put, q1_, q2_, q3_, i64_w, i32_w]; rfl)
  refine pure_ (i := 15) (N := some 24) (v := ?_) (a' := ?_) #[Y_,Y_,Y_,Y_,N_,Y_,Y_,Y_,Y_,Y_,Y_,N_,Y_,N_,N_,Y_,N_,N_,N_,N_,N_,N_,N_,N_,N_,N_,N_,N_,N_] rfl rfl (by kernel_rfl) (fun _ _ _ h => h) (Or.inl ⟨by rfl, ?_⟩) ?_ ?_
  rotate_left
  · (intro w'; go_simp; with_reducible rfl)
  rotate_left
  · (simp only [Act.put, q1_, q2_, q3_, i64_w, i32_w]; rfl)
  refine pure_ (i := 16) (N := some 25) (v := ?_) (a' := ?_) #[Y_,Y_,Y_,Y_,N_,Y_,Y_,Y_,Y_,Y_,Y_,N_,Y_,N_,N_,Y_,Y_,N_,N_,N_,N_,N_,N_,N_,N_,N_,N_,N_,N_] rfl rfl (by kernel_rfl) (fun _ _ _ h => h) (Or.inl ⟨by rfl, ?_⟩) ?_ ?_
  rotate_left
  · (intro w'; go_simp; with_reducible rfl)
  rotate_left
  · (simp only [Act.put, q1_, q2_, q3_, i64_w, i32_w]; rfl)
  refine pure_ (i := 17) (N := some 26) (v := ?_) (a' := ?_) #[Y_,Y_,Y_,Y_,N_,Y_,Y_,Y_,Y_,Y_,Y_,N_,Y_,N_,N_,Y_,Y_,Y_,N_,N_,N_,N_,N_,N_,N_,N_,N_,N_,N_] rfl rfl (by kernel_rfl) (fun _ _ _ h => h) (Or.inl ⟨by rfl, ?_⟩) ?_ ?_
  rotate_left
  · (intro w'; go_simp; with_reducible rfl)
  rotate_left
  · (simp only [Act.put, q1_, q2_, q3_, i64_w, i32_w]; rfl)
  refine pure_ (i := 19) (N := some 28) (v := ?_) (a' := ?_) #[Y_,Y_,Y_,Y_,N_,Y_,Y_,Y_,Y_,Y_,Y_,N_,Y_,N_,N_,Y_,Y_,Y_,N_,Y_,N_,N_,N_,N_,N_,N_,N_,N_,N_] rfl rfl (by kernel_rfl) (fun _ _ _ h => h) (Or.inl ⟨by rfl, ?_⟩) ?_ ?_
  rotate_left
  · (intro w'; go_simp; with_reducible rfl)
  rotate_left
  · (simp only [Act.put, q1_, q2_, q3_, i64_w, i32_w]; rfl)
  refine pure_ (i := 20) (N := some 29) (v := ?_) (a' := ?_) #[Y_,Y_,Y_,Y_,N_,Y_,Y_,Y_,Y_,Y_,Y_,N_,Y_,N_,N_,Y_,Y_,Y_,N_,Y_,Y_,N_,N_,N_,N_,N_,N_,N_,N_] rfl rfl (by kernel_rfl) (fun _ _ _ h => h) (Or.inl ⟨by rfl, ?_⟩) ?_ ?_
  rotate_left
  · (intro w'; go_simp; with_reducible rfl)
  rotate_left
  · (simp only [Act.put, q1_, q2_, q3_, i64_w, i32_w]; rfl)
  refine take_ (i := 4) (N := some 13) (v := ?_) (a' := ?_) #[Y_,Y_,Y_,Y_,Y_,Y_,Y_,Y_,Y_,Y_,Y_,N_,Y_,N_,N_,Y_,Y_,Y_,N_,Y_,Y_,N_,N_,N_,N_,N_,N_,N_,N_] rfl rfl (by kernel_rfl) (fun _ _ _ h => h) (Or.inl ⟨by rfl, ?_⟩) hHeld ?_ ?_
  rotate_left
  · (rintro w' ⟨s0, s1, s2⟩; go_simp; with_reducible rfl)
  rotate_left
  · (simp only [Act.put, q1_, q2_, q3_, i64_w, i32_w]; rfl)
  refine take_ (i := 11) (N := some 20) (v := ?_) (a' := ?_) #[Y_,Y_,Y_,Y_,Y_,Y_,Y_,Y_,Y_,Y_,Y_,Y_,Y_,N_,N_,Y_,Y_,Y_,N_,Y_,Y_,N_,N_,N_,N_,N_,N_,N_,N_] rfl rfl (by kernel_rfl) (fun _ _ _ h => h) (Or.inl ⟨by rfl, ?_⟩) hHeld ?_ ?_
  rotate_left
  · (rintro w' ⟨s0, s1, s2⟩; go_simp; with_reducible rfl)
  rotate_left
  · (simp only [Act.put, q1_, q2_, q3_, i64_w, i32_w]; rfl)
  refine take_ (i := 18) (N := some 27) (v := ?_) (a' := ?_) #[Y_,Y_,Y_,Y_,Y_,Y_,Y_,Y_,Y_,Y_,Y_,Y_,Y_,N_,N_,Y_,Y_,Y_,Y_,Y_,Y_,N_,N_,N_,N_,N_,N_,N_,N_] rfl rfl (by kernel_rfl) (fun _ _ _ h => h) (Or.inl ⟨by rfl, ?_⟩) hHeld ?_ ?_
  rotate_left
  · (rintro w' ⟨s0, s1, s2⟩; go_simp; with_reducible rfl)
  rotate_left
  · (simp only [Act.put, q1_, q2_, q3_, i64_w, i32_w]; rfl)
  refine pure_ (i := 13) (N := some 22) (v := ?_) (a' := ?_) #[Y_,Y_,Y_,Y_,Y_,Y_,Y_,Y_,Y_,Y_,Y_,Y_,Y_,Y_,N_,Y_,Y_,Y_,Y_,Y_,Y_,N_,N_,N_,N_,N_,N_,N_,N_] rfl rfl (by kernel_rfl) (fun _ _ _ h => h) (Or.inl ⟨by rfl, ?_⟩) ?_ ?_
  rotate_left
  · (intro w'; go_simp; with_reducible rfl)
  rotate_left
  · (simp only [Act.put, q1_, q2_, q3_, i64_w, i32_w]; rfl)
  refine pure_ (i := 21) (N := some 30) (v := ?_) (a' := ?_) #[Y_,Y_,Y_,Y_,Y_,Y_,Y_,Y_,Y_,Y_,Y_,Y_,Y_,Y_,N_,Y_,Y_,Y_,Y_,Y_,Y_,Y_,N_,N_,N_,N_,N_,N_,N_] rfl rfl (by kernel_rfl) (fun _ _ _ h => h) (Or.inl ⟨by rfl, ?_⟩) ?_ ?_
  rotate_left
  · (intro w'; go_simp; with_reducible rfl)
  rotate_left
  · (simp only [Act.put, q1_, q2_, q3_, i64_w, i32_w]; rfl)
  refine take_ (i := 14) (N := some 23) (v := ?_) (a' := ?_) #[Y_,Y_,Y_,Y_,Y_,Y_,Y_,Y_,Y_,Y_,Y_,Y_,Y_,Y_,Y_,Y_,Y_,Y_,Y_,Y_,Y_,Y_,N_,N_,N_,N_,N_,N_,N_] rfl rfl (by kernel_rfl) (fun _ _ _ h => h) (Or.inl ⟨by rfl, ?_⟩) hHeld ?_ ?_
  rotate_left
  · (rintro w' ⟨s0, s1, s2⟩; go_simp; with_reducible rfl)
  rotate_left
  · (simp only [Act.put, q1_, q2_, q3_, i64_w, i32_w]; rfl)
  refine take_ (i := 22) (N := some 31) (v := ?_) (a' := ?_) #[Y_,Y_,Y_,Y_,Y_,Y_,Y_,Y_,Y_,Y_,Y_,Y_,Y_,Y_,Y_,Y_,Y_,Y_,Y_,Y_,Y_,Y_,Y_,N_,N_,N_,N_,N_,N_] rfl rfl (by kernel_rfl) (fun _ _ _ h => h) (Or.inl ⟨by rfl, ?_⟩) hHeld ?_ ?_
  rotate_left
  · (rintro w' ⟨s0, s1, s2⟩; go_simp; with_reducible rfl)
  rotate_left
  · (simp only [Act.put, q1_, q2_, q3_, i64_w, i32_w]; rfl)
  refine pure_ (i := 23) (N := some 32) (v := ?_) (a' := ?_) #[Y_,Y_,Y_,Y_,Y_,Y_,Y_,Y_,Y_,Y_,Y_,Y_,Y_,Y_,Y_,Y_,Y_,Y_,Y_,Y_,Y_,Y_,Y_,Y_,N_,N_,N_,N_,N_] rfl rfl (by kernel_rfl) (fun _ _ _ h => h) (Or.inl ⟨by rfl, ?_⟩) ?_ ?_
  rotate_left
  · (intro w'; go_simp; with_reducible rfl)
  rotate_left
  · (simp only [Act.put, q1_, q2_, q3_, i64_w, i32_w]; rfl)
  refine one_ (i := 24) (N := some 33) #[Y_,Y_,Y_,Y_,Y_,Y_,Y_,Y_,Y_,Y_,Y_,Y_,Y_,Y_,Y_,Y_,Y_,Y_,Y_,Y_,Y_,Y_,Y_,Y_,Y_,N_,N_,N_,N_] rfl rfl (by kernel_rfl) (by decide) (fun K hK => ?_)
  refine lit_step (by rfl) (n := 1) (c := 1) (t := 3) (cs := ([wrap64 (rd m (i : Int) + rd m j1)].map (Value.int .i64)).toArray) (by first | (go_simp; done) | (go_simp; rfl)) ?_
  intro gv hg w71 hv hb
  have NV := Aside0.mk (show g2 ≠ gv by rw [hg]; obtain ⟨inner, h9⟩ := Kd.R_own HO.out.r2; exact Nat.ne_of_lt (own_lt h9 g2 rfl))
  have HV := Aside0.mk hv; replace HX := Aside0.mk (pw_cell_below hb HX.out); replace HY := Aside0.mk (pw_cell_below hb HY.out); replace BS := Aside0.mk (blk_below BS.out hb); replace HO := Aside0.mk (HO.out.below hb); replace HW := Aside0.mk (HW.out.trans (hb.mono (Nat.le_trans HLO.out.2.2 HW.out.size))); replace HB := Aside0.mk (below_step HB.out hb)
  clear hb hv hg
  refine hK.out _ _ ⟨(blk_cell BS.out 2).trans rfl, HX.out, HY.out⟩ (fun hHeld => ?_)
  clear hK K
  refine norm_ (a' := ?_) ?_ ?_
  rotate_left
  · (show Act.put _ (some 33) _ = _; simp only [Act.put, q1_, q2_, q3_, i64_w, i32_w]; rfl)
  refine last_ (i := 25) (N := some 34) #[Y_,Y_,Y_,Y_,Y_,Y_,Y_,Y_,Y_,Y_,Y_,Y_,Y_,Y_,Y_,Y_,Y_,Y_,Y_,Y_,Y_,Y_,Y_,Y_,Y_,Y_,N_,N_,N_] rfl rfl (by kernel_rfl) (by decide) (fun K hK => ?_)
  refine goes_ Try.func89 (by kernel_rfl) (by kernel_rfl) #[.slice (some ⟨g2, 0, none⟩) m.length c2, .int .i64 (i : Int), .int .i64 ((i + 2 : Nat) : Int), .slice (some ⟨gv, 0, none⟩) 1 1] (by rfl) rfl rfl (by simp [Act.eval]) ?_
  refine (rep_go [wrap64 (rd m (i : Int) + rd m j1)] 1 rfl HO.out.r2 (by omega) (by have := HZ.out.2.1; omega) (by decide) (by omega) (by have := HZ.out.1.1; omega) (fun e => NV.out (by simpa [Value.ownBlock] using e)) HV.out).mono ?_
  rintro e w72 ⟨v72, rfl, hr, hg, hat⟩
  refine ⟨_, rfl, ?_⟩
  have hg9 : lo ≤ g2 := HG.out
  have hl9 := Nat.le_trans HLO.out.2.2 HW.out.size
  replace BS := Aside0.mk (blk_grown BS.out hg (Kd.R_ne HO.out.r2 BS.out (by decide)))
  replace HO := Aside0.mk (HO.out.put2 hg hr hat)
  replace HW := Aside0.mk (HW.out.grown hg hl9 (fun k hk => by have : g2 = k := (by simpa [Value.ownBlock] using hk); omega))
  replace HB := Aside0.mk (HB.out.grown hg HB.out.size (fun k hk => by have : g2 = k := (by simpa [Value.ownBlock] using hk); have := HLO.out.1; omega))
  obtain ⟨m', hn'⟩ : ∃ n', n' = m.take i ++ [wrap64 (rd m (i : Int) + rd m j1)] ++ m.drop (i + 2) := ⟨_, rfl⟩
  rw [← hn'] at HO
  have HM := Aside0.mk hn'
  obtain ⟨V2, v2c, rfl⟩ := Kd.R_slice HO.out.r2
  clear hr hg hat hg9 hl9 HV NV hn'
  refine hK.out _ _ ?_
  clear hK K
  refine norm_ (a' := ?_) ?_ ?_
  rotate_left
  · (show Act.put _ (some 34) _ = _; simp only [Act.put, q1_, q2_, q3_, i64_w, i32_w]; rfl)
  refine pure_ (i := 26) (N := some 35) (v := ?_) (a' := ?_) #[Y_,Y_,Y_,Y_,Y_,Y_,Y_,Y_,Y_,Y_,Y_,Y_,Y_,Y_,Y_,Y_,Y_,Y_,Y_,Y_,Y_,Y_,Y_,Y_,Y_,Y_,Y_,N_,N_] rfl rfl (by kernel_rfl) (fun _ _ _ h => h) (Or.inl ⟨by rfl, ?_⟩) ?_ ?_
  rotate_left
  · (intro w'; go_simp; with_reducible rfl)
  rotate_left
  · (simp only [Act.put, q1_, q2_, q3_, i64_w, i32_w]; rfl)
  refine pure_ (i := 27) (N := some 36) (v := ?_) (a' := ?_) #[Y_,Y_,Y_,Y_,Y_,Y_,Y_,Y_,Y_,Y_,Y_,Y_,Y_,Y_,Y_,Y_,Y_,Y_,Y_,Y_,Y_,Y_,Y_,Y_,Y_,Y_,Y_,Y_,N_] rfl rfl (by kernel_rfl) (fun _ _ _ h => h) (Or.inl ⟨by rfl, ?_⟩) ?_ ?_
  rotate_left
  · (intro w'; go_simp; with_reducible rfl)
  rotate_left
  · (simp only [Act.put, q1_, q2_, q3_, i64_w, i32_w]; rfl)
  refine last_ (i := 28) (N := none) #[Y_,Y_,Y_,Y_,Y_,Y_,Y_,Y_,Y_,Y_,Y_,Y_,Y_,Y_,Y_,Y_,Y_,Y_,Y_,Y_,Y_,Y_,Y_,Y_,Y_,Y_,Y_,Y_,Y_] rfl rfl (by kernel_rfl) (by decide) (fun K hK => ?_)
  have hzS := cells5 BS.out
  have hf := free5 BS.out
  refine skip_ (w1 := ?_) (by rfl) rfl ?_ ?_
  rotate_left
  · (go_simp; rfl)
  refine hK.out _ _ ?_
  clear hK K hzS hf
  refine done_ (by kernel_rfl) ?_
  clear HX HY HG
  replace HO := Aside0.mk (HO.out.cell BS.out 2 (.slice V2 m'.length v2c)); replace HB := Aside0.mk (HB.out.setCell (p := ⟨gs, 2, none⟩) (Nat.le_trans HLO.out.1 HLO.out.2.1) (.slice V2 m'.length v2c)); replace HW := Aside0.mk (HW.out.setCell (p := ⟨gs, 2, none⟩) HLO.out.2.1 (.slice V2 m'.length v2c)); replace BS := Aside0.mk (blk_put BS.out 2 (.slice V2 m'.length v2c) rfl)
  try go_wp2
  generalize w72.setCell ⟨gs, 2, none⟩ (.slice V2 m'.length v2c) = w51 at HO HB HW BS ⊢
  obtain ⟨g3, c3_, e3, hg9, hx⟩ := ow_at3 HO.out i (by have := HZ.out.2.2; omega)
  injection e3 with e1 e2 e3
  subst e1 e3
  obtain ⟨g_, c_, e3, hg_, hy⟩ := ow_at3 HO.out (i + 1) HZ.out.2.2
  injection e3 with e1 e2' e3
  injection e1 with e1
  injection e1 with e1
  subst e1 e3
  rw [HJ.out] at hy
  have hd := (Below.refl w51.heap.size w51).drew
  have HX := Aside0.mk (pw_cell_below hd hx); have HY := Aside0.mk (show w51.drew.cell? ⟨g3, j1.toNat, none⟩ = some (.int .i64 (rd t j1)) by rw [← HJ.out, Int.toNat_natCast]; rw [HJ.out]; exact pw_cell_below hd hy); replace BS := Aside0.mk (blk_below BS.out hd); replace HO := Aside0.mk (HO.out.below hd); replace HW := Aside0.mk (show Below lo w w51.drew from HW.out.drew); replace HB := Aside0.mk (below_step HB.out hd); have HG := Aside0.mk hg9
  clear hd hx hy hg9 hg_ e2 e2'
  refine start_ (n := 29) (S := fun w' => w'.cell? ⟨gs, 3, none⟩ = some (.slice (some ⟨g3, 0, none⟩) t.length c3) ∧ w'.cell? ⟨g3, i, none⟩ = some (.int .i64 (rd t (i : Int))) ∧ w'.cell? ⟨g3, j1.toNat, none⟩ = some (.int .i64 (rd t j1))) (ds := [25, 28]) #[N_,N_,N_,N_,N_,N_,N_,N_,N_,N_,N_,N_,N_,N_,N_,N_,N_,N_,N_,N_,N_,N_,N_,N_,N_,N_,N_,N_,N_] (by kernel_rfl) rfl rfl ⟨(blk_cell BS.out 3).trans rfl, HX.out, HY.out⟩ (fun hHeld => ?_)
  generalize w51.drew = w52 at HX HY BS HO HW HB hHeld ⊢
  refine pure_ (i := 0) (N := some 37) (v := ?_) (a' := ?_) #[Y_,N_,N_,N_,N_,N_,N_,N_,N_,N_,N_,N_,N_,N_,N_,N_,N_,N_,N_,N_,N_,N_,N_,N_,N_,N_,N_,N_,N_] rfl rfl (by kernel_rfl) (fun _ _ _ h => h) (Or.inl ⟨by rfl, ?_⟩) ?_ ?_
  rotate_left
  · (intro w'; go_simp; with_reducible rfl)
  rotate_left
  · (simp only [Act.put, q1_, q2_, q3_, i64_w, i32_w]; rfl)
  refine pure_ (i := 1) (N := some 38) (v := ?_) (a' := ?_) #[Y_,Y_,N_,N_,N_,N_,N_,N_,N_,N_,N_,N_,N_,N_,N_,N_,N_,N_,N_,N_,N_,N_,N_,N_,N_,N_,N_,N_,N_] rfl rfl (by kernel_rfl) (fun _ _ _ h => h) (Or.inl ⟨by rfl, ?_⟩) ?_ ?_
  rotate_left
  · (intro w'; go_simp; with_reducible rfl)
  rotate_left
  · (simp only [Act.put, q1_, q2_, q3_, i64_w, i32_w]; rfl)
  refine pure_ (i := 2) (N := some 39) (v := ?_) (a' := ?_) #[Y_,Y_,Y_,N_,N_,N_,N_,N_,N_,N_,N_,N_,N_,N_,N_,N_,N_,N_,N_,N_,N_,N_,N_,N_,N_,N_,N_,N_,N_] rfl rfl (by kernel_rfl) (fun _ _ _ h => h) (Or.inl ⟨by rfl, ?_⟩) ?_ ?_
  rotate_left
  · (intro w'; go_simp; with_reducible rfl)
  rotate_left
  · (simp only [Act.put, q1_, q2_, q3_, i64_w, i32_w]; rfl)
  refine pure_ (i := 3) (N := some 40) (v := ?_) (a' := ?_) #[Y_,Y_,Y_,Y_,N_,N_,N_,N_,N_,N_,N_,N_,N_,N_,N_,N_,N_,N_,N_,N_,N_,N_,N_,N_,N_,N_,N_,N_,N_] rfl rfl (by kernel_rfl) (fun _ _ _ h => h) (Or.inl ⟨by rfl, ?_⟩) ?_ ?_
  rotate_left
  · (intro w'; go_simp; with_reducible rfl)
  rotate_left
  · (simp only [Act.put, q1_, q2_, q3_, i64_w, i32_w]; rfl)
  refine pure_ (i := 5) (N := some 42) (v := ?_) (a' := ?_) #[Y_,Y_,Y_,Y_,N_,Y_,N_,N_,N_,N_,N_,N_,N_,N_,N_,N_,N_,N_,N_,N_,N_,N_,N_,N_,N_,N_,N_,N_,N_] rfl rfl (by kernel_rfl) (fun _ _ _ h => h) (Or.inl ⟨by rfl, ?_⟩) ?_ ?_
  rotate_left
  · (intro w'; go_simp; with_reducible rfl)
  rotate_left
  · (simp only [Act.put, q1_, q2_, q3_, i64_w, i32_w]; rfl)
  refine pure_ (i := 6) (N := some 43) (v := ?_) (a' := ?_) #[Y_,Y_,Y_,Y_,N_,Y_,Y_,N_,N_,N_,N_,N_,N_,N_,N_,N_,N_,N_,N_,N_,N_,N_,N_,N_,N_,N_,N_,N_,N_] rfl rfl (by kernel_rfl) (fun _ _ _ h => h) (Or.inl ⟨by rfl, ?_⟩) ?_ ?_
  rotate_left
  · (intro w'; go_simp; with_reducible rfl)
  rotate_left
  · (simp only [Act.put, q1_, q2_, q3_, i64_w, i32_w]; rfl)
  refine pure_ (i := 7) (N := some 44) (v := ?_) (a' := ?_) #[Y_,Y_,Y_,Y_,N_,Y_,Y_,Y_,N_,N_,N_,N_,N_,N_,N_,N_,N_,N_,N_,N_,N_,N_,N_,N_,N_,N_,N_,N_,N_] rfl rfl (by kernel_rfl) (fun _ _ _ h => h) (Or.inl ⟨by rfl, ?_⟩) ?_ ?_
  rotate_left
  · (intro w'; go_simp; with_reducible rfl)
  rotate_left
  · (simp only [Act.put, q1_, q2_, q3_, i64_w, i32_w]; rfl)
  refine pure_ (i := 8) (N := some 45) (v := ?_) (a' := ?_) #[Y_,Y_,Y_,Y_,N_,Y_,Y_,Y_,Y_,N_,N_,N_,N_,N_,N_,N_,N_,N_,N_,N_,N_,N_,N_,N_,N_,N_,N_,N_,N_] rfl rfl (by kernel_rfl) (fun _ _ _ h => h) (Or.inl ⟨by rfl, ?_⟩) ?_ ?_
  rotate_left
  · (intro w'; go_simp; with_reducible rfl)
  rotate_left
  · (simp only [Act.put, q1_, q2_, q3_, i64_w, i32_w]; rfl)
  refine pure_ (i := 9) (N := some 46) (v := ?_) (a' := ?_) #[Y_,Y_,Y_,Y_,N_,Y_,Y_,Y_,Y_,Y_,N_,N_,N_,N_,N_,N_,N_,N_,N_,N_,N_,N_,N_,N_,N_,N_,N_,N_,N_] rfl rfl (by kernel_rfl) (fun _ _ _ h => h) (Or.inl ⟨by rfl, ?_⟩) ?_ ?_
  rotate_left
  · (intro w'; go_simp; with_reducible rfl)
  rotate_left
  · (simp only [Act.put, q1_, q2_, q3_, i64_w, i32_w]; rfl)
  refine pure_ (i := 10) (N := some 47) (v := ?_) (a' := ?_) #[Y_,Y_,Y_,Y_,N_,Y_,Y_,Y_,Y_,Y_,Y_,N_,N_,N_,N_,N_,N_,N_,N_,N_,N_,N_,N_,N_,N_,N_,N_,N_,N_] rfl rfl (by kernel_rfl) (fun _ _ _ h => h) (Or.inl ⟨by rfl, ?_⟩) ?_ ?_
  rotate_left
  · (intro w'; go_simp; with_reducible rfl)
  rotate_left
  · (simp only [Act.put, q1_, q2_, q3_, i64_w, i32_w]; rfl)
  refine pure_ (i := 12) (N := some 49) (v := ?_) (a' := ?_) #[Y_,Y_,Y_,Y_,N_,Y_,Y_,Y_,Y_,Y_,Y_,N_,Y_,N_,N_,N_,N_,N_,N_,N_,N_,N_,N_,N_,N_,N_,N_,N_,N_] rfl rfl (by kernel_rfl) (fun _ _ _ h => h) (Or.inl ⟨by rfl, ?_⟩) ?_ ?_
  rotate_left
  · (intro w'; go_simp; with_reducible rfl)
  rotate_left
  · (simp only [Act.put, q1_, q2_, q3_, i64_w, i32_w]; rfl)
  refine pure_ (i := 15) (N := some 52) (v := ?_) (a' := ?_) #[Y_,Y_,Y_,Y_,N_,Y_,Y_,Y_,Y_,Y_,Y_,N_,Y_,N_,N_,Y_,N_,N_,N_,N_,N_,N_,N_,N_,N_,N_,N_,N_,N_] rfl rfl (by kernel_rfl) (fun _ _ _ h => h) (Or.inl ⟨by rfl, ?_⟩) ?_ ?_
  rotate_left
  · (intro w'; go_simp; with_reducible rfl)
  rotate_left
  · (simp only [Act.put, q1_, q2_, q3_, i64_w, i32_w]; rfl)
  refine pure_ (i := 16) (N := some 53) (v := ?_) (a' := ?_) #[Y_,Y_,Y_,Y_,N_,Y_,Y_,Y_,Y_,Y_,Y_,N_,Y_,N_,N_,Y_,Y_,N_,N_,N_,N_,N_,N_,N_,N_,N_,N_,N_,N_] rfl rfl (by kernel_rfl) (fun _ _ _ h => h) (Or.inl ⟨by rfl, ?_⟩) ?_ ?_
  rotate_left
  · (intro w'; go_simp; with_reducible rfl)
  rotate_left
  · (simp only [Act.put, q1_, q2_, q3_, i64_w, i32_w]; rfl)
  refine pure_ (i := 17) (N := some 54) (v := ?_) (a' := ?_) #[Y_,Y_,Y_,Y_,N_,Y_,Y_,Y_,Y_,Y_,Y_,N_,Y_,N_,N_,Y_,Y_,Y_,N_,N_,N_,N_,N_,N_,N_,N_,N_,N_,N_] rfl rfl (by kernel_rfl) (fun _ _ _ h => h) (Or.inl ⟨by rfl, ?_⟩) ?_ ?_
  rotate_left
  · (intro w'; go_simp; with_reducible rfl)
  rotate_left
  · (simp only [Act.put, q1_, q2_, q3_, i64_w, i32_w]; rfl)
  refine pure_ (i := 19) (N := some 56) (v := ?_) (a' := ?_) #[Y_,Y_,Y_,Y_,N_,Y_,Y_,Y_,Y_,Y_,Y_,N_,Y_,N_,N_,Y_,Y_,Y_,N_,Y_,N_,N_,N_,N_,N_,N_,N_,N_,N_] rfl rfl (by kernel_rfl) (fun _ _ _ h => h) (Or.inl ⟨by rfl, ?_⟩) ?_ ?_
  rotate_left
  · (intro w'; go_simp; with_reducible rfl)
  rotate_left
  · (simp only [Act.put, q1_, q2_, q3_, i64_w, i32_w]; rfl)
  refine pure_ (i := 20) (N := some 57) (v := ?_) (a' := ?_) #[Y_,Y_,Y_,Y_,N_,Y_,Y_,Y_,Y_,Y_,Y_,N_,Y_,N_,N_,Y_,Y_,Y_,N_,Y_,Y_,N_,N_,N_,N_,N_,N_,N_,N_] rfl rfl (by kernel_rfl) (fun _ _ _ h => h) (Or.inl ⟨by rfl, ?_⟩) ?_ ?_
  rotate_left
  · (intro w'; go_simp; with_reducible rfl)
  rotate_left
  · (simp only [Act.put, q1_, q2_, q3_, i64_w, i32_w]; rfl)
  refine take_ (i := 4) (N := some 41) (v := ?_) (a' := ?_) #[Y_,Y_,Y_,Y_,Y_,Y_,Y_,Y_,Y_,Y_,Y_,N_,Y_,N_,N_,Y_,Y_,Y_,N_,Y_,Y_,N_,N_,N_,N_,N_,N_,N_,N_] rfl rfl (by kernel_rfl) (fun _ _ _ h => h) (Or.inl ⟨by rfl, ?_⟩) hHeld ?_ ?_
  rotate_left
  · (rintro w' ⟨s0, s1, s2⟩; go_simp; with_reducible rfl)
  rotate_left
  · (simp only [Act.put, q1_, q2_, q3_, i64_w, i32_w]; rfl)
  refine take_ (i := 11) (N := some 48) (v := ?_) (a' := ?_) #[Y_,Y_,Y_,Y_,Y_,Y_,Y_,Y_,Y_,Y_,Y_,Y_,Y_,N_,N_,Y_,Y_,Y_,N_,Y_,Y_,N_,N_,N_,N_,N_,N_,N_,N_] rfl rfl (by kernel_rfl) (fun _ _ _ h => h) (Or.inl ⟨by rfl, ?_⟩) hHeld ?_ ?_
  rotate_left
  · (rintro w' ⟨s0, s1, s2⟩; go_simp; with_reducible rfl)
  rotate_left
  · (simp only [Act.put, q1_, q2_, q3_, i64_w, i32_w]; rfl)
  refine take_ (i := 18) (N := some 55) (v := ?_) (a' := ?_) #[Y_,Y_,Y_,Y_,Y_,Y_,Y_,Y_,Y_,Y_,Y_,Y_,Y_,N_,N_,Y_,Y_,Y_,Y_,Y_,Y_,N_,N_,N_,N_,N_,N_,N_,N_] rfl rfl (by kernel_rfl) (fun _ _ _ h => h) (Or.inl ⟨by rfl, ?_⟩) hHeld ?_ ?_
  rotate_left
  · (rintro w' ⟨s0, s1, s2⟩; go_simp; with_reducible rfl)
  rotate_left
  · (simp only [Act.put, q1_, q2_, q3_, i64_w, i32_w]; rfl)
  refine pure_ (i := 13) (N := some 50) (v := ?_) (a' := ?_) #[Y_,Y_,Y_,Y_,Y_,Y_,Y_,Y_,Y_,Y_,Y_,Y_,Y_,Y_,N_,Y_,Y_,Y_,Y_,Y_,Y_,N_,N_,N_,N_,N_,N_,N_,N_] rfl rfl (by kernel_rfl) (fun _ _ _ h => h) (Or.inl ⟨by rfl, ?_⟩) ?_ ?_
  rotate_left
  · (intro w'; go_simp; with_reducible rfl)
  rotate_left
  · (simp only [Act.put, q1_, q2_, q3_, i64_w, i32_w]; rfl)
  refine pure_ (i := 21) (N := some 58) (v := ?_) (a' := ?_) #[Y_,Y_,Y_,Y_,Y_,Y_,Y_,Y_,Y_,Y_,Y_,Y_,Y_,Y_,N_,Y_,Y_,Y_,Y_,Y_,Y_,Y_,N_,N_,N_,N_,N_,N_,N_] rfl rfl (by kernel_rfl) (fun _ _ _ h => h) (Or.inl ⟨by rfl, ?_⟩) ?_ ?_
  rotate_left
  · (intro w'; go_simp; with_reducible rfl)
  rotate_left
  · (simp only [Act.put, q1_, q2_, q3_, i64_w, i32_w]; rfl)
  refine take_ (i := 14) (N := some 51) (v := ?_) (a' := ?_) #[Y_,Y_,Y_,Y_,Y_,Y_,Y_,Y_,Y_,Y_,Y_,Y_,Y_,Y_,Y_,Y_,Y_,Y_,Y_,Y_,Y_,Y_,N_,N_,N_,N_,N_,N_,N_] rfl rfl (by kernel_rfl) (fun _ _ _ h => h) (Or.inl ⟨by rfl, ?_⟩) hHeld ?_ ?_
  rotate_left
  · (rintro w' ⟨s0, s1, s2⟩; go_simp; with_reducible rfl)
  rotate_left
  · (simp only [Act.put, q1_, q2_, q3_, i64_w, i32_w]; rfl)
  refine take_ (i := 22) (N := some 59) (v := ?_) (a' := ?_) #[Y_,Y_,Y_,Y_,Y_,Y_,Y_,Y_,Y_,Y_,Y_,Y_,Y_,Y_,Y_,Y_,Y_,Y_,Y_,Y_,Y_,Y_,Y_,N_,N_,N_,N_,N_,N_] rfl rfl (by kernel_rfl) (fun _ _ _ h => h) (Or.inl ⟨by rfl, ?_⟩) hHeld ?_ ?_
  rotate_left
  · (rintro w' ⟨s0, s1, s2⟩; go_simp; with_reducible rfl)
  rotate_left
  · (simp only [Act.put, q1_, q2_, q3_, i64_w, i32_w]; rfl)
  refine pure_ (i := 23) (N := some 60) (v := ?_) (a' := ?_) #[Y_,Y_,Y_,Y_,Y_,Y_,Y_,Y_,Y_,Y_,Y_,Y_,Y_,Y_,Y_,Y_,Y_,Y_,Y_,Y_,Y_,Y_,Y_,Y_,N_,N_,N_,N_,N_] rfl rfl (by kernel_rfl) (fun _ _ _ h => h) (Or.inl ⟨by rfl, ?_⟩) ?_ ?_
  rotate_left
  · (intro w'; go_simp; with_reducible rfl)
  rotate_left
  · (simp only [Act.put, q1_, q2_, q3_, i64_w, i32_w]; rfl)
  refine one_ (i := 24) (N := some 61) #[Y_,Y_,Y_,Y_,Y_,Y_,Y_,Y_,Y_,Y_,Y_,Y_,Y_,Y_,Y_,Y_,Y_,Y_,Y_,Y_,Y_,Y_,Y_,Y_,Y_,N_,N_,N_,N_] rfl rfl (by kernel_rfl) (by decide) (fun K hK => ?_)
  refine lit_step (by rfl) (n := 1) (c := 1) (t := 3) (cs := ([wrap64 (rd t (i : Int) + rd t j1)].map (Value.int .i64)).toArray) (by first | (go_simp; done) | (go_simp; rfl)) ?_
  intro gv hg w71 hv hb
  have NV := Aside0.mk (show g3 ≠ gv by rw [hg]; obtain ⟨inner, h9⟩ := Kd.R_own HO.out.r3; exact Nat.ne_of_lt (own_lt h9 g3 rfl))
  have HV := Aside0.mk hv; replace HX := Aside0.mk (pw_cell_below hb HX.out); replace HY := Aside0.mk (pw_cell_below hb HY.out); replace BS := Aside0.mk (blk_below BS.out hb); replace HO := Aside0.mk (HO.out.below hb); replace HW := Aside0.mk (HW.out.trans (hb.mono (Nat.le_trans HLO.out.2.2 HW.out.size))); replace HB := Aside0.mk (below_step HB.out hb)
  clear hb hv hg
  refine hK.out _ _ ⟨(blk_cell BS.out 3).trans rfl, HX.out, HY.out⟩ (fun hHeld => ?_)
  clear hK K
  refine norm_ (a' := ?_) ?_ ?_
  rotate_left
  · (show Act.put _ (some 61) _ = _; simp only [Act.put, q1_, q2_, q3_, i64_w, i32_w]; rfl)
  refine last_ (i := 25) (N := some 62) #[Y_,Y_,Y_,Y_,Y_,Y_,Y_,Y_,Y_,Y_,Y_,Y_,Y_,Y_,Y_,Y_,Y_,Y_,Y_,Y_,Y_,Y_,Y_,Y_,Y_,Y_,N_,N_,N_] rfl rfl (by kernel_rfl) (by decide) (fun K hK => ?_)
  refine goes_ Try.func89 (by kernel_rfl) (by kernel_rfl) #[.slice (some ⟨g3, 0, none⟩) t.length c3, .int .i64 (i : Int), .int .i64 ((i + 2 : Nat) : Int), .slice (some ⟨gv, 0, none⟩) 1 1] (by rfl) rfl rfl (by simp [Act.eval]) ?_
  refine (rep_go [wrap64 (rd t (i : Int) + rd t j1)] 1 rfl HO.out.r3 (by omega) (by have := HZ.out.2.2; omega) (by decide) (by omega) (by have := HZ.out.1.2; omega) (fun e => NV.out (by simpa [Value.ownBlock] using e)) HV.out).mono ?_
  rintro e w72 ⟨v72, rfl, hr, hg, hat⟩
  refine ⟨_, rfl, ?_⟩
  have hg9 : lo ≤ g3 := HG.out
  have hl9 := Nat.le_trans HLO.out.2.2 HW.out.size
  replace BS := Aside0.mk (blk_grown BS.out hg (Kd.R_ne HO.out.r3 BS.out (by decide)))
  replace HO := Aside0.mk (HO.out.put3 hg hr hat)
  replace HW := Aside0.mk (HW.out.grown hg hl9 (fun k hk => by have : g3 = k := (by simpa [Value.ownBlock] using hk); omega))
  replace HB := Aside0.mk (HB.out.grown hg HB.out.size (fun k hk => by have : g3 = k := (by simpa [Value.ownBlock] using hk); have := HLO.out.1; omega))
  obtain ⟨t', hn'⟩ : ∃ n', n' = t.take i ++ [wrap64 (rd t (i : Int) + rd t j1)] ++ t.drop (i + 2) := ⟨_, rfl⟩
  rw [← hn'] at HO
  have HN := Aside0.mk hn'
  obtain ⟨V3, v3c, rfl⟩ := Kd.R_slice HO.out.r3
  clear hr hg hat hg9 hl9 HV NV hn'
  refine hK.out _ _ ?_
  clear hK K
  refine norm_ (a' := ?_) ?_ ?_
  rotate_left
  · (show Act.put _ (some 62) _ = _; simp only [Act.put, q1_, q2_, q3_, i64_w, i32_w]; rfl)
  refine pure_ (i := 26) (N := some 63) (v := ?_) (a' := ?_) #[Y_,Y_,Y_,Y_,Y_,Y_,Y_,Y_,Y_,Y_,Y_,Y_,Y_,Y_,Y_,Y_,Y_,Y_,Y_,Y_,Y_,Y_,Y_,Y_,Y_,Y_,Y_,N_,N_] rfl rfl (by kernel_rfl) (fun _ _ _ h => h) (Or.inl ⟨by rfl, ?_⟩) ?_ ?_
  rotate_left
  · (intro w'; go_simp; with_reducible rfl)
  rotate_left
  · (simp only [Act.put, q1_, q2_, q3_, i64_w, i32_w]; rfl)
  refine pure_ (i := 27) (N := some 64) (v := ?_) (a' := ?_) #[Y_,Y_,Y_,Y_,Y_,Y_,Y_,Y_,Y_,Y_,Y_,Y_,Y_,Y_,Y_,Y_,Y_,Y_,Y_,Y_,Y_,Y_,Y_,Y_,Y_,Y_,Y_,Y_,N_] rfl rfl (by kernel_rfl) (fun _ _ _ h => h) (Or.inl ⟨by rfl, ?_⟩) ?_ ?_
  rotate_left
  · (intro w'; go_simp; with_reducible rfl)
  rotate_left
  · (simp only [Act.put, q1_, q2_, q3_, i64_w, i32_w]; rfl)
  refine last_ (i := 28) (N := none) #[Y_,Y_,Y_,Y_,Y_,Y_,Y_,Y_,Y_,Y_,Y_,Y_,Y_,Y_,Y_,Y_,Y_,Y_,Y_,Y_,Y_,Y_,Y_,Y_,Y_,Y_,Y_,Y_,Y_] rfl rfl (by kernel_rfl) (by decide) (fun K hK => ?_)
  have hzS := cells5 BS.out
  have hf := free5 BS.out
  refine skip_ (w1 := ?_) (by rfl) rfl ?_ ?_
  rotate_left
  · (go_simp; rfl)
  refine hK.out _ _ ?_
  clear hK K hzS hf
  refine done_ (by kernel_rfl) ?_
  go_end0
  refine ⟨rfl, HW.out.setCell HLO.out.2.1 _, _, _, _, blk_put BS.out 3 _ rfl, ?_⟩
  have h9 := (HO.out.cell BS.out 3 (.slice V3 t'.length v3c)).up (hi' := (w72.setCell ⟨gs, 3, none⟩ (.slice V3 t'.length v3c)).heap.size) (by simp [World.setCell]) (Nat.le_refl _)
  rw [HM.out, HN.out] at h9
  first | exact h9 | (simpa [HM.out, HN.out] using h9)
theorem impl_State_coarsen.go (w0 : World) (lo hi gs : Nat) (R : Int) (u1 u2 u3 u4 : Value) (l : List S36) (m t b : List Int) (i : Nat) (w : World) (hi2 : i + 1 < m.length) (hi3 : i + 1 < t.length) (l' : List S36) (hl : impl_Mesh_coarsen.f l (i : Int) = some l') (hz : (m.length + 2) * 8 ≤ 140737488355328 ∧ (t.length + 2) * 8 ≤ 140737488355328) (m' t' : List Int) (hm' : m' = m.take i ++ [wrap64 (rd m (i : Int) + rd m ((i + 1 : Nat) : Int))] ++ m.drop (i + 2)) (ht' : t' = t.take i ++ [wrap64 (rd t (i : Int) + rd t ((i + 1 : Nat) : Int))] ++ t.drop (i + 2))
  (hB : Below w0.heap.size w0 w) (hlo : w0.heap.size ≤ lo) (hgs : lo ≤ gs) (hbox : w.heap[gs]? = some (.cells #[.int .i64 R, u1, u2, u3, u4] 29 (0, 0))) (ho : Ow lo hi w u1 l u2 m u3 t u4 b) :
  Calls Try.prog 56 #[.pointer (some ⟨gs, 0, none⟩), .int .i64 (i : Int)] w fun e w' => e = .returned (.tuple #[]) ∧ Below lo w w' ∧ ∃ u1' u2' u3', w'.heap[gs]? = some (.cells #[.int .i64 R, u1', u2', u3', u4] 29 (0, 0)) ∧ Ow lo w'.heap.size w' u1' l' u2' m' u3' t' u4 b := by
  subst hm' ht'
  exact impl_State_coarsen.at_ w0 lo hi gs R u1 u2 u3 u4 l m t b i _ rfl w hi2 hi3 l' hl hz hB hlo hgs hbox ho
end Go.Proofs.Ytbkkehjhfgocfaa.PFnTransferred
