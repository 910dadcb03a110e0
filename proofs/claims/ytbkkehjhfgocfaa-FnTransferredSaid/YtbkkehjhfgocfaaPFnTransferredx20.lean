/- Functions of the reference and of the program over states, walked by hand; no condition. -/
import Derived.Test.YtbkkehjhfgocfaaPFnTransferredx19
namespace Go.Proofs.Ytbkkehjhfgocfaa.PFnTransferred
open Go.RowKit Go.Proofs.YtbkkehjhfgocfaaW.PrintWords Go.Proofs.YtbkkehjhfgocfaaW.PrintLast Go.Proofs.YtbkkehjhfgocfaaW.PrintMore
set_option linter.unusedVariables false
set_option linter.unusedSimpArgs false
set_option maxHeartbeats 16000000 in
set_option maxRecDepth 100000 in
theorem impl_State_refine.at_ (w0 : World) (lo hi gs : Nat) (R : Int) (u1 u2 u3 u4 : Value) (l : List S36) (m t b : List Int) (i : Nat) (w : World) (hi2 : i < m.length) (hi3 : i < t.length) (p1 p2 p3 : Int) (hs : impl_SplitEven.f (rd m (i : Int)) = some (p1, p2)) (hy : impl_ShareOut.f (rd t (i : Int)) p1 (rd m (i : Int)) = some p3) (l' : List S36) (hl : impl_Mesh_refine.f l (i : Int) = some l') (hz : (m.length + 2) * 8 ≤ 140737488355328 ∧ (t.length + 2) * 8 ≤ 140737488355328)
  (hB : Below w0.heap.size w0 w) (hlo : w0.heap.size ≤ lo) (hgs : lo ≤ gs) (hbox : w.heap[gs]? = some (.cells #[.int .i64 R, u1, u2, u3, u4] 29 (0, 0))) (ho : Ow lo hi w u1 l u2 m u3 t u4 b) :
  Calls Try.prog 50 #[.pointer (some ⟨gs, 0, none⟩), .int .i64 (i : Int)] w fun e w' => e = .returned (.tuple #[]) ∧ Below lo w w' ∧ ∃ u1' u2' u3', w'.heap[gs]? = some (.cells #[.int .i64 R, u1', u2', u3', u4] 29 (0, 0)) ∧ Ow lo w'.heap.size w' u1' l' u2' (m.take i ++ [p1, p2] ++ m.drop (i + 1)) u3' (t.take i ++ [p3, wrap64 (rd t (i : Int) - p3)] ++ t.drop (i + 1)) u4 b := by
  have hi0 : (0 : Int) ≤ (i : Int) := by omega
  have hi2' : (i : Int) < (m.length : Int) := by omega
  have hi3' : (i : Int) < (t.length : Int) := by omega
  have hwi : IntKind.i64.wrap ((i : Int) + 1) = ((i + 1 : Nat) : Int) := by rw [IntKind.wrap_i64]; have := hz.1; omega
  have hls : lo ≤ w.heap.size := by have := blk_lt hbox; omega
  obtain ⟨g2, c2, rfl, hg2, hx2⟩ := ow_at2 ho i hi2
  obtain ⟨g3, c3, rfl, hg3, hx3⟩ := ow_at3 ho i hi3
  obtain ⟨A1, c1, rfl⟩ := Kd.R_slice ho.r1
  obtain ⟨A4, c4, rfl⟩ := Kd.R_slice ho.r4
  have HX2 := Aside0.mk hx2; have HX3 := Aside0.mk hx3; have HS := Aside0.mk hs; have HY := Aside0.mk hy; have HL := Aside0.mk hl; have HZ := Aside0.mk (And.intro hz (And.intro hi2 hi3)); have HB := Aside0.mk hB; have HLO := Aside0.mk (And.intro hlo (And.intro hgs hls)); have BS := Aside0.mk hbox; have HO := Aside0.mk ho; have HW := Aside0.mk (Below.refl lo w)
  clear hs hy hl hz hi2 hi3 hB hlo hgs hbox ho hls hg2 hg3
  have hzS := cells5 BS.out
  go_enter Try.func50, Try.ntmps50
  go_wp2_with ((with_reducible refine gate_dst (N := 15) rfl ?_); refine goesL_ (some 15) rfl rfl Try.func86 (by kernel_rfl) rfl #[.int .i64 (rd m (i : Int))] rfl (by first | rfl | (simp only [List.map_toArray, List.map_cons, List.map_nil]; rfl)) ?_; refine (impl_SplitEven.calls (rd m (i : Int)) p1 p2 _ HS.out).mono ?_; rintro e w15 ⟨rfl, hq⟩; have hb := hq.below; clear hq; refine ⟨_, rfl, ?_⟩; replace HX2 := Aside0.mk (pw_cell_below hb HX2.out); replace HX3 := Aside0.mk (pw_cell_below hb HX3.out); replace BS := Aside0.mk (blk_below BS.out hb); replace HO := Aside0.mk (HO.out.below hb); replace HW := Aside0.mk (HW.out.trans (hb.mono HLO.out.2.2)); replace HB := Aside0.mk (below_step HB.out hb); clear hb hzS hx2 hx3)
  have hd := (Below.refl w15.heap.size w15).drew
  have HT := Aside0.mk (And.intro (pw_cell_below hd HX2.out) (pw_cell_below hd HX3.out)); replace BS := Aside0.mk (blk_below BS.out hd); replace HO := Aside0.mk (HO.out.below hd); replace HW := Aside0.mk (show Below lo w w15.drew from HW.out.drew); replace HB := Aside0.mk (below_step HB.out hd)
  clear hd HX2 HX3
  refine start_ (n := 17) (S := fun w' => (w'.cell? ⟨gs, 0, none⟩ = some (.int .i64 R) ∧ w'.cell? ⟨gs, 1, none⟩ = some (.slice A1 l.length c1) ∧ w'.cell? ⟨gs, 2, none⟩ = some (.slice (some ⟨g2, 0, none⟩) m.length c2) ∧ w'.cell? ⟨gs, 3, none⟩ = some (.slice (some ⟨g3, 0, none⟩) t.length c3) ∧ w'.cell? ⟨gs, 4, none⟩ = some (.slice A4 b.length c4)) ∧ w'.cell? ⟨g2, i, none⟩ = some (.int .i64 (rd m (i : Int))) ∧ w'.cell? ⟨g3, i, none⟩ = some (.int .i64 (rd t (i : Int)))) (ds := []) #[N_,N_,N_,N_,N_,N_,N_,N_,N_,N_,N_,N_,N_,N_,N_,N_,N_] (by kernel_rfl) rfl rfl ⟨cells5 BS.out, HT.out.1, HT.out.2⟩ (fun hHeld => ?_)
  generalize w15.drew = w16 at HT BS HO HW HB hHeld ⊢
  refine pure_ (i := 0) (N := some 18) (v := ?_) (a' := ?_) #[Y_,N_,N_,N_,N_,N_,N_,N_,N_,N_,N_,N_,N_,N_,N_,N_,N_] rfl rfl (by kernel_rfl) (fun _ _ _ h => h) (Or.inl ⟨by rfl, ?_⟩) ?_ ?_
  rotate_left
  · (intro w'; go_simp; with_reducible rfl)
  rotate_left
  · (simp only [Act.put, q1_, q2_, q3_, i64_w, i32_w]; rfl)
  refine pure_ (i := 1) (N := some 19) (v := ?_) (a' := ?_) #[Y_,Y_,N_,N_,N_,N_,N_,N_,N_,N_,N_,N_,N_,N_,N_,N_,N_] rfl rfl (by kernel_rfl) (fun _ _ _ h => h) (Or.inl ⟨by rfl, ?_⟩) ?_ ?_
  rotate_left
  · (intro w'; go_simp; with_reducible rfl)
  rotate_left
  · (simp only [Act.put, q1_, q2_, q3_, i64_w, i32_w]; rfl)
  refine pure_ (i := 2) (N := some 20) (v := ?_) (a' := ?_) #[Y_,Y_,Y_,N_,N_,N_,N_,N_,N_,N_,N_,N_,N_,N_,N_,N_,N_] rfl rfl (by kernel_rfl) (fun _ _ _ h => h) (Or.inl ⟨by rfl, ?_⟩) ?_ ?_
  rotate_left
  · (intro w'; go_simp; with_reducible rfl)
  rotate_left
  · (simp only [Act.put, q1_, q2_, q3_, i64_w, i32_w]; rfl)
  refine pure_ (i := 4) (N := some 22) (v := ?_) (a' := ?_) #[Y_,Y_,Y_,N_,Y_,N_,N_,N_,N_,N_,N_,N_,N_,N_,N_,N_,N_] rfl rfl (by kernel_rfl) (fun _ _ _ h => h) (Or.inl ⟨by rfl, ?_⟩) ?_ ?_
  rotate_left
  · (intro w'; go_simp; with_reducible rfl)
  rotate_left
  · (simp only [Act.put, q1_, q2_, q3_, i64_w, i32_w]; rfl)
  refine pure_ (i := 7) (N := some 25) (v := ?_) (a' := ?_) #[Y_,Y_,Y_,N_,Y_,N_,N_,Y_,N_,N_,N_,N_,N_,N_,N_,N_,N_] rfl rfl (by kernel_rfl) (fun _ _ _ h => h) (Or.inl ⟨by rfl, ?_⟩) ?_ ?_
  rotate_left
  · (intro w'; go_simp; with_reducible rfl)
  rotate_left
  · (simp only [Act.put, q1_, q2_, q3_, i64_w, i32_w]; rfl)
  refine pure_ (i := 8) (N := some 26) (v := ?_) (a' := ?_) #[Y_,Y_,Y_,N_,Y_,N_,N_,Y_,Y_,N_,N_,N_,N_,N_,N_,N_,N_] rfl rfl (by kernel_rfl) (fun _ _ _ h => h) (Or.inl ⟨by rfl, ?_⟩) ?_ ?_
  rotate_left
  · (intro w'; go_simp; with_reducible rfl)
  rotate_left
  · (simp only [Act.put, q1_, q2_, q3_, i64_w, i32_w]; rfl)
  refine pure_ (i := 9) (N := some 27) (v := ?_) (a' := ?_) #[Y_,Y_,Y_,N_,Y_,N_,N_,Y_,Y_,Y_,N_,N_,N_,N_,N_,N_,N_] rfl rfl (by kernel_rfl) (fun _ _ _ h => h) (Or.inl ⟨by rfl, ?_⟩) ?_ ?_
  rotate_left
  · (intro w'; go_simp; with_reducible rfl)
  rotate_left
  · (simp only [Act.put, q1_, q2_, q3_, i64_w, i32_w]; rfl)
  refine pure_ (i := 10) (N := some 28) (v := ?_) (a' := ?_) #[Y_,Y_,Y_,N_,Y_,N_,N_,Y_,Y_,Y_,Y_,N_,N_,N_,N_,N_,N_] rfl rfl (by kernel_rfl) (fun _ _ _ h => h) (Or.inl ⟨by rfl, ?_⟩) ?_ ?_
  rotate_left
  · (intro w'; go_simp; with_reducible rfl)
  rotate_left
  · (simp only [Act.put, q1_, q2_, q3_, i64_w, i32_w]; rfl)
  refine pure_ (i := 12) (N := some 30) (v := ?_) (a' := ?_) #[Y_,Y_,Y_,N_,Y_,N_,N_,Y_,Y_,Y_,Y_,N_,Y_,N_,N_,N_,N_] rfl rfl (by kernel_rfl) (fun _ _ _ h => h) (Or.inl ⟨by rfl, ?_⟩) ?_ ?_
  rotate_left
  · (intro w'; go_simp; with_reducible rfl)
  rotate_left
  · (simp only [Act.put, q1_, q2_, q3_, i64_w, i32_w]; rfl)
  refine take_ (i := 3) (N := some 21) (v := ?_) (a' := ?_) #[Y_,Y_,Y_,Y_,Y_,N_,N_,Y_,Y_,Y_,Y_,N_,Y_,N_,N_,N_,N_] rfl rfl (by kernel_rfl) (fun _ _ _ h => h) (Or.inl ⟨by rfl, ?_⟩) hHeld ?_ ?_
  rotate_left
  · (rintro w' ⟨⟨s0, s1, s2, s3, s4⟩, s5, s6⟩; go_simp; with_reducible rfl)
  rotate_left
  · (simp only [Act.put, q1_, q2_, q3_, i64_w, i32_w]; rfl)
  refine take_ (i := 11) (N := some 29) (v := ?_) (a' := ?_) #[Y_,Y_,Y_,Y_,Y_,N_,N_,Y_,Y_,Y_,Y_,Y_,Y_,N_,N_,N_,N_] rfl rfl (by kernel_rfl) (fun _ _ _ h => h) (Or.inl ⟨by rfl, ?_⟩) hHeld ?_ ?_
  rotate_left
  · (rintro w' ⟨⟨s0, s1, s2, s3, s4⟩, s5, s6⟩; go_simp; with_reducible rfl)
  rotate_left
  · (simp only [Act.put, q1_, q2_, q3_, i64_w, i32_w]; rfl)
  refine pure_ (i := 5) (N := some 23) (v := ?_) (a' := ?_) #[Y_,Y_,Y_,Y_,Y_,Y_,N_,Y_,Y_,Y_,Y_,Y_,Y_,N_,N_,N_,N_] rfl rfl (by kernel_rfl) (fun _ _ _ h => h) (Or.inl ⟨by rfl, ?_⟩) ?_ ?_
  rotate_left
  · (intro w'; go_simp; with_reducible rfl)
  rotate_left
  · (simp only [Act.put, q1_, q2_, q3_, i64_w, i32_w]; rfl)
  refine pure_ (i := 13) (N := some 31) (v := ?_) (a' := ?_) #[Y_,Y_,Y_,Y_,Y_,Y_,N_,Y_,Y_,Y_,Y_,Y_,Y_,Y_,N_,N_,N_] rfl rfl (by kernel_rfl) (fun _ _ _ h => h) (Or.inl ⟨by rfl, ?_⟩) ?_ ?_
  rotate_left
  · (intro w'; go_simp; with_reducible rfl)
  rotate_left
  · (simp only [Act.put, q1_, q2_, q3_, i64_w, i32_w]; rfl)
  refine take_ (i := 6) (N := some 24) (v := ?_) (a' := ?_) #[Y_,Y_,Y_,Y_,Y_,Y_,Y_,Y_,Y_,Y_,Y_,Y_,Y_,Y_,N_,N_,N_] rfl rfl (by kernel_rfl) (fun _ _ _ h => h) (Or.inl ⟨by rfl, ?_⟩) hHeld ?_ ?_
  rotate_left
  · (rintro w' ⟨⟨s0, s1, s2, s3, s4⟩, s5, s6⟩; go_simp; with_reducible rfl)
  rotate_left
  · (simp only [Act.put, q1_, q2_, q3_, i64_w, i32_w]; rfl)
  refine take_ (i := 14) (N := some 32) (v := ?_) (a' := ?_) #[Y_,Y_,Y_,Y_,Y_,Y_,Y_,Y_,Y_,Y_,Y_,Y_,Y_,Y_,Y_,N_,N_] rfl rfl (by kernel_rfl) (fun _ _ _ h => h) (Or.inl ⟨by rfl, ?_⟩) hHeld ?_ ?_
  rotate_left
  · (rintro w' ⟨⟨s0, s1, s2, s3, s4⟩, s5, s6⟩; go_simp; with_reducible rfl)
  rotate_left
  · (simp only [Act.put, q1_, q2_, q3_, i64_w, i32_w]; rfl)
  refine one_ (i := 15) (N := some 33) #[Y_,Y_,Y_,Y_,Y_,Y_,Y_,Y_,Y_,Y_,Y_,Y_,Y_,Y_,Y_,Y_,N_] rfl rfl (by kernel_rfl) (by decide) (fun K hK => ?_)
  refine goes_ Try.func87 (by kernel_rfl) (by kernel_rfl) #[.int .i64 (rd t (i : Int)), .int .i64 p1, .int .i64 (rd m (i : Int))] (by rfl) rfl rfl (by simp [Act.eval]) ?_
  refine (impl_ShareOut.calls (rd t (i : Int)) p1 (rd m (i : Int)) p3 _ HY.out).mono ?_
  rintro e w33 ⟨rfl, hq⟩
  have hb := hq.below
  clear hq
  refine ⟨_, rfl, ?_⟩
  replace HT := Aside0.mk (And.intro (pw_cell_below hb HT.out.1) (pw_cell_below hb HT.out.2)); replace BS := Aside0.mk (blk_below BS.out hb); replace HO := Aside0.mk (HO.out.below hb); replace HB := Aside0.mk (below_step HB.out hb); replace HW := Aside0.mk (HW.out.trans (hb.mono (Nat.le_trans HLO.out.2.2 HW.out.size)))
  clear hb
  refine hK.out _ _ ⟨cells5 BS.out, HT.out.1, HT.out.2⟩ (fun hHeld => ?_)
  clear hK K
  refine norm_ (a' := ?_) ?_ ?_
  rotate_left
  · (show Act.put _ (some 33) _ = _; simp only [Act.put, q1_, q2_, q3_, i64_w, i32_w]; rfl)
  refine pure_ (i := 16) (N := some 6) (v := ?_) (a' := ?_) #[Y_,Y_,Y_,Y_,Y_,Y_,Y_,Y_,Y_,Y_,Y_,Y_,Y_,Y_,Y_,Y_,Y_] rfl rfl (by kernel_rfl) (fun _ _ _ h => h) (Or.inl ⟨by rfl, ?_⟩) ?_ ?_
  rotate_left
  · (intro w'; go_simp; with_reducible rfl)
  rotate_left
  · (simp only [Act.put, q1_, q2_, q3_, i64_w, i32_w]; rfl)
  refine done_ (by kernel_rfl) ?_
  clear hHeld HT
  have hzS := cells5 BS.out
  go_wp2_with (first
   | (go_at_call 88; refine (impl_Mesh_refine.calls w0 lo gs R (.slice A1 l.length c1) (.slice (some ⟨g2, 0, none⟩) m.length c2) (.slice (some ⟨g3, 0, none⟩) t.length c3) (.slice A4 b.length c4) l l' (i : Int) _ HL.out HLO.out.1 HLO.out.2.1 HB.out (Nat.le_trans HLO.out.2.2 HW.out.size) BS.out (Kd.R_mono HO.out.r1 (fun _ _ => trivial))).mono ?_
      rintro e w38 ⟨rfl, hb, hk, u1', hm', hr', hat⟩
      have hbl := below_kept HB.out hb hk (lo := lo) (fun k hs => by (rcases hs with rfl | e); exact HLO.out.2.1; (obtain ⟨inner, h9⟩ := Kd.R_own HO.out.r1; exact own_base h9 k e.symm)) (Nat.le_trans HLO.out.2.2 HW.out.size)
      replace HO := Aside0.mk (HO.out.put1 BS.out hk hr')
      replace BS := Aside0.mk hm'
      replace HW := Aside0.mk (HW.out.trans hbl)
      replace HB := Aside0.mk hb
      clear hb hk hm' hr' hat hbl hzS
      have hzS := cells5 BS.out)
   | ((with_reducible refine gate_dst (N := 49) rfl ?_); refine lit_event rfl (n := 2) (c := 2) (t := 3) (cs := ([p1, p2].map (Value.int .i64)).toArray) (by first | (go_simp; done) | (go_simp; rfl)) ?_; intro gv hg w49 hv hb; have NV := Aside0.mk (show g2 ≠ gv by rw [hg]; obtain ⟨inner, h9⟩ := Kd.R_own HO.out.r2; exact Nat.ne_of_lt (own_lt h9 g2 rfl)); have HV := Aside0.mk hv; replace BS := Aside0.mk (blk_below BS.out hb); replace HO := Aside0.mk (HO.out.below hb); replace HW := Aside0.mk (HW.out.trans (hb.mono (Nat.le_trans HLO.out.2.2 HW.out.size))); replace HB := Aside0.mk (below_step HB.out hb); clear hb hv hg hzS; have hzS := cells5 BS.out)
   | ((with_reducible refine gate_dst (N := 50) rfl ?_); (try simp only [hwi]); refine goesL_ (some 50) rfl rfl Try.func89 (by kernel_rfl) rfl #[.slice (some ⟨g2, 0, none⟩) m.length c2, .int .i64 (i : Int), .int .i64 ((i + 1 : Nat) : Int), .slice (some ⟨gv, 0, none⟩) 2 2] rfl (by first | rfl | (simp only [List.map_toArray, List.map_cons, List.map_nil]; rfl) | (simp [Act.eval]; done)) ?_
      refine (rep_go [p1, p2] 2 rfl HO.out.r2 (Nat.lt_succ_self i) HZ.out.2.1 (by decide) (by omega) HZ.out.1.1 (fun e => NV.out (by simpa [Value.ownBlock] using e)) HV.out).mono ?_
      rintro e w50 ⟨v50, rfl, hr, hg, hat⟩
      refine ⟨_, rfl, ?_⟩
      have hg9 : lo ≤ g2 := by (obtain ⟨inner, h9⟩ := Kd.R_own HO.out.r2; exact own_base h9 g2 rfl)
      have hl9 := Nat.le_trans HLO.out.2.2 HW.out.size
      replace BS := Aside0.mk (blk_grown BS.out hg (Kd.R_ne HO.out.r2 BS.out (by decide)))
      replace HO := Aside0.mk (HO.out.put2 hg hr hat)
      replace HW := Aside0.mk (HW.out.grown hg hl9 (fun k hk => by have : g2 = k := (by simpa [Value.ownBlock] using hk); omega))
      replace HB := Aside0.mk (HB.out.grown hg HB.out.size (fun k hk => by have : g2 = k := (by simpa [Value.ownBlock] using hk); have := HLO.out.1; omega))
      obtain ⟨m', hm'⟩ : ∃ m', m' = m.take i ++ [p1, p2] ++ m.drop (i + 1) := ⟨_, rfl⟩
      rw [← hm'] at HO
      have HM := Aside0.mk hm'
      obtain ⟨A2, c2', rfl⟩ := Kd.R_slice HO.out.r2
      clear hr hg hat hg9 hl9 HV NV hzS hm'
      have hzS := cells5 BS.out
      have hf := free5 BS.out))
  clear hzS hf
  replace HO := Aside0.mk (HO.out.cell BS.out 2 (.slice A2 m'.length c2')); replace HB := Aside0.mk (HB.out.setCell (p := ⟨gs, 2, none⟩) (Nat.le_trans HLO.out.1 HLO.out.2.1) (.slice A2 m'.length c2')); replace HW := Aside0.mk (HW.out.setCell (p := ⟨gs, 2, none⟩) HLO.out.2.1 (.slice A2 m'.length c2')); replace BS := Aside0.mk (blk_put BS.out 2 (.slice A2 m'.length c2') rfl)
  generalize w50.setCell ⟨gs, 2, none⟩ (.slice A2 m'.length c2') = w51 at HO HB HW BS ⊢
  obtain ⟨g3_, c3_, e3, hg3, hx3⟩ := ow_at3 HO.out i HZ.out.2.2
  injection e3 with e1 e2 e3
  injection e1 with e1
  injection e1 with e1
  subst e1 e3
  have hd := (Below.refl w51.heap.size w51).drew
  have HT := Aside0.mk (pw_cell_below hd hx3); replace BS := Aside0.mk (blk_below BS.out hd); replace HO := Aside0.mk (HO.out.below hd); replace HW := Aside0.mk (show Below lo w w51.drew from HW.out.drew); replace HB := Aside0.mk (below_step HB.out hd); have HG := Aside0.mk hg3
  clear hd hx3 hg3 e2
  refine start_ (n := 23) (S := fun w' => w'.cell? ⟨gs, 3, none⟩ = some (.slice (some ⟨g3, 0, none⟩) t.length c3) ∧ w'.cell? ⟨g3, i, none⟩ = some (.int .i64 (rd t (i : Int)))) (ds := [19, 22]) #[N_,N_,N_,N_,N_,N_,N_,N_,N_,N_,N_,N_,N_,N_,N_,N_,N_,N_,N_,N_,N_,N_,N_] (by kernel_rfl) rfl rfl ⟨(blk_cell BS.out 3).trans rfl, HT.out⟩ (fun hHeld => ?_)
  generalize w51.drew = w52 at HT BS HO HW HB hHeld ⊢
  refine pure_ (i := 0) (N := some 53) (v := ?_) (a' := ?_) #[Y_,N_,N_,N_,N_,N_,N_,N_,N_,N_,N_,N_,N_,N_,N_,N_,N_,N_,N_,N_,N_,N_,N_] rfl rfl (by kernel_rfl) (fun _ _ _ h => h) (Or.inl ⟨by rfl, ?_⟩) ?_ ?_
  rotate_left
  · (intro w'; go_simp; with_reducible rfl)
  rotate_left
  · (simp only [Act.put, q1_, q2_, q3_, i64_w, i32_w]; rfl)
  refine pure_ (i := 1) (N := some 54) (v := ?_) (a' := ?_) #[Y_,Y_,N_,N_,N_,N_,N_,N_,N_,N_,N_,N_,N_,N_,N_,N_,N_,N_,N_,N_,N_,N_,N_] rfl rfl (by kernel_rfl) (fun _ _ _ h => h) (Or.inl ⟨by rfl, ?_⟩) ?_ ?_
  rotate_left
  · (intro w'; go_simp; with_reducible rfl)
  rotate_left
  · (simp only [Act.put, q1_, q2_, q3_, i64_w, i32_w]; rfl)
  refine pure_ (i := 2) (N := some 55) (v := ?_) (a' := ?_) #[Y_,Y_,Y_,N_,N_,N_,N_,N_,N_,N_,N_,N_,N_,N_,N_,N_,N_,N_,N_,N_,N_,N_,N_] rfl rfl (by kernel_rfl) (fun _ _ _ h => h) (Or.inl ⟨by rfl, ?_⟩) ?_ ?_
  rotate_left
  · (intro w'; go_simp; with_reducible rfl)
  rotate_left
  · (simp only [Act.put, q1_, q2_, q3_, i64_w, i32_w]; rfl)
  refine pure_ (i := 3) (N := some 56) (v := ?_) (a' := ?_) #[Y_,Y_,Y_,Y_,N_,N_,N_,N_,N_,N_,N_,N_,N_,N_,N_,N_,N_,N_,N_,N_,N_,N_,N_] rfl rfl (by kernel_rfl) (fun _ _ _ h => h) (Or.inl ⟨by rfl, ?_⟩) ?_ ?_
  rotate_left
  · (intro w'; go_simp; with_reducible rfl)
  rotate_left
  · (simp only [Act.put, q1_, q2_, q3_, i64_w, i32_w]; rfl)
  refine pure_ (i := 5) (N := some 58) (v := ?_) (a' := ?_) #[Y_,Y_,Y_,Y_,N_,Y_,N_,N_,N_,N_,N_,N_,N_,N_,N_,N_,N_,N_,N_,N_,N_,N_,N_] rfl rfl (by kernel_rfl) (fun _ _ _ h => h) (Or.inl ⟨by rfl, ?_⟩) ?_ ?_
  rotate_left
  · (intro w'; go_simp; with_reducible rfl)
  rotate_left
  · (simp only [Act.put, q1_, q2_, q3_, i64_w, i32_w]; rfl)
  refine pure_ (i := 6) (N := some 59) (v := ?_) (a' := ?_) #[Y_,Y_,Y_,Y_,N_,Y_,Y_,N_,N_,N_,N_,N_,N_,N_,N_,N_,N_,N_,N_,N_,N_,N_,N_] rfl rfl (by kernel_rfl) (fun _ _ _ h => h) (Or.inl ⟨by rfl, ?_⟩) ?_ ?_
  rotate_left
  · (intro w'; go_simp; with_reducible rfl)
  rotate_left
  · (simp only [Act.put, q1_, q2_, q3_, i64_w, i32_w]; rfl)
  refine pure_ (i := 7) (N := some 60) (v := ?_) (a' := ?_) #[Y_,Y_,Y_,Y_,N_,Y_,Y_,Y_,N_,N_,N_,N_,N_,N_,N_,N_,N_,N_,N_,N_,N_,N_,N_] rfl rfl (by kernel_rfl) (fun _ _ _ h => h) (Or.inl ⟨by rfl, ?_⟩) ?_ ?_
  rotate_left
  · (intro w'; go_simp; with_reducible rfl)
  rotate_left
  · (simp only [Act.put, q1_, q2_, q3_, i64_w, i32_w]; rfl)
  refine pure_ (i := 8) (N := some 61) (v := ?_) (a' := ?_) #[Y_,Y_,Y_,Y_,N_,Y_,Y_,Y_,Y_,N_,N_,N_,N_,N_,N_,N_,N_,N_,N_,N_,N_,N_,N_] rfl rfl (by kernel_rfl) (fun _ _ _ h => h) (Or.inl ⟨by rfl, ?_⟩) ?_ ?_
  rotate_left
  · (intro w'; go_simp; with_reducible rfl)
  rotate_left
  · (simp only [Act.put, q1_, q2_, q3_, i64_w, i32_w]; rfl)
  refine pure_ (i := 9) (N := some 62) (v := ?_) (a' := ?_) #[Y_,Y_,Y_,Y_,N_,Y_,Y_,Y_,Y_,Y_,N_,N_,N_,N_,N_,N_,N_,N_,N_,N_,N_,N_,N_] rfl rfl (by kernel_rfl) (fun _ _ _ h => h) (Or.inl ⟨by rfl, ?_⟩) ?_ ?_
  rotate_left
  · (intro w'; go_simp; with_reducible rfl)
  rotate_left
  · (simp only [Act.put, q1_, q2_, q3_, i64_w, i32_w]; rfl)
  refine pure_ (i := 10) (N := some 63) (v := ?_) (a' := ?_) #[Y_,Y_,Y_,Y_,N_,Y_,Y_,Y_,Y_,Y_,Y_,N_,N_,N_,N_,N_,N_,N_,N_,N_,N_,N_,N_] rfl rfl (by kernel_rfl) (fun _ _ _ h => h) (Or.inl ⟨by rfl, ?_⟩) ?_ ?_
  rotate_left
  · (intro w'; go_simp; with_reducible rfl)
  rotate_left
  · (simp only [Act.put, q1_, q2_, q3_, i64_w, i32_w]; rfl)
  refine pure_ (i := 11) (N := some 64) (v := ?_) (a' := ?_) #[Y_,Y_,Y_,Y_,N_,Y_,Y_,Y_,Y_,Y_,Y_,Y_,N_,N_,N_,N_,N_,N_,N_,N_,N_,N_,N_] rfl rfl (by kernel_rfl) (fun _ _ _ h => h) (Or.inl ⟨by rfl, ?_⟩) ?_ ?_
  rotate_left
  · (intro w'; go_simp; with_reducible rfl)
  rotate_left
  · (simp only [Act.put, q1_, q2_, q3_, i64_w, i32_w]; rfl)
  refine pure_ (i := 13) (N := some 66) (v := ?_) (a' := ?_) #[Y_,Y_,Y_,Y_,N_,Y_,Y_,Y_,Y_,Y_,Y_,Y_,N_,Y_,N_,N_,N_,N_,N_,N_,N_,N_,N_] rfl rfl (by kernel_rfl) (fun _ _ _ h => h) (Or.inl ⟨by rfl, ?_⟩) ?_ ?_
  rotate_left
  · (intro w'; go_simp; with_reducible rfl)
  rotate_left
  · (simp only [Act.put, q1_, q2_, q3_, i64_w, i32_w]; rfl)
  refine pure_ (i := 16) (N := some 69) (v := ?_) (a' := ?_) #[Y_,Y_,Y_,Y_,N_,Y_,Y_,Y_,Y_,Y_,Y_,Y_,N_,Y_,N_,N_,Y_,N_,N_,N_,N_,N_,N_] rfl rfl (by kernel_rfl) (fun _ _ _ h => h) (Or.inl ⟨by rfl, ?_⟩) ?_ ?_
  rotate_left
  · (intro w'; go_simp; with_reducible rfl)
  rotate_left
  · (simp only [Act.put, q1_, q2_, q3_, i64_w, i32_w]; rfl)
  refine take_ (i := 4) (N := some 57) (v := ?_) (a' := ?_) #[Y_,Y_,Y_,Y_,Y_,Y_,Y_,Y_,Y_,Y_,Y_,Y_,N_,Y_,N_,N_,Y_,N_,N_,N_,N_,N_,N_] rfl rfl (by kernel_rfl) (fun _ _ _ h => h) (Or.inl ⟨by rfl, ?_⟩) hHeld ?_ ?_
  rotate_left
  · (rintro w' ⟨s0, s1⟩; go_simp; with_reducible rfl)
  rotate_left
  · (simp only [Act.put, q1_, q2_, q3_, i64_w, i32_w]; rfl)
  refine take_ (i := 12) (N := some 65) (v := ?_) (a' := ?_) #[Y_,Y_,Y_,Y_,Y_,Y_,Y_,Y_,Y_,Y_,Y_,Y_,Y_,Y_,N_,N_,Y_,N_,N_,N_,N_,N_,N_] rfl rfl (by kernel_rfl) (fun _ _ _ h => h) (Or.inl ⟨by rfl, ?_⟩) hHeld ?_ ?_
  rotate_left
  · (rintro w' ⟨s0, s1⟩; go_simp; with_reducible rfl)
  rotate_left
  · (simp only [Act.put, q1_, q2_, q3_, i64_w, i32_w]; rfl)
  refine pure_ (i := 14) (N := some 67) (v := ?_) (a' := ?_) #[Y_,Y_,Y_,Y_,Y_,Y_,Y_,Y_,Y_,Y_,Y_,Y_,Y_,Y_,Y_,N_,Y_,N_,N_,N_,N_,N_,N_] rfl rfl (by kernel_rfl) (fun _ _ _ h => h) (Or.inl ⟨by rfl, ?_⟩) ?_ ?_
  rotate_left
  · (intro w'; go_simp; with_reducible rfl)
  rotate_left
  · (simp only [Act.put, q1_, q2_, q3_, i64_w, i32_w]; rfl)
  refine take_ (i := 15) (N := some 68) (v := ?_) (a' := ?_) #[Y_,Y_,Y_,Y_,Y_,Y_,Y_,Y_,Y_,Y_,Y_,Y_,Y_,Y_,Y_,Y_,Y_,N_,N_,N_,N_,N_,N_] rfl rfl (by kernel_rfl) (fun _ _ _ h => h) (Or.inl ⟨by rfl, ?_⟩) hHeld ?_ ?_
  rotate_left
  · (rintro w' ⟨s0, s1⟩; go_simp; with_reducible rfl)
  rotate_left
  · (simp only [Act.put, q1_, q2_, q3_, i64_w, i32_w]; rfl)
  refine pure_ (i := 17) (N := some 70) (v := ?_) (a' := ?_) #[Y_,Y_,Y_,Y_,Y_,Y_,Y_,Y_,Y_,Y_,Y_,Y_,Y_,Y_,Y_,Y_,Y_,Y_,N_,N_,N_,N_,N_] rfl rfl (by kernel_rfl) (fun _ _ _ h => h) (Or.inl ⟨by rfl, ?_⟩) ?_ ?_
  rotate_left
  · (intro w'; go_simp; with_reducible rfl)
  rotate_left
  · (simp only [Act.put, q1_, q2_, q3_, i64_w, i32_w]; rfl)
  refine one_ (i := 18) (N := some 71) #[Y_,Y_,Y_,Y_,Y_,Y_,Y_,Y_,Y_,Y_,Y_,Y_,Y_,Y_,Y_,Y_,Y_,Y_,Y_,N_,N_,N_,N_] rfl rfl (by kernel_rfl) (by decide) (fun K hK => ?_)
  refine lit_step (by rfl) (n := 2) (c := 2) (t := 3) (cs := ([p3, wrap64 (rd t (i : Int) - p3)].map (Value.int .i64)).toArray) (by first | (go_simp; done) | (go_simp; rfl)) ?_
  intro gv hg w71 hv hb
  have NV := Aside0.mk (show g3 ≠ gv by rw [hg]; obtain ⟨inner, h9⟩ := Kd.R_own HO.out.r3; exact Nat.ne_of_lt (own_lt h9 g3 rfl))
  have HV := Aside0.mk hv; replace HT := Aside0.mk (pw_cell_below hb HT.out); replace BS := Aside0.mk (blk_below BS.out hb); replace HO := Aside0.mk (HO.out.below hb); replace HW := Aside0.mk (HW.out.trans (hb.mono (Nat.le_trans HLO.out.2.2 HW.out.size))); replace HB := Aside0.mk (below_step HB.out hb)
  clear hb hv hg
  refine hK.out _ _ ⟨(blk_cell BS.out 3).trans rfl, HT.out⟩ (fun hHeld => ?_)
  clear hK K
  refine norm_ (a' := ?_) ?_ ?_
  rotate_left
  · (show Act.put _ (some 71) _ = _; simp only [Act.put, q1_, q2_, q3_, i64_w, i32_w]; rfl)
  refine last_ (i := 19) (N := some 72) #[Y_,Y_,Y_,Y_,Y_,Y_,Y_,Y_,Y_,Y_,Y_,Y_,Y_,Y_,Y_,Y_,Y_,Y_,Y_,Y_,N_,N_,N_] rfl rfl (by kernel_rfl) (by decide) (fun K hK => ?_)
  refine goes_ Try.func89 (by kernel_rfl) (by kernel_rfl) #[.slice (some ⟨g3, 0, none⟩) t.length c3, .int .i64 (i : Int), .int .i64 ((i + 1 : Nat) : Int), .slice (some ⟨gv, 0, none⟩) 2 2] (by rfl) rfl rfl (by simp [Act.eval]) ?_
  refine (rep_go [p3, wrap64 (rd t (i : Int) - p3)] 2 rfl HO.out.r3 (Nat.lt_succ_self i) HZ.out.2.2 (by decide) (by omega) HZ.out.1.2 (fun e => NV.out (by simpa [Value.ownBlock] using e)) HV.out).mono ?_
  rintro e w72 ⟨v72, rfl, hr, hg, hat⟩
  refine ⟨_, rfl, ?_⟩
  have hg9 : lo ≤ g3 := HG.out
  have hl9 := Nat.le_trans HLO.out.2.2 HW.out.size
  replace BS := Aside0.mk (blk_grown BS.out hg (Kd.R_ne HO.out.r3 BS.out (by decide)))
  replace HO := Aside0.mk (HO.out.put3 hg hr hat)
  replace HW := Aside0.mk (HW.out.grown hg hl9 (fun k hk => by have : g3 = k := (by simpa [Value.ownBlock] using hk); omega))
  replace HB := Aside0.mk (HB.out.grown hg HB.out.size (fun k hk => by have : g3 = k := (by simpa [Value.ownBlock] using hk); have := HLO.out.1; omega))
  obtain ⟨t', ht'⟩ : ∃ t', t' = t.take i ++ [p3, wrap64 (rd t (i : Int) - p3)] ++ t.drop (i + 1) := ⟨_, rfl⟩
  rw [← ht'] at HO
  have HN := Aside0.mk ht'
  obtain ⟨A3, c3', rfl⟩ := Kd.R_slice HO.out.r3
  clear hr hg hat hg9 hl9 HV NV ht'
  refine hK.out _ _ ?_
  clear hK K
  refine norm_ (a' := ?_) ?_ ?_
  rotate_left
  · (show Act.put _ (some 72) _ = _; simp only [Act.put, q1_, q2_, q3_, i64_w, i32_w]; rfl)
  refine pure_ (i := 20) (N := some 73) (v := ?_) (a' := ?_) #[Y_,Y_,Y_,Y_,Y_,Y_,Y_,Y_,Y_,Y_,Y_,Y_,Y_,Y_,Y_,Y_,Y_,Y_,Y_,Y_,Y_,N_,N_] rfl rfl (by kernel_rfl) (fun _ _ _ h => h) (Or.inl ⟨by rfl, ?_⟩) ?_ ?_
  rotate_left
  · (intro w'; go_simp; with_reducible rfl)
  rotate_left
  · (simp only [Act.put, q1_, q2_, q3_, i64_w, i32_w]; rfl)
  refine pure_ (i := 21) (N := some 74) (v := ?_) (a' := ?_) #[Y_,Y_,Y_,Y_,Y_,Y_,Y_,Y_,Y_,Y_,Y_,Y_,Y_,Y_,Y_,Y_,Y_,Y_,Y_,Y_,Y_,Y_,N_] rfl rfl (by kernel_rfl) (fun _ _ _ h => h) (Or.inl ⟨by rfl, ?_⟩) ?_ ?_
  rotate_left
  · (intro w'; go_simp; with_reducible rfl)
  rotate_left
  · (simp only [Act.put, q1_, q2_, q3_, i64_w, i32_w]; rfl)
  refine last_ (i := 22) (N := none) #[Y_,Y_,Y_,Y_,Y_,Y_,Y_,Y_,Y_,Y_,Y_,Y_,Y_,Y_,Y_,Y_,Y_,Y_,Y_,Y_,Y_,Y_,Y_] rfl rfl (by kernel_rfl) (by decide) (fun K hK => ?_)
  have hzS := cells5 BS.out
  have hf := free5 BS.out
  refine skip_ (w1 := ?_) (by rfl) rfl ?_ ?_
  rotate_left
  · (go_simp; rfl)
  refine hK.out _ _ ?_
  clear hK K
  refine done_ (by kernel_rfl) ?_
  go_end0
  refine ⟨rfl, HW.out.setCell HLO.out.2.1 _, _, _, _, blk_put BS.out 3 _ rfl, ?_⟩
  have h9 := (HO.out.cell BS.out 3 (.slice A3 t'.length c3')).up (hi' := (w72.setCell ⟨gs, 3, none⟩ (.slice A3 t'.length c3')).heap.size) (by simp [World.setCell]) (Nat.le_refl _)
  rw [HM.out, HN.out] at h9
  first | exact h9 | (simpa [HM.out, HN.out] using h9)
theorem impl_State_refine.go (w0 : World) (lo hi gs : Nat) (R : Int) (u1 u2 u3 u4 : Value) (l : List S36) (m t b : List Int) (i : Nat) (w : World) (hi2 : i < m.length) (hi3 : i < t.length) (p1 p2 p3 : Int) (hs : impl_SplitEven.f (rd m (i : Int)) = some (p1, p2)) (hy : impl_ShareOut.f (rd t (i : Int)) p1 (rd m (i : Int)) = some p3) (l' : List S36) (hl : impl_Mesh_refine.f l (i : Int) = some l') (hz : (m.length + 2) * 8 ≤ 140737488355328 ∧ (t.length + 2) * 8 ≤ 140737488355328) (m' t' : List Int) (hm' : m' = m.take i ++ [p1, p2] ++ m.drop (i + 1)) (ht' : t' = t.take i ++ [p3, wrap64 (rd t (i : Int) - p3)] ++ t.drop (i + 1))
  (hB : Below w0.heap.size w0 w) (hlo : w0.heap.size ≤ lo) (hgs : lo ≤ gs) (hbox : w.heap[gs]? = some (.cells #[.int .i64 R, u1, u2, u3, u4] 29 (0, 0))) (ho : Ow lo hi w u1 l u2 m u3 t u4 b) :
  Calls Try.prog 50 #[.pointer (some ⟨gs, 0, none⟩), .int .i64 (i : Int)] w fun e w' => e = .returned (.tuple #[]) ∧ Below lo w w' ∧ ∃ u1' u2' u3', w'.heap[gs]? = some (.cells #[.int .i64 R, u1', u2', u3', u4] 29 (0, 0)) ∧ Ow lo w'.heap.size w' u1' l' u2' m' u3' t' u4 b := by
  subst hm' ht'
  exact impl_State_refine.at_ w0 lo hi gs R u1 u2 u3 u4 l m t b i w hi2 hi3 p1 p2 p3 hs hy l' hl hz hB hlo hgs hbox ho
end Go.Proofs.Ytbkkehjhfgocfaa.PFnTransferred
