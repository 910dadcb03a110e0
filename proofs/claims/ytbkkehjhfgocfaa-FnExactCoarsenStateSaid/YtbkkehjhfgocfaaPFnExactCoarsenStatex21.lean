/- Functions of the reference and of the program over states, walked by hand; no condition. -/
import Derived.Test.YtbkkehjhfgocfaaPFnExactCoarsenStatex14
import Derived.Test.YtbkkehjhfgocfaaPFnExactCoarsenStatex20
namespace Go.Proofs.Ytbkkehjhfgocfaa.PFnExactCoarsenState
open Go.RowKit Go.Proofs.YtbkkehjhfgocfaaW.PrintWords Go.Proofs.YtbkkehjhfgocfaaW.PrintLast Go.Proofs.YtbkkehjhfgocfaaW.PrintMore
set_option linter.unusedVariables false
set_option linter.unusedSimpArgs false
def spec_l08Merge.T1 : Bool × List (List Nat × List Nat) := (true, [([], []), ([0], [0]), ([], []), ([1, 2], [1, 2]), ([], []), ([], []), ([5], [5]), ([], []), ([7], [7]), ([6, 8], [6, 8]), ([4, 9, 3], [4, 9]), ([], []), ([], []), ([12], [12]), ([], []), ([14], [14]), ([13, 15], [13, 15]), ([11, 16, 10], [11, 16]), ([], []), ([], []), ([19], [19]), ([18, 20, 17], [18, 20]), ([3, 10, 17, 21], [3, 10, 17, 21]), ([22, 21, 0, 1, 2, 3, 4, 5, 6, 7, 8, 9, 10, 11, 12, 13, 14, 15, 16, 17, 18, 19, 20, 21, 22], [22])])
def spec_l08Merge.B1 : List Nat := [0, 1, 0, 7, 0, 0, 32, 0, 128, 480, 1023, 0, 0, 4096, 0, 16384, 61440, 131071, 0, 0, 524288, 2097151, 4194303, 8388607]
theorem spec_l08Merge.tab1 : rtab .any (opsOf Try.f61 5) = spec_l08Merge.T1 := by kernel_rfl
theorem spec_l08Merge.bits1 : waitsOk spec_l08Merge.T1.2 spec_l08Merge.B1 = true := by kernel_rfl
def spec_l08Merge.L (s0 s1 s2 s3 : Nat) : Array Bool := #[true, true, true, Nat.ble 1 s0, true, true, true, true, true, true, Nat.ble 2 s1, true, true, true, true, true, true, Nat.ble 2 s2, Nat.ble 1 s3, true, true, Nat.ble 2 s3, false, false]
theorem spec_l08Merge.chk : ∀ s0 : Fin 2, ∀ s1 s2 s3 : Fin 3, (1 ≤ s1.val ∧ 1 ≤ s2.val) → (readyT spec_l08Merge.T1.2 (spec_l08Merge.L s0 s1 s2 s3).toList ≠ []) ∧ ((readyT spec_l08Merge.T1.2 (spec_l08Merge.L s0 s1 s2 s3).toList).all fun i => decide ((i = 3 ∧ s0.val = 0) ∨ (i = 10 ∧ s1.val = 1) ∨ (i = 17 ∧ s2.val = 1) ∨ (i = 18 ∧ s3.val = 0) ∨ (i = 21 ∧ s3.val = 1) ∨ (i = 22 ∧ s0.val + s1.val + s2.val + s3.val = 7))) = true := by decide +kernel
def spec_l08Merge.T2 : Bool × List (List Nat × List Nat) := (true, [([], []), ([], []), ([1], [1]), ([], []), ([2, 3], [2, 3]), ([4], [4]), ([], []), ([6], [6]), ([], []), ([8], [8]), ([7, 9], [7, 9]), ([10], [10]), ([5, 11], [5, 11]), ([12], [12]), ([0, 13], [0, 13]), ([14, 14, 0, 1, 2, 3, 4, 5, 6, 7, 8, 9, 10, 11, 12, 13, 14], [0, 14])])
def spec_l08Merge.B2 : List Nat := [0, 0, 2, 0, 14, 30, 0, 64, 0, 256, 960, 1984, 4094, 8190, 16383, 32767]
theorem spec_l08Merge.tab2 : rtab .any (opsOf Try.f61 2) = spec_l08Merge.T2 := by kernel_rfl
theorem spec_l08Merge.tab4 : rtab .any (opsOf Try.f61 4) = spec_l08Merge.T2 := by kernel_rfl
theorem spec_l08Merge.bits2 : waitsOk spec_l08Merge.T2.2 spec_l08Merge.B2 = true := by kernel_rfl
set_option maxHeartbeats 16000000 in
set_option maxRecDepth 100000 in
theorem spec_l08Merge.at_ (i : Nat) (j1 : Int) (hj1 : ((i + 1 : Nat) : Int) = j1) (a0_0 : Int) (A0_1 : Option Addr) (c0_1 : Nat) (l0_1 : List S36) (ad2 : Addr) (c0_2 : Nat) (l0_2 : List Int) (ad3 : Addr) (c0_3 : Nat) (l0_3 : List Int) (A0_4 : Option Addr) (c0_4 : Nat) (l0_4 : List Int) (w : World) (ha : Rd k36 w A0_1 c0_1 l0_1 (some ad2) c0_2 l0_2 (some ad3) c0_3 l0_3 A0_4 c0_4 l0_4)
  (hi2 : i + 1 < l0_2.length) (hi3 : i + 1 < l0_3.length) (t1 : Int) (t2 : List S36) (hl : spec_l06Merge.f a0_0 l0_1 (i : Int) = some (t1, t2)) (hz : (l0_2.length + 2) * 8 ≤ 140737488355328 ∧ (l0_3.length + 2) * 8 ≤ 140737488355328 ∧ l0_4.length * 8 ≤ 140737488355328) :
  Calls Try.prog 61 #[.agg #[.int .i64 a0_0, .slice A0_1 l0_1.length c0_1, .slice (some ad2) l0_2.length c0_2, .slice (some ad3) l0_3.length c0_3, .slice A0_4 l0_4.length c0_4], .int .i64 (i : Int)] w (Made w t1 t2 ((l0_2.take i ++ [wrap64 (rd l0_2 (i : Int) + rd l0_2 j1)]) ++ l0_2.drop (i + 2)) ((l0_3.take i ++ [wrap64 (rd l0_3 (i : Int) + rd l0_3 j1)]) ++ l0_3.drop (i + 2)) l0_4 .returned) := by
  have hu29 := Try.underlying29
  have hu26 := Try.underlying26
  have hi0 : (0 : Int) ≤ (i : Int) := by omega
  have hi2' : (i : Int) < (l0_2.length : Int) := by omega
  have hi3' : (i : Int) < (l0_3.length : Int) := by omega
  have hj0 : (0 : Int) ≤ j1 := by omega
  have hj2 : j1 < (l0_2.length : Int) := by omega
  have hj3 : j1 < (l0_3.length : Int) := by omega
  obtain ⟨ad2_, e2_, hx2⟩ := Kd.at_int ha.r2 (i : Int) hi0 (by omega)
  obtain ⟨ad3_, e3_, hx3⟩ := Kd.at_int ha.r3 (i : Int) hi0 (by omega)
  obtain rfl := Option.some.inj e2_
  obtain rfl := Option.some.inj e3_
  rw [Int.toNat_natCast] at hx2 hx3
  obtain ⟨ad2_, e4_, hy2⟩ := Kd.at_int ha.r2 j1 hj0 (by omega)
  obtain ⟨ad3_, e5_, hy3⟩ := Kd.at_int ha.r3 j1 hj0 (by omega)
  obtain rfl := Option.some.inj e4_
  obtain rfl := Option.some.inj e5_
  obtain ⟨hT2, ht2⟩ := take_cut ha.r2 ha.k2 i (by omega)
  obtain ⟨hT3, ht3⟩ := take_cut ha.r3 ha.k3 i (by omega)
  obtain ⟨j, hj⟩ : ∃ j : Int, ((i + 2 : Nat) : Int) = j := ⟨_, rfl⟩
  have hwi : IntKind.i64.wrap ((i : Int) + 2) = j := by rw [IntKind.wrap_i64, ← hj]; omega
  have hwj : IntKind.i64.wrap ((i : Int) + 1) = j1 := by rw [IntKind.wrap_i64, ← hj1]; omega
  obtain ⟨D1, n1, d1, hn1, hD1, hd1⟩ := drop_cut ha.r2 ha.k2 j (i + 2) hj.symm (by omega)
  obtain ⟨D2, n2, d2, hn2, hD2, hd2⟩ := drop_cut ha.r3 ha.k3 j (i + 2) hj.symm (by omega)
  have HX2 := Aside0.mk hx2; have HX3 := Aside0.mk hx3; have HY2 := Aside0.mk hy2; have HY3 := Aside0.mk hy3; have HT2 := Aside0.mk ht2; have HT3 := Aside0.mk ht3; have HD1 := Aside0.mk hd1; have HD2 := Aside0.mk hd2
  have HC := Aside0.mk hl; have HZ := Aside0.mk (And.intro hz (And.intro hi2 (And.intro hi3 (And.intro hn1 hn2)))); have HR1 := Aside0.mk (And.intro ha.r1 ha.k1); have HR4 := Aside0.mk ha.r4
  clear ha hx2 hx3 hy2 hy3 ht2 ht3 hd1 hd2 hl hz hi2 hi3 hj hj1 hn1 hn2
  go_enter Try.func61, Try.ntmps61
  go_wp2_with (first
   | ((with_reducible refine gate_dst (N := 2) rfl ?_); refine box_event ?hg (N := 2) ?hd (cs := #[.int .i64 a0_0, .slice A0_1 l0_1.length c0_1, .slice (some ad2) l0_2.length c0_2, .slice (some ad3) l0_3.length c0_3, .slice A0_4 l0_4.length c0_4]) (t := 29) ?hr ?_; (case hd => rfl); (case hg => rfl); (case hr => first | (go_simp; done) | (go_simp; rfl)); intro gb hg wA hbox hb; have GE := Aside0.mk (by rw [hg]; exact Nat.le_refl _ : w.heap.size ≤ gb); have HB := Aside0.mk hb; have BK := Aside0.mk hbox; clear hb hbox hg)
   | ((with_reducible refine gate_dst (N := 4) rfl ?_); refine box_event ?hg (N := 4) ?hd (cs := #[.int .i64 0, .slice none 0 0, .slice none 0 0, .slice none 0 0, .slice none 0 0]) (t := 29) ?hr ?_; (case hd => rfl); (case hg => rfl); (case hr => first | (go_simp; done) | (go_simp; rfl)); intro gr hg wB hbox hb; have HF := Aside0.mk (F3.start (below_step HB.out hb) (blk_below BK.out hb) hbox (by rw [hg]; exact ⟨Nat.ne_of_lt (blk_lt BK.out), GE.out, HB.out.size⟩ : gb ≠ gr ∧ w.heap.size ≤ gb ∧ w.heap.size ≤ gr)); clear BK HB GE hb hbox hg; have hz := cells5 HF.out.b1)
   | ((with_reducible refine gate_dst (N := 7) rfl ?_); refine HF.out.make_l rfl (N := 7) rfl (by go_simp) ?_; intro v7 w7 q; replace HF := Aside0.mk q; clear q; (try clear hz); have hz := cells5 HF.out.b1)
   | ((with_reducible refine gate_dst (N := 12) rfl ?_); refine HF.out.app_l rfl (.tmp 7) (.tmp 11) rfl Try.underlying27 info3 (l0_2.take i) (some ad2) i c0_2 rfl rfl (Kd.C_below HT2.out HF.out.B) (by have := HZ.out; simp only [List.length_nil, List.length_take]; omega) ?_; intro v12 w12 q; rw [List.nil_append] at q; replace HF := Aside0.mk q; clear q; (try clear hz); have hz := cells5 HF.out.b1))
  have hd := (Below.refl w12.heap.size w12).drew
  replace HF := Aside0.mk (HF.out.below hd)
  clear hz hd
  refine start_ (n := 16) (S := fun w' => (w'.cell? ⟨gb, 0, none⟩ = some (.int .i64 a0_0) ∧ w'.cell? ⟨gb, 1, none⟩ = some (.slice A0_1 l0_1.length c0_1) ∧ w'.cell? ⟨gb, 2, none⟩ = some (.slice (some ad2) l0_2.length c0_2) ∧ w'.cell? ⟨gb, 3, none⟩ = some (.slice (some ad3) l0_3.length c0_3) ∧ w'.cell? ⟨gb, 4, none⟩ = some (.slice A0_4 l0_4.length c0_4)) ∧ w'.cell? ((ad2).add i) = some (.int .i64 (rd l0_2 (i : Int))) ∧ w'.cell? ((ad2).add j1.toNat) = some (.int .i64 (rd l0_2 j1))) (ds := []) #[N_,N_,N_,N_,N_,N_,N_,N_,N_,N_,N_,N_,N_,N_,N_,N_] (by kernel_rfl) rfl rfl ⟨cells5 HF.out.b1, pw_cell_below HF.out.B HX2.out, pw_cell_below HF.out.B HY2.out⟩ (fun hHeld => ?_); refine with_tabW spec_l08Merge.tab2 spec_l08Merge.bits2 (fun HT_ HW_ => ?_)
  generalize World.drew _ = w8 at HF hHeld ⊢
  refine pure_ (i := 0) (N := some 13) (v := ?_) (a' := ?_) #[Y_,N_,N_,N_,N_,N_,N_,N_,N_,N_,N_,N_,N_,N_,N_,N_] rfl rfl (any_of HT_.out (by kernel_rfl)) (fun _ _ _ h => h) (Or.inl ⟨by rfl, ?_⟩) ?_ ?_
  rotate_left
  · (intro w'; go_simp; with_reducible rfl)
  rotate_left
  · (simp only [Act.put, q1_, q2_, q3_, i64_w, i32_w]; rfl)
  refine pure_ (i := 1) (N := some 14) (v := ?_) (a' := ?_) #[Y_,Y_,N_,N_,N_,N_,N_,N_,N_,N_,N_,N_,N_,N_,N_,N_] rfl rfl (any_of HT_.out (by kernel_rfl)) (fun _ _ _ h => h) (Or.inl ⟨by rfl, ?_⟩) ?_ ?_
  rotate_left
  · (intro w'; go_simp; with_reducible rfl)
  rotate_left
  · (simp only [Act.put, q1_, q2_, q3_, i64_w, i32_w]; rfl)
  refine pure_ (i := 3) (N := some 16) (v := ?_) (a' := ?_) #[Y_,Y_,N_,Y_,N_,N_,N_,N_,N_,N_,N_,N_,N_,N_,N_,N_] rfl rfl (any_of HT_.out (by kernel_rfl)) (fun _ _ _ h => h) (Or.inl ⟨by rfl, ?_⟩) ?_ ?_
  rotate_left
  · (intro w'; go_simp; with_reducible rfl)
  rotate_left
  · (simp only [Act.put, q1_, q2_, q3_, i64_w, i32_w]; rfl)
  refine pure_ (i := 6) (N := some 19) (v := ?_) (a' := ?_) #[Y_,Y_,N_,Y_,N_,N_,Y_,N_,N_,N_,N_,N_,N_,N_,N_,N_] rfl rfl (any_of HT_.out (by kernel_rfl)) (fun _ _ _ h => h) (Or.inl ⟨by rfl, ?_⟩) ?_ ?_
  rotate_left
  · (intro w'; go_simp; with_reducible rfl)
  rotate_left
  · (simp only [Act.put, q1_, q2_, q3_, i64_w, i32_w]; rfl)
  refine pure_ (i := 8) (N := some 21) (v := ?_) (a' := ?_) #[Y_,Y_,N_,Y_,N_,N_,Y_,N_,Y_,N_,N_,N_,N_,N_,N_,N_] rfl rfl (any_of HT_.out (by kernel_rfl)) (fun _ _ _ h => h) (Or.inl ⟨by rfl, ?_⟩) ?_ ?_
  rotate_left
  · (intro w'; go_simp; with_reducible rfl)
  rotate_left
  · (simp only [Act.put, q1_, q2_, q3_, i64_w, i32_w]; rfl)
  refine pure_ (i := 9) (N := some 22) (v := ?_) (a' := ?_) #[Y_,Y_,N_,Y_,N_,N_,Y_,N_,Y_,Y_,N_,N_,N_,N_,N_,N_] rfl rfl (any_of HT_.out (by kernel_rfl)) (fun _ _ _ h => h) (Or.inl ⟨by rfl, ?_⟩) ?_ ?_
  rotate_left
  · (intro w'; go_simp; with_reducible rfl)
  rotate_left
  · (simp only [Act.put, q1_, q2_, q3_, i64_w, i32_w]; rfl)
  refine take_ (i := 2) (N := some 15) (v := ?_) (a' := ?_) #[Y_,Y_,Y_,Y_,N_,N_,Y_,N_,Y_,Y_,N_,N_,N_,N_,N_,N_] rfl rfl (take_ofW HT_.out HW_.out (by kernel_rfl)) (fun _ _ _ h => h) (Or.inl ⟨by rfl, ?_⟩) hHeld ?_ ?_
  rotate_left
  · (rintro w' ⟨⟨s0, s1, s2, s3, s4⟩, s5, s6⟩; go_simp; with_reducible rfl)
  rotate_left
  · (simp only [Act.put, q1_, q2_, q3_, i64_w, i32_w]; rfl)
  refine take_ (i := 7) (N := some 20) (v := ?_) (a' := ?_) #[Y_,Y_,Y_,Y_,N_,N_,Y_,Y_,Y_,Y_,N_,N_,N_,N_,N_,N_] rfl rfl (take_ofW HT_.out HW_.out (by kernel_rfl)) (fun _ _ _ h => h) (Or.inl ⟨by rfl, ?_⟩) hHeld ?_ ?_
  rotate_left
  · (rintro w' ⟨⟨s0, s1, s2, s3, s4⟩, s5, s6⟩; go_simp; with_reducible rfl)
  rotate_left
  · (simp only [Act.put, q1_, q2_, q3_, i64_w, i32_w]; rfl)
  refine pure_ (i := 4) (N := some 17) (v := ?_) (a' := ?_) #[Y_,Y_,Y_,Y_,Y_,N_,Y_,Y_,Y_,Y_,N_,N_,N_,N_,N_,N_] rfl rfl (any_of HT_.out (by kernel_rfl)) (fun _ _ _ h => h) (Or.inl ⟨by rfl, ?_⟩) ?_ ?_
  rotate_left
  · (intro w'; go_simp; with_reducible rfl)
  rotate_left
  · (simp only [Act.put, q1_, q2_, q3_, i64_w, i32_w]; rfl)
  refine pure_ (i := 10) (N := some 23) (v := ?_) (a' := ?_) #[Y_,Y_,Y_,Y_,Y_,N_,Y_,Y_,Y_,Y_,Y_,N_,N_,N_,N_,N_] rfl rfl (any_of HT_.out (by kernel_rfl)) (fun _ _ _ h => h) (Or.inl ⟨by rfl, ?_⟩) ?_ ?_
  rotate_left
  · (intro w'; go_simp; with_reducible rfl)
  rotate_left
  · (simp only [Act.put, q1_, q2_, q3_, i64_w, i32_w]; rfl)
  refine take_ (i := 5) (N := some 18) (v := ?_) (a' := ?_) #[Y_,Y_,Y_,Y_,Y_,Y_,Y_,Y_,Y_,Y_,Y_,N_,N_,N_,N_,N_] rfl rfl (take_ofW HT_.out HW_.out (by kernel_rfl)) (fun _ _ _ h => h) (Or.inl ⟨by rfl, ?_⟩) hHeld ?_ ?_
  rotate_left
  · (rintro w' ⟨⟨s0, s1, s2, s3, s4⟩, s5, s6⟩; go_simp; with_reducible rfl)
  rotate_left
  · (simp only [Act.put, q1_, q2_, q3_, i64_w, i32_w]; rfl)
  refine take_ (i := 11) (N := some 24) (v := ?_) (a' := ?_) #[Y_,Y_,Y_,Y_,Y_,Y_,Y_,Y_,Y_,Y_,Y_,Y_,N_,N_,N_,N_] rfl rfl (take_ofW HT_.out HW_.out (by kernel_rfl)) (fun _ _ _ h => h) (Or.inl ⟨by rfl, ?_⟩) hHeld ?_ ?_
  rotate_left
  · (rintro w' ⟨⟨s0, s1, s2, s3, s4⟩, s5, s6⟩; go_simp; with_reducible rfl)
  rotate_left
  · (simp only [Act.put, q1_, q2_, q3_, i64_w, i32_w]; rfl)
  refine pure_ (i := 12) (N := some 25) (v := ?_) (a' := ?_) #[Y_,Y_,Y_,Y_,Y_,Y_,Y_,Y_,Y_,Y_,Y_,Y_,Y_,N_,N_,N_] rfl rfl (any_of HT_.out (by kernel_rfl)) (fun _ _ _ h => h) (Or.inl ⟨by rfl, ?_⟩) ?_ ?_
  rotate_left
  · (intro w'; go_simp; with_reducible rfl)
  rotate_left
  · (simp only [Act.put, q1_, q2_, q3_, i64_w, i32_w]; rfl)
  refine one_ (i := 13) (N := some 26) #[Y_,Y_,Y_,Y_,Y_,Y_,Y_,Y_,Y_,Y_,Y_,Y_,Y_,Y_,N_,N_] rfl rfl (one_of HT_.out (by kernel_rfl)) (by decide) (fun K hK => ?_)
  refine HF.out.lit_ (by rfl) (N := 26) rfl [wrap64 (rd l0_2 (i : Int) + rd l0_2 j1)] (by simp) (by first | (go_simp; done) | (go_simp; rfl)) ?_
  intro M1A w26 q hc
  replace HF := Aside0.mk q
  have HCL := Aside0.mk hc
  clear q hc
  refine hK.out _ _ ⟨cells5 HF.out.b1, pw_cell_below HF.out.B HX2.out, pw_cell_below HF.out.B HY2.out⟩ (fun hHeld => ?_)
  clear hK K
  refine norm_ (a' := ?_) ?_ ?_
  rotate_left
  · (show Act.put _ (some 26) _ = _; simp only [Act.put, q1_, q2_, q3_, i64_w, i32_w]; rfl)
  refine one_ (i := 14) (N := some 27) #[Y_,Y_,Y_,Y_,Y_,Y_,Y_,Y_,Y_,Y_,Y_,Y_,Y_,Y_,Y_,N_] rfl rfl (one_of HT_.out (by kernel_rfl)) (by decide) (fun K hK => ?_)
  refine HF.out.app_ (by rfl) (.tmp 13) (.tmp 26) rfl Try.underlying27 info3 [wrap64 (rd l0_2 (i : Int) + rd l0_2 j1)] M1A 1 _ rfl rfl HCL.out (by have := HZ.out; simp only [List.length_cons, List.length_nil, List.length_take]; omega) ?_
  intro M1 w27 q
  replace HF := Aside0.mk q
  clear q HCL
  refine hK.out _ _ ⟨cells5 HF.out.b1, pw_cell_below HF.out.B HX2.out, pw_cell_below HF.out.B HY2.out⟩ (fun hHeld => ?_)
  clear hK K
  refine norm_ (a' := ?_) ?_ ?_
  rotate_left
  · (show Act.put _ (some 27) _ = _; simp only [Act.put, q1_, q2_, q3_, i64_w, i32_w]; rfl)
  refine pure_ (i := 15) (N := some 5) (v := ?_) (a' := ?_) #[Y_,Y_,Y_,Y_,Y_,Y_,Y_,Y_,Y_,Y_,Y_,Y_,Y_,Y_,Y_,Y_] rfl rfl (any_of HT_.out (by kernel_rfl)) (fun _ _ _ h => h) (Or.inl ⟨by rfl, ?_⟩) ?_ ?_
  rotate_left
  · (intro w'; go_simp; with_reducible rfl)
  rotate_left
  · (simp only [Act.put, q1_, q2_, q3_, i64_w, i32_w]; rfl)
  refine done_ (done_of HT_.out (by kernel_rfl)) ?_
  clear hHeld HT_ HW_
  have hz := cells5 HF.out.b1
  go_wp2_with (first
   | ((with_reducible refine gate_dst (N := 28) rfl ?_); refine HF.out.rot.make_l rfl (N := 28) rfl (by go_simp) ?_; intro v28 w28 q; replace HF := Aside0.mk q.rot.rot; clear q; (try clear hz); have hz := cells5 HF.out.b1)
   | ((with_reducible refine gate_dst (N := 33) rfl ?_); refine HF.out.rot.app_l rfl (.tmp 28) (.tmp 32) rfl Try.underlying27 info3 (l0_3.take i) (some ad3) i c0_3 rfl rfl (Kd.C_below HT3.out HF.out.B) (by have := HZ.out; simp only [List.length_nil, List.length_take]; omega) ?_; intro v33 w33 q; rw [List.nil_append] at q; replace HF := Aside0.mk q.rot.rot; clear q; (try clear hz); have hz := cells5 HF.out.b1))
  have hd := (Below.refl w33.heap.size w33).drew
  replace HF := Aside0.mk (HF.out.below hd)
  clear hz hd
  refine start_ (n := 16) (S := fun w' => (w'.cell? ⟨gb, 0, none⟩ = some (.int .i64 a0_0) ∧ w'.cell? ⟨gb, 1, none⟩ = some (.slice A0_1 l0_1.length c0_1) ∧ w'.cell? ⟨gb, 2, none⟩ = some (.slice (some ad2) l0_2.length c0_2) ∧ w'.cell? ⟨gb, 3, none⟩ = some (.slice (some ad3) l0_3.length c0_3) ∧ w'.cell? ⟨gb, 4, none⟩ = some (.slice A0_4 l0_4.length c0_4)) ∧ w'.cell? ((ad3).add i) = some (.int .i64 (rd l0_3 (i : Int))) ∧ w'.cell? ((ad3).add j1.toNat) = some (.int .i64 (rd l0_3 j1))) (ds := []) #[N_,N_,N_,N_,N_,N_,N_,N_,N_,N_,N_,N_,N_,N_,N_,N_] (by kernel_rfl) rfl rfl ⟨cells5 HF.out.b1, pw_cell_below HF.out.B HX3.out, pw_cell_below HF.out.B HY3.out⟩ (fun hHeld => ?_); refine with_tabW spec_l08Merge.tab4 spec_l08Merge.bits2 (fun HT_ HW_ => ?_)
  generalize World.drew _ = w8 at HF hHeld ⊢
  refine pure_ (i := 0) (N := some 34) (v := ?_) (a' := ?_) #[Y_,N_,N_,N_,N_,N_,N_,N_,N_,N_,N_,N_,N_,N_,N_,N_] rfl rfl (any_of HT_.out (by kernel_rfl)) (fun _ _ _ h => h) (Or.inl ⟨by rfl, ?_⟩) ?_ ?_
  rotate_left
  · (intro w'; go_simp; with_reducible rfl)
  rotate_left
  · (simp only [Act.put, q1_, q2_, q3_, i64_w, i32_w]; rfl)
  refine pure_ (i := 1) (N := some 35) (v := ?_) (a' := ?_) #[Y_,Y_,N_,N_,N_,N_,N_,N_,N_,N_,N_,N_,N_,N_,N_,N_] rfl rfl (any_of HT_.out (by kernel_rfl)) (fun _ _ _ h => h) (Or.inl ⟨by rfl, ?_⟩) ?_ ?_
  rotate_left
  · (intro w'; go_simp; with_reducible rfl)
  rotate_left
  · (simp only [Act.put, q1_, q2_, q3_, i64_w, i32_w]; rfl)
  refine pure_ (i := 3) (N := some 37) (v := ?_) (a' := ?_) #[Y_,Y_,N_,Y_,N_,N_,N_,N_,N_,N_,N_,N_,N_,N_,N_,N_] rfl rfl (any_of HT_.out (by kernel_rfl)) (fun _ _ _ h => h) (Or.inl ⟨by rfl, ?_⟩) ?_ ?_
  rotate_left
  · (intro w'; go_simp; with_reducible rfl)
  rotate_left
  · (simp only [Act.put, q1_, q2_, q3_, i64_w, i32_w]; rfl)
  refine pure_ (i := 6) (N := some 40) (v := ?_) (a' := ?_) #[Y_,Y_,N_,Y_,N_,N_,Y_,N_,N_,N_,N_,N_,N_,N_,N_,N_] rfl rfl (any_of HT_.out (by kernel_rfl)) (fun _ _ _ h => h) (Or.inl ⟨by rfl, ?_⟩) ?_ ?_
  rotate_left
  · (intro w'; go_simp; with_reducible rfl)
  rotate_left
  · (simp only [Act.put, q1_, q2_, q3_, i64_w, i32_w]; rfl)
  refine pure_ (i := 8) (N := some 42) (v := ?_) (a' := ?_) #[Y_,Y_,N_,Y_,N_,N_,Y_,N_,Y_,N_,N_,N_,N_,N_,N_,N_] rfl rfl (any_of HT_.out (by kernel_rfl)) (fun _ _ _ h => h) (Or.inl ⟨by rfl, ?_⟩) ?_ ?_
  rotate_left
  · (intro w'; go_simp; with_reducible rfl)
  rotate_left
  · (simp only [Act.put, q1_, q2_, q3_, i64_w, i32_w]; rfl)
  refine pure_ (i := 9) (N := some 43) (v := ?_) (a' := ?_) #[Y_,Y_,N_,Y_,N_,N_,Y_,N_,Y_,Y_,N_,N_,N_,N_,N_,N_] rfl rfl (any_of HT_.out (by kernel_rfl)) (fun _ _ _ h => h) (Or.inl ⟨by rfl, ?_⟩) ?_ ?_
  rotate_left
  · (intro w'; go_simp; with_reducible rfl)
  rotate_left
  · (simp only [Act.put, q1_, q2_, q3_, i64_w, i32_w]; rfl)
  refine take_ (i := 2) (N := some 36) (v := ?_) (a' := ?_) #[Y_,Y_,Y_,Y_,N_,N_,Y_,N_,Y_,Y_,N_,N_,N_,N_,N_,N_] rfl rfl (take_ofW HT_.out HW_.out (by kernel_rfl)) (fun _ _ _ h => h) (Or.inl ⟨by rfl, ?_⟩) hHeld ?_ ?_
  rotate_left
  · (rintro w' ⟨⟨s0, s1, s2, s3, s4⟩, s5, s6⟩; go_simp; with_reducible rfl)
  rotate_left
  · (simp only [Act.put, q1_, q2_, q3_, i64_w, i32_w]; rfl)
  refine take_ (i := 7) (N := some 41) (v := ?_) (a' := ?_) #[Y_,Y_,Y_,Y_,N_,N_,Y_,Y_,Y_,Y_,N_,N_,N_,N_,N_,N_] rfl rfl (take_ofW HT_.out HW_.out (by kernel_rfl)) (fun _ _ _ h => h) (Or.inl ⟨by rfl, ?_⟩) hHeld ?_ ?_
  rotate_left
  · (rintro w' ⟨⟨s0, s1, s2, s3, s4⟩, s5, s6⟩; go_simp; with_reducible rfl)
  rotate_left
  · (simp only [Act.put, q1_, q2_, q3_, i64_w, i32_w]; rfl)
  refine pure_ (i := 4) (N := some 38) (v := ?_) (a' := ?_) #[Y_,Y_,Y_,Y_,Y_,N_,Y_,Y_,Y_,Y_,N_,N_,N_,N_,N_,N_] rfl rfl (any_of HT_.out (by kernel_rfl)) (fun _ _ _ h => h) (Or.inl ⟨by rfl, ?_⟩) ?_ ?_
  rotate_left
  · (intro w'; go_simp; with_reducible rfl)
  rotate_left
  · (simp only [Act.put, q1_, q2_, q3_, i64_w, i32_w]; rfl)
  refine pure_ (i := 10) (N := some 44) (v := ?_) (a' := ?_) #[Y_,Y_,Y_,Y_,Y_,N_,Y_,Y_,Y_,Y_,Y_,N_,N_,N_,N_,N_] rfl rfl (any_of HT_.out (by kernel_rfl)) (fun _ _ _ h => h) (Or.inl ⟨by rfl, ?_⟩) ?_ ?_
  rotate_left
  · (intro w'; go_simp; with_reducible rfl)
  rotate_left
  · (simp only [Act.put, q1_, q2_, q3_, i64_w, i32_w]; rfl)
  refine take_ (i := 5) (N := some 39) (v := ?_) (a' := ?_) #[Y_,Y_,Y_,Y_,Y_,Y_,Y_,Y_,Y_,Y_,Y_,N_,N_,N_,N_,N_] rfl rfl (take_ofW HT_.out HW_.out (by kernel_rfl)) (fun _ _ _ h => h) (Or.inl ⟨by rfl, ?_⟩) hHeld ?_ ?_
  rotate_left
  · (rintro w' ⟨⟨s0, s1, s2, s3, s4⟩, s5, s6⟩; go_simp; with_reducible rfl)
  rotate_left
  · (simp only [Act.put, q1_, q2_, q3_, i64_w, i32_w]; rfl)
  refine take_ (i := 11) (N := some 45) (v := ?_) (a' := ?_) #[Y_,Y_,Y_,Y_,Y_,Y_,Y_,Y_,Y_,Y_,Y_,Y_,N_,N_,N_,N_] rfl rfl (take_ofW HT_.out HW_.out (by kernel_rfl)) (fun _ _ _ h => h) (Or.inl ⟨by rfl, ?_⟩) hHeld ?_ ?_
  rotate_left
  · (rintro w' ⟨⟨s0, s1, s2, s3, s4⟩, s5, s6⟩; go_simp; with_reducible rfl)
  rotate_left
  · (simp only [Act.put, q1_, q2_, q3_, i64_w, i32_w]; rfl)
  refine pure_ (i := 12) (N := some 46) (v := ?_) (a' := ?_) #[Y_,Y_,Y_,Y_,Y_,Y_,Y_,Y_,Y_,Y_,Y_,Y_,Y_,N_,N_,N_] rfl rfl (any_of HT_.out (by kernel_rfl)) (fun _ _ _ h => h) (Or.inl ⟨by rfl, ?_⟩) ?_ ?_
  rotate_left
  · (intro w'; go_simp; with_reducible rfl)
  rotate_left
  · (simp only [Act.put, q1_, q2_, q3_, i64_w, i32_w]; rfl)
  refine one_ (i := 13) (N := some 47) #[Y_,Y_,Y_,Y_,Y_,Y_,Y_,Y_,Y_,Y_,Y_,Y_,Y_,Y_,N_,N_] rfl rfl (one_of HT_.out (by kernel_rfl)) (by decide) (fun K hK => ?_)
  refine HF.out.lit_ (by rfl) (N := 47) rfl [wrap64 (rd l0_3 (i : Int) + rd l0_3 j1)] (by simp) (by first | (go_simp; done) | (go_simp; rfl)) ?_
  intro M2A w26 q hc
  replace HF := Aside0.mk q
  have HCL := Aside0.mk hc
  clear q hc
  refine hK.out _ _ ⟨cells5 HF.out.b1, pw_cell_below HF.out.B HX3.out, pw_cell_below HF.out.B HY3.out⟩ (fun hHeld => ?_)
  clear hK K
  refine norm_ (a' := ?_) ?_ ?_
  rotate_left
  · (show Act.put _ (some 47) _ = _; simp only [Act.put, q1_, q2_, q3_, i64_w, i32_w]; rfl)
  refine one_ (i := 14) (N := some 48) #[Y_,Y_,Y_,Y_,Y_,Y_,Y_,Y_,Y_,Y_,Y_,Y_,Y_,Y_,Y_,N_] rfl rfl (one_of HT_.out (by kernel_rfl)) (by decide) (fun K hK => ?_)
  refine HF.out.rot.app_ (by rfl) (.tmp 34) (.tmp 47) rfl Try.underlying27 info3 [wrap64 (rd l0_3 (i : Int) + rd l0_3 j1)] M2A 1 _ rfl rfl HCL.out (by have := HZ.out; simp only [List.length_cons, List.length_nil, List.length_take]; omega) ?_
  intro M2 w27 q
  replace HF := Aside0.mk q.rot.rot
  clear q HCL
  refine hK.out _ _ ⟨cells5 HF.out.b1, pw_cell_below HF.out.B HX3.out, pw_cell_below HF.out.B HY3.out⟩ (fun hHeld => ?_)
  clear hK K
  refine norm_ (a' := ?_) ?_ ?_
  rotate_left
  · (show Act.put _ (some 48) _ = _; simp only [Act.put, q1_, q2_, q3_, i64_w, i32_w]; rfl)
  refine pure_ (i := 15) (N := some 6) (v := ?_) (a' := ?_) #[Y_,Y_,Y_,Y_,Y_,Y_,Y_,Y_,Y_,Y_,Y_,Y_,Y_,Y_,Y_,Y_] rfl rfl (any_of HT_.out (by kernel_rfl)) (fun _ _ _ h => h) (Or.inl ⟨by rfl, ?_⟩) ?_ ?_
  rotate_left
  · (intro w'; go_simp; with_reducible rfl)
  rotate_left
  · (simp only [Act.put, q1_, q2_, q3_, i64_w, i32_w]; rfl)
  refine done_ (done_of HT_.out (by kernel_rfl)) ?_
  clear hHeld HT_ HW_
  have hz := cells5 HF.out.b1
  try go_wp2
  have hd := (Below.refl w27.heap.size w27).drew
  replace HF := Aside0.mk (HF.out.below hd)
  clear hz hd
  refine start_ (n := 24) (S := fun w' => w'.cell? ⟨gb, 0, none⟩ = some (.int .i64 a0_0) ∧ w'.cell? ⟨gb, 1, none⟩ = some (.slice A0_1 l0_1.length c0_1) ∧ w'.cell? ⟨gb, 2, none⟩ = some (.slice (some ad2) l0_2.length c0_2) ∧ w'.cell? ⟨gb, 3, none⟩ = some (.slice (some ad3) l0_3.length c0_3) ∧ w'.cell? ⟨gb, 4, none⟩ = some (.slice A0_4 l0_4.length c0_4)) (ds := []) #[N_,N_,N_,N_,N_,N_,N_,N_,N_,N_,N_,N_,N_,N_,N_,N_,N_,N_,N_,N_,N_,N_,N_,N_] (by kernel_rfl) rfl rfl (cells5 HF.out.b1) (fun hHeld => ?_); refine with_tabW spec_l08Merge.tab1 spec_l08Merge.bits1 (fun HT_ HW_ => ?_)
  generalize World.drew _ = w8 at HF hHeld ⊢
  refine pure_ (i := 0) (N := some 49) (v := ?_) (a' := ?_) #[Y_,N_,N_,N_,N_,N_,N_,N_,N_,N_,N_,N_,N_,N_,N_,N_,N_,N_,N_,N_,N_,N_,N_,N_] rfl rfl (any_of HT_.out (by kernel_rfl)) (fun _ _ _ h => h) (Or.inl ⟨by rfl, ?_⟩) ?_ ?_
  rotate_left
  · (intro w'; go_simp; with_reducible rfl)
  rotate_left
  · (simp only [Act.put, q1_, q2_, q3_, i64_w, i32_w]; rfl)
  refine pure_ (i := 2) (N := some 51) (v := ?_) (a' := ?_) #[Y_,N_,Y_,N_,N_,N_,N_,N_,N_,N_,N_,N_,N_,N_,N_,N_,N_,N_,N_,N_,N_,N_,N_,N_] rfl rfl (any_of HT_.out (by kernel_rfl)) (fun _ _ _ h => h) (Or.inl ⟨by rfl, ?_⟩) ?_ ?_
  rotate_left
  · (intro w'; go_simp; with_reducible rfl)
  rotate_left
  · (simp only [Act.put, q1_, q2_, q3_, i64_w, i32_w]; rfl)
  refine pure_ (i := 4) (N := some 53) (v := ?_) (a' := ?_) #[Y_,N_,Y_,N_,Y_,N_,N_,N_,N_,N_,N_,N_,N_,N_,N_,N_,N_,N_,N_,N_,N_,N_,N_,N_] rfl rfl (any_of HT_.out (by kernel_rfl)) (fun _ _ _ h => h) (Or.inl ⟨by rfl, ?_⟩) ?_ ?_
  rotate_left
  · (intro w'; go_simp; with_reducible rfl)
  rotate_left
  · (simp only [Act.put, q1_, q2_, q3_, i64_w, i32_w]; rfl)
  refine pure_ (i := 5) (N := some 54) (v := ?_) (a' := ?_) #[Y_,N_,Y_,N_,Y_,Y_,N_,N_,N_,N_,N_,N_,N_,N_,N_,N_,N_,N_,N_,N_,N_,N_,N_,N_] rfl rfl (any_of HT_.out (by kernel_rfl)) (fun _ _ _ h => h) (Or.inl ⟨by rfl, ?_⟩) ?_ ?_
  rotate_left
  · (intro w'; go_simp; with_reducible rfl)
  rotate_left
  · (simp only [Act.put, q1_, q2_, q3_, i64_w, i32_w]; rfl)
  refine pure_ (i := 7) (N := some 56) (v := ?_) (a' := ?_) #[Y_,N_,Y_,N_,Y_,Y_,N_,Y_,N_,N_,N_,N_,N_,N_,N_,N_,N_,N_,N_,N_,N_,N_,N_,N_] rfl rfl (any_of HT_.out (by kernel_rfl)) (fun _ _ _ h => h) (Or.inl ⟨by rfl, ?_⟩) ?_ ?_
  rotate_left
  · (intro w'; go_simp; with_reducible rfl)
  rotate_left
  · (simp only [Act.put, q1_, q2_, q3_, i64_w, i32_w]; rfl)
  refine pure_ (i := 8) (N := some 57) (v := ?_) (a' := ?_) #[Y_,N_,Y_,N_,Y_,Y_,N_,Y_,Y_,N_,N_,N_,N_,N_,N_,N_,N_,N_,N_,N_,N_,N_,N_,N_] rfl rfl (any_of HT_.out (by kernel_rfl)) (fun _ _ _ h => h) (Or.inl ⟨by rfl, ?_⟩) ?_ ?_
  rotate_left
  · (intro w'; go_simp; with_reducible rfl)
  rotate_left
  · (simp only [Act.put, q1_, q2_, q3_, i64_w, i32_w]; rfl)
  refine pure_ (i := 11) (N := some 60) (v := ?_) (a' := ?_) #[Y_,N_,Y_,N_,Y_,Y_,N_,Y_,Y_,N_,N_,Y_,N_,N_,N_,N_,N_,N_,N_,N_,N_,N_,N_,N_] rfl rfl (any_of HT_.out (by kernel_rfl)) (fun _ _ _ h => h) (Or.inl ⟨by rfl, ?_⟩) ?_ ?_
  rotate_left
  · (intro w'; go_simp; with_reducible rfl)
  rotate_left
  · (simp only [Act.put, q1_, q2_, q3_, i64_w, i32_w]; rfl)
  refine pure_ (i := 12) (N := some 61) (v := ?_) (a' := ?_) #[Y_,N_,Y_,N_,Y_,Y_,N_,Y_,Y_,N_,N_,Y_,Y_,N_,N_,N_,N_,N_,N_,N_,N_,N_,N_,N_] rfl rfl (any_of HT_.out (by kernel_rfl)) (fun _ _ _ h => h) (Or.inl ⟨by rfl, ?_⟩) ?_ ?_
  rotate_left
  · (intro w'; go_simp; with_reducible rfl)
  rotate_left
  · (simp only [Act.put, q1_, q2_, q3_, i64_w, i32_w]; rfl)
  refine pure_ (i := 14) (N := some 63) (v := ?_) (a' := ?_) #[Y_,N_,Y_,N_,Y_,Y_,N_,Y_,Y_,N_,N_,Y_,Y_,N_,Y_,N_,N_,N_,N_,N_,N_,N_,N_,N_] rfl rfl (any_of HT_.out (by kernel_rfl)) (fun _ _ _ h => h) (Or.inl ⟨by rfl, ?_⟩) ?_ ?_
  rotate_left
  · (intro w'; go_simp; with_reducible rfl)
  rotate_left
  · (simp only [Act.put, q1_, q2_, q3_, i64_w, i32_w]; rfl)
  refine pure_ (i := 15) (N := some 64) (v := ?_) (a' := ?_) #[Y_,N_,Y_,N_,Y_,Y_,N_,Y_,Y_,N_,N_,Y_,Y_,N_,Y_,Y_,N_,N_,N_,N_,N_,N_,N_,N_] rfl rfl (any_of HT_.out (by kernel_rfl)) (fun _ _ _ h => h) (Or.inl ⟨by rfl, ?_⟩) ?_ ?_
  rotate_left
  · (intro w'; go_simp; with_reducible rfl)
  rotate_left
  · (simp only [Act.put, q1_, q2_, q3_, i64_w, i32_w]; rfl)
  refine pure_ (i := 19) (N := some 68) (v := ?_) (a' := ?_) #[Y_,N_,Y_,N_,Y_,Y_,N_,Y_,Y_,N_,N_,Y_,Y_,N_,Y_,Y_,N_,N_,N_,Y_,N_,N_,N_,N_] rfl rfl (any_of HT_.out (by kernel_rfl)) (fun _ _ _ h => h) (Or.inl ⟨by rfl, ?_⟩) ?_ ?_
  rotate_left
  · (intro w'; go_simp; with_reducible rfl)
  rotate_left
  · (simp only [Act.put, q1_, q2_, q3_, i64_w, i32_w]; rfl)
  refine take_ (i := 1) (N := some 50) (v := ?_) (a' := ?_) #[Y_,Y_,Y_,N_,Y_,Y_,N_,Y_,Y_,N_,N_,Y_,Y_,N_,Y_,Y_,N_,N_,N_,Y_,N_,N_,N_,N_] rfl rfl (take_ofW HT_.out HW_.out (by kernel_rfl)) (fun _ _ _ h => h) (Or.inl ⟨by rfl, ?_⟩) hHeld ?_ ?_
  rotate_left
  · (rintro w' ⟨s0, s1, s2, s3, s4⟩; go_simp; with_reducible rfl)
  rotate_left
  · (simp only [Act.put, q1_, q2_, q3_, i64_w, i32_w]; rfl)
  refine take_ (i := 6) (N := some 55) (v := ?_) (a' := ?_) #[Y_,Y_,Y_,N_,Y_,Y_,Y_,Y_,Y_,N_,N_,Y_,Y_,N_,Y_,Y_,N_,N_,N_,Y_,N_,N_,N_,N_] rfl rfl (take_ofW HT_.out HW_.out (by kernel_rfl)) (fun _ _ _ h => h) (Or.inl ⟨by rfl, ?_⟩) hHeld ?_ ?_
  rotate_left
  · (rintro w' ⟨s0, s1, s2, s3, s4⟩; go_simp; with_reducible rfl)
  rotate_left
  · (simp only [Act.put, q1_, q2_, q3_, i64_w, i32_w]; rfl)
  refine take_ (i := 13) (N := some 62) (v := ?_) (a' := ?_) #[Y_,Y_,Y_,N_,Y_,Y_,Y_,Y_,Y_,N_,N_,Y_,Y_,Y_,Y_,Y_,N_,N_,N_,Y_,N_,N_,N_,N_] rfl rfl (take_ofW HT_.out HW_.out (by kernel_rfl)) (fun _ _ _ h => h) (Or.inl ⟨by rfl, ?_⟩) hHeld ?_ ?_
  rotate_left
  · (rintro w' ⟨s0, s1, s2, s3, s4⟩; go_simp; with_reducible rfl)
  rotate_left
  · (simp only [Act.put, q1_, q2_, q3_, i64_w, i32_w]; rfl)
  refine take_ (i := 20) (N := some 69) (v := ?_) (a' := ?_) #[Y_,Y_,Y_,N_,Y_,Y_,Y_,Y_,Y_,N_,N_,Y_,Y_,Y_,Y_,Y_,N_,N_,N_,Y_,Y_,N_,N_,N_] rfl rfl (take_ofW HT_.out HW_.out (by kernel_rfl)) (fun _ _ _ h => h) (Or.inl ⟨by rfl, ?_⟩) hHeld ?_ ?_
  rotate_left
  · (rintro w' ⟨s0, s1, s2, s3, s4⟩; go_simp; with_reducible rfl)
  rotate_left
  · (simp only [Act.put, q1_, q2_, q3_, i64_w, i32_w]; rfl)
  refine pure_ (i := 9) (N := some 58) (v := ?_) (a' := ?_) #[Y_,Y_,Y_,N_,Y_,Y_,Y_,Y_,Y_,Y_,N_,Y_,Y_,Y_,Y_,Y_,N_,N_,N_,Y_,Y_,N_,N_,N_] rfl rfl (any_of HT_.out (by kernel_rfl)) (fun _ _ _ h => h) (Or.inl ⟨by rfl, ?_⟩) ?_ ?_
  rotate_left
  · (intro w'; go_simp; with_reducible rfl)
  rotate_left
  · (simp only [Act.put, q1_, q2_, q3_, i64_w, i32_w]; rfl)
  refine pure_ (i := 16) (N := some 65) (v := ?_) (a' := ?_) #[Y_,Y_,Y_,N_,Y_,Y_,Y_,Y_,Y_,Y_,N_,Y_,Y_,Y_,Y_,Y_,Y_,N_,N_,Y_,Y_,N_,N_,N_] rfl rfl (any_of HT_.out (by kernel_rfl)) (fun _ _ _ h => h) (Or.inl ⟨by rfl, ?_⟩) ?_ ?_
  rotate_left
  · (intro w'; go_simp; with_reducible rfl)
  rotate_left
  · (simp only [Act.put, q1_, q2_, q3_, i64_w, i32_w]; rfl)
  refine (?_ : ∀ (n_ s0 s1 s2 s3 : Nat), s0 ≤ 1 → s1 ≤ 2 → s2 ≤ 2 → s3 ≤ 2 → 1 ≤ s1 → 1 ≤ s2 → n_ + (s0 + s1 + s2 + s3) = 7 → ∀ (u5 x1 x2 u3 x3 uB : Value) (W : World) (vm : Value) (lm : List S36) (z1 : Value) (l1 : List Int) (z2 : Value) (l2 : List Int) (z3 : Value) (l3 : List Int),
    Aside0 (F3 w gb gr #[.int .i64 a0_0, .slice A0_1 l0_1.length c0_1, .slice (some ad2) l0_2.length c0_2, .slice (some ad3) l0_3.length c0_3, .slice A0_4 l0_4.length c0_4] W vm lm z1 l1 z2 l2 z3 l3) → Aside0 ((s0 = 0 ∧ vm = .slice none 0 0 ∧ lm = []) ∨ (s0 = 1 ∧ u5 = .agg #[.int .i64 t1, vm] ∧ lm = t2)) → Aside0 (RowSt M1 x1 z1 l1 (l0_2.take i ++ [wrap64 (rd l0_2 (i : Int) + rd l0_2 j1)]) ((l0_2.take i ++ [wrap64 (rd l0_2 (i : Int) + rd l0_2 j1)]) ++ l0_2.drop (i + 2)) s1) → Aside0 (RowSt M2 x2 z2 l2 (l0_3.take i ++ [wrap64 (rd l0_3 (i : Int) + rd l0_3 j1)]) ((l0_3.take i ++ [wrap64 (rd l0_3 (i : Int) + rd l0_3 j1)]) ++ l0_3.drop (i + 2)) s2) → Aside0 (RowSt u3 x3 z3 l3 ([]) (l0_4) s3) →
    wpAnyLast Try.prog Region.Mode.any _ _ _ [] (n_ + 2) (spec_l08Merge.L s0 s1 s2 s3) ⟨#[_, _, _, _, _, _, _, _, _, _, _, _, _, _, _, _, _, _, _, _, _, _, _, _, _, _, _, _, _, _, _, _, _, _, _, _, _, _, _, _, _, _, _, _, _, _, _, _, _, .pointer (some ⟨gb, 0, none⟩), .agg #[.int .i64 a0_0, .slice A0_1 l0_1.length c0_1], .int .i64 (i : Int), u5, M1, .pointer (some ⟨gb, 2, none⟩), .slice (some ad2) l0_2.length c0_2, .int .i64 (i : Int), .int .i64 j, .slice D1 n1 d1, x1, M2, .pointer (some ⟨gb, 3, none⟩), .slice (some ad3) l0_3.length c0_3, .int .i64 (i : Int), .int .i64 j, .slice D2 n2 d2, x2, u3, .pointer (some ⟨gb, 4, none⟩), .slice A0_4 l0_4.length c0_4, x3, uB], []⟩ W)
    5 0 1 1 0 (by omega) (by omega) (by omega) (by omega) (by omega) (by omega) rfl undef undef undef undef undef undef w8 _ _ _ _ _ _ _ _ HF ⟨Or.inl ⟨rfl, rfl, rfl⟩⟩ ⟨⟨rfl, rfl⟩⟩ ⟨⟨rfl, rfl⟩⟩ ⟨⟨rfl, rfl⟩⟩
  clear HF hHeld
  intro n_
  induction n_ with
  | zero =>
    intro s0 s1 s2 s3 h0 h1 h2 h3 g1 g2 hm u5 x1 x2 u3 x3 uB W vm lm z1 l1 z2 l2 z3 l3 HF HM H1 H2 H3
    obtain rfl : s0 = 1 := by omega
    obtain rfl : s1 = 2 := by omega
    obtain rfl : s2 = 2 := by omega
    obtain rfl : s3 = 2 := by omega
    obtain ⟨_, rfl, e5⟩ := HM.out.resolve_left (fun e => by cases e.1)
    obtain ⟨rfl, e6⟩ := H1.out
    obtain ⟨rfl, e7⟩ := H2.out
    obtain ⟨rfl, e8⟩ := H3.out
    have E5 := Aside0.mk e5; have E6 := Aside0.mk e6; have E7 := Aside0.mk e7; have E8 := Aside0.mk e8
    clear e5 e6 e7 e8 HM H1 H2 H3
    obtain ⟨Y0, y0, rfl⟩ := Kd.R_slice HF.out.m
    obtain ⟨Y1, y1, rfl⟩ := Kd.R_slice HF.out.r1
    obtain ⟨Y2, y2, rfl⟩ := Kd.R_slice HF.out.r2
    obtain ⟨Y3, y3, rfl⟩ := Kd.R_slice HF.out.r3
    refine pure_ (i := 22) (N := some 71) (v := ?_) (a' := ?_) #[Y_,Y_,Y_,Y_,Y_,Y_,Y_,Y_,Y_,Y_,Y_,Y_,Y_,Y_,Y_,Y_,Y_,Y_,Y_,Y_,Y_,Y_,Y_,N_] rfl rfl (any_of HT_.out (by kernel_rfl)) (fun _ _ _ h => h) (Or.inl ⟨by rfl, ?_⟩) ?_ ?_
    rotate_left
    · (intro w'; go_simp; with_reducible rfl)
    rotate_left
    · (simp only [Act.put, q1_, q2_, q3_, i64_w, i32_w]; rfl)
    refine one_ (i := 23) (N := none) #[Y_,Y_,Y_,Y_,Y_,Y_,Y_,Y_,Y_,Y_,Y_,Y_,Y_,Y_,Y_,Y_,Y_,Y_,Y_,Y_,Y_,Y_,Y_,Y_] rfl rfl (one_of HT_.out (by kernel_rfl)) (by decide) (fun K hK => ?_)
    have hz := cells5 HF.out.b2
    have hf := free5 HF.out.b2
    refine skip_ (w1 := ?_) (by rfl) rfl ?_ ?_
    rotate_left
    · (go_simp; rfl)
    refine hK.out _ _ (cells5 (set5_blk HF.out.b1 HF.out.ne.1)) (fun hHeld => ?_)
    clear hK K hz hf
    refine done_ (done_of HT_.out (by kernel_rfl)) ?_
    try go_wp2
    refine bodyPost_ret (results_cell_row rfl _ _ gr 29 #[.int .i64 t1, .slice Y0 lm.length y0, .slice Y1 l1.length y1, .slice Y2 l2.length y2, .slice Y3 l3.length y3] (0, 0) _ rfl (set5_here HF.out.b2 _ _ _ _ _) Try.underlying29 rfl (by kernel_rfl)) rfl ?_
    exact Made.of_ ⟨_, _, _, _, rfl, R_eq (by first | exact E5.out | (rw [E5.out]; simp)) (set5_R HF.out.m HF.out.b2 (by decide)), R_eq (by first | exact E6.out | (rw [E6.out]; simp)) (set5_R HF.out.r1 HF.out.b2 (by decide)), R_eq (by first | exact E7.out | (rw [E7.out]; simp)) (set5_R HF.out.r2 HF.out.b2 (by decide)), R_eq (by first | exact E8.out | (rw [E8.out]; simp)) (set5_R HF.out.r3 HF.out.b2 (by decide)), set5_below HF.out.B HF.out.ne.2.2⟩
  | succ n_ ih =>
    intro s0 s1 s2 s3 h0 h1 h2 h3 g1 g2 hm u5 x1 x2 u3 x3 uB W vm lm z1 l1 z2 l2 z3 l3 HF HM H1 H2 H3
    have hc := spec_l08Merge.chk ⟨s0, by omega⟩ ⟨s1, by omega⟩ ⟨s2, by omega⟩ ⟨s3, by omega⟩ ⟨g1, g2⟩
    simp only at hc
    refine ⟨fun e => absurd ((ready_eq ..).symm.trans e) (by rw [HT_.out]; exact hc.1), fun i_ hi => ?_⟩
    rw [ready_eq, HT_.out] at hi
    have hi2 := of_decide_eq_true (List.all_eq_true.1 hc.2 i_ hi)
    clear hi hc
    have HS : Aside0 (∀ w' vm' lm' z1' l1' z2' l2' z3' l3', F3 w gb gr #[.int .i64 a0_0, .slice A0_1 l0_1.length c0_1, .slice (some ad2) l0_2.length c0_2, .slice (some ad3) l0_3.length c0_3, .slice A0_4 l0_4.length c0_4] w' vm' lm' z1' l1' z2' l2' z3' l3' → (w'.cell? ⟨gb, 0, none⟩ = some (.int .i64 a0_0) ∧ w'.cell? ⟨gb, 1, none⟩ = some (.slice A0_1 l0_1.length c0_1) ∧ w'.cell? ⟨gb, 2, none⟩ = some (.slice (some ad2) l0_2.length c0_2) ∧ w'.cell? ⟨gb, 3, none⟩ = some (.slice (some ad3) l0_3.length c0_3) ∧ w'.cell? ⟨gb, 4, none⟩ = some (.slice A0_4 l0_4.length c0_4))) := ⟨fun _ _ _ _ _ _ _ _ _ h => cells5 h.b1⟩
    have IH := Aside0.mk ih
    clear ih
    rcases hi2 with ⟨rfl, e0⟩ | ⟨rfl, e0⟩ | ⟨rfl, e0⟩ | ⟨rfl, e0⟩ | ⟨rfl, e0⟩ | ⟨rfl, e0⟩
    · refine wpOp_step rfl (fun K hK => ?_)
      obtain rfl := e0
      obtain ⟨_, rfl, rfl⟩ := HM.out.resolve_right (fun e => by cases e.1)
      refine goes_ Try.func97 (by kernel_rfl) (by kernel_rfl) #[.agg #[.int .i64 a0_0, .slice A0_1 l0_1.length c0_1], .int .i64 (i : Int)] (by rfl) rfl rfl (by simp [Act.eval]) ?_
      refine (spec_l06Merge.calls a0_0 A0_1 c0_1 l0_1 (i : Int) t1 t2 _ (Kd.C_below HR1.out.1 HF.out.B) HR1.out.2 HC.out).mono ?_
      rintro e w1 ⟨v1, rfl, ho, hb⟩
      have q := HF.out.mesh hb ho
      exact ⟨_, rfl, hK _ _ ⟨fun _ _ => HS.out _ _ _ _ _ _ _ _ _ q, IH.out 1 s1 s2 s3 (by omega) (by omega) (by omega) (by omega) (by omega) (by omega) (by omega) _ x1 x2 u3 x3 uB w1 _ _ _ _ _ _ _ _ ⟨q⟩ ⟨Or.inr ⟨rfl, rfl, rfl⟩⟩ H1 H2 H3⟩⟩
    · refine wpOp_step rfl (fun K hK => ?_)
      obtain rfl := e0
      obtain ⟨e1, e2⟩ := H1.out
      subst e1 e2
      refine HF.out.app_ (by rfl) (.tmp 53) (.tmp 58) rfl Try.underlying27 info3 (l0_2.drop (i + 2)) D1 n1 d1 rfl rfl (Kd.C_below HD1.out HF.out.B) (by have := HZ.out; simp only [List.length_append, List.length_take, List.length_cons, List.length_nil]; omega) (fun v1 w1 q => ?_)
      exact hK _ _ ⟨fun _ _ => HS.out _ _ _ _ _ _ _ _ _ q, IH.out s0 2 s2 s3 (by omega) (by omega) (by omega) (by omega) (by omega) (by omega) (by omega) u5 v1 x2 u3 x3 uB w1 _ _ _ _ _ _ _ _ ⟨q⟩ HM ⟨⟨rfl, rfl⟩⟩ H2 H3⟩
    · refine wpOp_step rfl (fun K hK => ?_)
      obtain rfl := e0
      obtain ⟨e1, e2⟩ := H2.out
      subst e1 e2
      refine HF.out.rot.app_ (by rfl) (.tmp 60) (.tmp 65) rfl Try.underlying27 info3 (l0_3.drop (i + 2)) D2 n2 d2 rfl rfl (Kd.C_below HD2.out HF.out.B) (by have := HZ.out; simp only [List.length_append, List.length_take, List.length_cons, List.length_nil]; omega) (fun v1 w1 q => ?_)
      exact hK _ _ ⟨fun _ _ => HS.out _ _ _ _ _ _ _ _ _ q.rot.rot, IH.out s0 s1 2 s3 (by omega) (by omega) (by omega) (by omega) (by omega) (by omega) (by omega) u5 x1 v1 u3 x3 uB w1 _ _ _ _ _ _ _ _ ⟨q.rot.rot⟩ HM H1 ⟨⟨rfl, rfl⟩⟩ H3⟩
    · refine wpOp_step rfl (fun K hK => ?_)
      obtain rfl := e0
      obtain ⟨e1, e2⟩ := H3.out
      subst e1 e2
      refine HF.out.rot.rot.make_ (by rfl) (N := 67) rfl (by go_simp) (fun v1 w1 q => ?_)
      exact hK _ _ ⟨fun _ _ => HS.out _ _ _ _ _ _ _ _ _ q.rot, IH.out s0 s1 s2 1 (by omega) (by omega) (by omega) (by omega) (by omega) (by omega) (by omega) u5 x1 x2 v1 x3 uB w1 _ _ _ _ _ _ _ _ ⟨q.rot⟩ HM H1 H2 ⟨⟨rfl, rfl⟩⟩⟩
    · refine wpOp_step rfl (fun K hK => ?_)
      obtain rfl := e0
      obtain ⟨e1, e2⟩ := H3.out
      subst e1 e2
      refine HF.out.rot.rot.app_ (by rfl) (.tmp 67) (.tmp 69) rfl Try.underlying27 info3 l0_4 A0_4 l0_4.length c0_4 rfl rfl (Kd.C_below HR4.out HF.out.B) (by have := HZ.out; simp only [List.length_nil]; omega) (fun v1 w1 q => ?_)
      rw [List.nil_append] at q
      exact hK _ _ ⟨fun _ _ => HS.out _ _ _ _ _ _ _ _ _ q.rot, IH.out s0 s1 s2 2 (by omega) (by omega) (by omega) (by omega) (by omega) (by omega) (by omega) u5 x1 x2 u3 v1 uB w1 _ _ _ _ _ _ _ _ ⟨q.rot⟩ HM H1 H2 ⟨⟨rfl, rfl⟩⟩⟩
    · omega
theorem spec_l08Merge.go (i : Nat) (a0_0 : Int) (A0_1 : Option Addr) (c0_1 : Nat) (l0_1 : List S36) (A0_2 : Option Addr) (c0_2 : Nat) (l0_2 : List Int) (A0_3 : Option Addr) (c0_3 : Nat) (l0_3 : List Int) (A0_4 : Option Addr) (c0_4 : Nat) (l0_4 : List Int) (w : World) (ha : Rd k36 w A0_1 c0_1 l0_1 A0_2 c0_2 l0_2 A0_3 c0_3 l0_3 A0_4 c0_4 l0_4)
  (hi2 : i + 1 < l0_2.length) (hi3 : i + 1 < l0_3.length) (t1 : Int) (t2 : List S36) (hl : spec_l06Merge.f a0_0 l0_1 (i : Int) = some (t1, t2)) (hz : (l0_2.length + 2) * 8 ≤ 140737488355328 ∧ (l0_3.length + 2) * 8 ≤ 140737488355328 ∧ l0_4.length * 8 ≤ 140737488355328) (M' T' : List Int) (hM' : M' = (l0_2.take i ++ [wrap64 (rd l0_2 (i : Int) + rd l0_2 ((i + 1 : Nat) : Int))]) ++ l0_2.drop (i + 2)) (hT' : T' = (l0_3.take i ++ [wrap64 (rd l0_3 (i : Int) + rd l0_3 ((i + 1 : Nat) : Int))]) ++ l0_3.drop (i + 2)) :
  Calls Try.prog 61 #[.agg #[.int .i64 a0_0, .slice A0_1 l0_1.length c0_1, .slice A0_2 l0_2.length c0_2, .slice A0_3 l0_3.length c0_3, .slice A0_4 l0_4.length c0_4], .int .i64 (i : Int)] w (Made w t1 t2 M' T' l0_4 .returned) := by
  subst hM' hT'
  obtain ⟨ad2, rfl, _⟩ := Kd.at_int ha.r2 (i : Int) (by omega) (by omega)
  obtain ⟨ad3, rfl, _⟩ := Kd.at_int ha.r3 (i : Int) (by omega) (by omega)
  exact spec_l08Merge.at_ i _ rfl a0_0 A0_1 c0_1 l0_1 ad2 c0_2 l0_2 ad3 c0_3 l0_3 A0_4 c0_4 l0_4 w ha hi2 hi3 t1 t2 hl hz
end Go.Proofs.Ytbkkehjhfgocfaa.PFnExactCoarsenState
