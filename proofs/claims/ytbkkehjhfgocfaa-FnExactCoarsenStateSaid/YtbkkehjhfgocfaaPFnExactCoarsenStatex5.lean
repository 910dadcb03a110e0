/- Written by this repo's own copy of a print: plain functions beneath a law, and the proof that the program computes them; no condition. -/
import Derived.Test.YtbkkehjhfgocfaaPFnExactCoarsenStatex0
import Derived.Test.YtbkkehjhfgocfaaPFnExactCoarsenStatex1
import Derived.Test.YtbkkehjhfgocfaaPFnExactCoarsenStatex2
import Derived.Test.YtbkkehjhfgocfaaPFnExactCoarsenStatex4
namespace Go.Proofs.Ytbkkehjhfgocfaa.PFnExactCoarsenState
open Go.RowKit Go.Proofs.YtbkkehjhfgocfaaW.PrintWords Go.Proofs.YtbkkehjhfgocfaaW.PrintLast Go.Proofs.YtbkkehjhfgocfaaW.PrintMore
attribute [local go_sem] max2_int min2_int max_two min_two max_three min_three max_four min_four   -- for this text's walks alone
set_option linter.unusedVariables false
set_option linter.unusedSimpArgs false

attribute [local go_sem high] eqA36
theorem cell_far5 {W : World} {g : Nat} {a : Addr} {v : Option Value} {u0 u1 u2 u3 u4 : Value} (h : a.block ≠ g) (hc : W.cell? a = v) : (((((W.setCell ⟨g, 0, none⟩ u0).setCell ⟨g, 1, none⟩ u1).setCell ⟨g, 2, none⟩ u2).setCell ⟨g, 3, none⟩ u3).setCell ⟨g, 4, none⟩ u4).cell? a = v := by
  rw [cell_far (p := ⟨g, 4, none⟩) h, cell_far (p := ⟨g, 3, none⟩) h, cell_far (p := ⟨g, 2, none⟩) h, cell_far (p := ⟨g, 1, none⟩) h, cell_far (p := ⟨g, 0, none⟩) h]; exact hc
def impl_copyState.f (a0_0 : Int) (l0_1 : List (S36)) (l0_2 : List Int) (l0_3 : List Int) (l0_4 : List Int) : Option (Int × (List (S36)) × List Int × List Int × List Int) := (impl_copyMesh.f a0_0 l0_1).bind fun bt145 => ((slices_Clone_int_int.f l0_2).bind fun t149 => ((slices_Clone_int_int.f l0_3).bind fun t152 => ((slices_Clone_int_int.f l0_4).bind fun t155 => (some (bt145.1, bt145.2, t149, t152, t155)))))
def impl_copyState.T1 : Bool × List (List Nat × List Nat) := (true, [([], []), ([0], [0]), ([1], [1]), ([], []), ([3], [3]), ([4, 2], [4]), ([], []), ([6], [6]), ([7, 5], [7]), ([], []), ([9], [9]), ([10, 8], [10]), ([2, 5, 8, 11], [2, 5, 8, 11]), ([12, 11, 0, 1, 2, 3, 4, 5, 6, 7, 8, 9, 10, 11, 12], [12])])
def impl_copyState.B1 : List Nat := [0, 1, 3, 0, 8, 31, 0, 64, 255, 0, 512, 2047, 4095, 8191]
theorem impl_copyState.tab1 : rtab .any (opsOf Try.f48 1) = impl_copyState.T1 := by kernel_rfl
theorem impl_copyState.bits1 : waitsOk impl_copyState.T1.2 impl_copyState.B1 = true := by kernel_rfl
set_option maxHeartbeats 8000000 in
set_option maxRecDepth 100000 in
theorem impl_copyState.calls (a0_0 : Int) (A0_1 : Option Addr) (c0_1 : Nat) (l0_1 : List (S36)) (A0_2 : Option Addr) (c0_2 : Nat) (l0_2 : List Int) (A0_3 : Option Addr) (c0_3 : Nat) (l0_3 : List Int) (A0_4 : Option Addr) (c0_4 : Nat) (l0_4 : List Int) (r1 : Int) (r2 : List (S36)) (r3 : List Int) (r4 : List Int) (r5 : List Int) (w : World) (hr0_1 : Kd.C k36 w A0_1 l0_1.length l0_1) (hc0_1 : l0_1.length ≤ c0_1) (hr0_2 : Kd.C (Kd.int .i64) w A0_2 l0_2.length l0_2) (hc0_2 : l0_2.length ≤ c0_2) (hr0_3 : Kd.C (Kd.int .i64) w A0_3 l0_3.length l0_3) (hc0_3 : l0_3.length ≤ c0_3) (hr0_4 : Kd.C (Kd.int .i64) w A0_4 l0_4.length l0_4) (hc0_4 : l0_4.length ≤ c0_4) (h : impl_copyState.f a0_0 l0_1 l0_2 l0_3 l0_4 = some (r1, r2, r3, r4, r5)) :
  Calls Try.prog 48 #[.agg #[.int .i64 a0_0, .slice A0_1 l0_1.length c0_1, .slice A0_2 l0_2.length c0_2, .slice A0_3 l0_3.length c0_3, .slice A0_4 l0_4.length c0_4]] w fun e w' => ∃ v1_ v2_ v3_ v4_ : Value, e = .returned (.agg #[.int .i64 r1, v1_, v2_, v3_, v4_]) ∧ Kd.R k36 36 w' w.heap.size (fun _ => True) v1_ r2 ∧ Kd.R (Kd.int .i64) 3 w' w.heap.size (fun k_ => some k_ ≠ (v3_ : Value).ownBlock ∧ some k_ ≠ (v4_ : Value).ownBlock) v2_ r3 ∧ Kd.R (Kd.int .i64) 3 w' w.heap.size (fun k_ => some k_ ≠ (v2_ : Value).ownBlock ∧ some k_ ≠ (v4_ : Value).ownBlock) v3_ r4 ∧ Kd.R (Kd.int .i64) 3 w' w.heap.size (fun k_ => some k_ ≠ (v2_ : Value).ownBlock ∧ some k_ ≠ (v3_ : Value).ownBlock) v4_ r5 ∧ Below w.heap.size w w' := by
 have hu29 := Try.underlying29
 have hu26 := Try.underlying26
 have HR0_1 := Aside0.mk hr0_1
 have HC0_1 := Aside0.mk hc0_1
 clear hr0_1 hc0_1
 have HR0_2 := Aside0.mk hr0_2
 have HC0_2 := Aside0.mk hc0_2
 clear hr0_2 hc0_2
 have HR0_3 := Aside0.mk hr0_3
 have HC0_3 := Aside0.mk hc0_3
 clear hr0_3 hc0_3
 have HR0_4 := Aside0.mk hr0_4
 have HC0_4 := Aside0.mk hc0_4
 clear hr0_4 hc0_4
 have HB := Aside0.mk (Below.refl w.heap.size w)
 have H : ((impl_copyMesh.f a0_0 l0_1).bind fun bt145 => ((slices_Clone_int_int.f l0_2).bind fun t149 => ((slices_Clone_int_int.f l0_3).bind fun t152 => ((slices_Clone_int_int.f l0_4).bind fun t155 => (some (bt145.1, bt145.2, t149, t152, t155)))))) = some (r1, r2, r3, r4, r5) := h
 clear h
 replace H := Option.bind_eq_some_iff.mp H
 obtain ⟨⟨t145, t146⟩, A20, H⟩ := H
 (try dsimp only at H)
 have A2 := Aside0.mk A20
 clear A20
 replace H := Option.bind_eq_some_iff.mp H
 obtain ⟨t149, A30, H⟩ := H
 (try dsimp only at H)
 have A3 := Aside0.mk A30
 clear A30
 replace H := Option.bind_eq_some_iff.mp H
 obtain ⟨t152, A40, H⟩ := H
 (try dsimp only at H)
 have A4 := Aside0.mk A40
 clear A40
 replace H := Option.bind_eq_some_iff.mp H
 obtain ⟨t155, A50, H⟩ := H
 (try dsimp only at H)
 have A5 := Aside0.mk A50
 clear A50
 simp only [Option.some.injEq, Prod.mk.injEq] at H
 obtain ⟨rfl, rfl, rfl, rfl, rfl⟩ := H
 go_enter Try.func48, Try.ntmps48
 try go_wp2_with (first | ((with_reducible refine gate_dst (N := 1) rfl ?_); refine box_event ?hg (N := 1) ?hd (cs := #[.int .i64 a0_0, .slice A0_1 l0_1.length c0_1, .slice A0_2 l0_2.length c0_2, .slice A0_3 l0_3.length c0_3, .slice A0_4 l0_4.length c0_4]) (t := 29) ?hr ?_; (case hd => rfl); (case hg => rfl); (case hr => first | (go_simp; done) | (go_simp; rfl)); intro gb143 hg w6 hbox hb; have n0_ := Aside0.mk (bst_ HB.out hb); have n1_ := Aside0.mk (hbox); have n2_ := Aside0.mk ((by rw [hg]; exact (bsz_ HB.out) : w.heap.size ≤ gb143)); have n3_ := Aside0.mk ((by rw [hg]; exact (bsz_ HB.out) : w.heap.size ≤ gb143)); clear HB; have HB := n0_; have BK143 := n1_; have GW143 := n2_; have GE143 := n3_; clear n0_ n1_ n2_ n3_; clear hb hbox hg) | ((with_reducible refine gate_dst (N := 2) rfl ?_); refine box_event ?hg (N := 2) ?hd (cs := #[.int .i64 0, .slice none 0 0, .slice none 0 0, .slice none 0 0, .slice none 0 0]) (t := 29) ?hr ?_; (case hd => rfl); (case hg => rfl); (case hr => first | (go_simp; done) | (go_simp; rfl)); intro gb144 hg w7 hbox hb; have n0_ := Aside0.mk (blk_bel BK143.out hb); have n1_ := Aside0.mk (below_step (by repeat (first | (with_reducible first | exact HB.out | apply below_alloc | apply pw_below_drewN | apply below_drew1 | refine below_set ?_ GE143.out) | exact HB.out)) hb); have n2_ := Aside0.mk (hbox); have n3_ := Aside0.mk ((by rw [hg]; exact (below_size (by repeat (first | (with_reducible first | exact HB.out | apply below_alloc | apply pw_below_drewN | apply below_drew1 | refine below_set ?_ GE143.out) | exact HB.out))) : w.heap.size ≤ gb144)); have n4_ := Aside0.mk ((by rw [hg]; exact (below_size (by repeat (first | (with_reducible first | exact HB.out | apply below_alloc | apply pw_below_drewN | apply below_drew1 | refine below_set ?_ GE143.out) | exact HB.out))) : w.heap.size ≤ gb144)); have n5_ := Aside0.mk ((by rw [hg]; exact Nat.ne_of_lt (blk_lt (g := gb143) (o := .cells #[.int .i64 a0_0, .slice A0_1 l0_1.length c0_1, .slice A0_2 l0_2.length c0_2, .slice A0_3 l0_3.length c0_3, .slice A0_4 l0_4.length c0_4] 29 (0, 0)) (by (with_reducible repeat first | apply blk_drewN | apply blk_drew | apply blk_alloc); exact BK143.out)) : gb143 ≠ gb144)); have n6_ := Aside0.mk ((by rw [hg]; exact Nat.ne_of_gt (blk_lt (g := gb143) (o := .cells #[.int .i64 a0_0, .slice A0_1 l0_1.length c0_1, .slice A0_2 l0_2.length c0_2, .slice A0_3 l0_3.length c0_3, .slice A0_4 l0_4.length c0_4] 29 (0, 0)) (by (with_reducible repeat first | apply blk_drewN | apply blk_drew | apply blk_alloc); exact BK143.out)) : gb144 ≠ gb143)); clear BK143; clear HB; have BK143 := n0_; have HB := n1_; have BK144 := n2_; have GW144 := n3_; have GE144 := n4_; have NB143_144 := n5_; have NB144_143 := n6_; clear n0_ n1_ n2_ n3_ n4_ n5_ n6_; clear hb hbox hg))
 have n0_ := Aside0.mk (blk_drew BK143.out)
 have n1_ := Aside0.mk (blk_drew BK144.out)
 have n2_ := Aside0.mk (below_drew1 HB.out)
 clear BK143
 clear BK144
 clear HB
 have BK143 := n0_
 have BK144 := n1_
 have HB := n2_
 clear n0_ n1_ n2_
 refine start_ (n := 14) (S := fun w' => w'.cell? ⟨gb143, 0, none⟩ = some (.int .i64 a0_0) ∧ w'.cell? ⟨gb143, 1, none⟩ = some (.slice A0_1 l0_1.length c0_1) ∧ w'.cell? ⟨gb143, 2, none⟩ = some (.slice A0_2 l0_2.length c0_2) ∧ w'.cell? ⟨gb143, 3, none⟩ = some (.slice A0_3 l0_3.length c0_3) ∧ w'.cell? ⟨gb143, 4, none⟩ = some (.slice A0_4 l0_4.length c0_4)) (ds := []) #[N_,N_,N_,N_,N_,N_,N_,N_,N_,N_,N_,N_,N_,N_] (by kernel_rfl) rfl rfl ⟨(blk_cell BK143.out 0).trans rfl, (blk_cell BK143.out 1).trans rfl, (blk_cell BK143.out 2).trans rfl, (blk_cell BK143.out 3).trans rfl, (blk_cell BK143.out 4).trans rfl⟩ (fun hHeld => ?_); refine with_tabW impl_copyState.tab1 impl_copyState.bits1 (fun HT_ HW_ => ?_)
 generalize w7.drew = w8 at BK143 BK144 HB hHeld ⊢
 refine pu_ HT_.out 0 3 #[Y_,N_,N_,N_,N_,N_,N_,N_,N_,N_,N_,N_,N_,N_] ?_
 refine pu_ HT_.out 3 6 #[Y_,N_,N_,Y_,N_,N_,N_,N_,N_,N_,N_,N_,N_,N_] ?_
 refine pu_ HT_.out 6 9 #[Y_,N_,N_,Y_,N_,N_,Y_,N_,N_,N_,N_,N_,N_,N_] ?_
 refine pu_ HT_.out 9 12 #[Y_,N_,N_,Y_,N_,N_,Y_,N_,N_,Y_,N_,N_,N_,N_] ?_
 refine tk_ HT_.out HW_.out hHeld 1 4 #[Y_,Y_,N_,Y_,N_,N_,Y_,N_,N_,Y_,N_,N_,N_,N_] ?_
 refine tk_ HT_.out HW_.out hHeld 4 7 #[Y_,Y_,N_,Y_,Y_,N_,Y_,N_,N_,Y_,N_,N_,N_,N_] ?_
 refine tk_ HT_.out HW_.out hHeld 7 10 #[Y_,Y_,N_,Y_,Y_,N_,Y_,Y_,N_,Y_,N_,N_,N_,N_] ?_
 refine tk_ HT_.out HW_.out hHeld 10 13 #[Y_,Y_,N_,Y_,Y_,N_,Y_,Y_,N_,Y_,Y_,N_,N_,N_] ?_
 refine one_ (i := 2) (N := some 5) #[Y_,Y_,Y_,Y_,Y_,N_,Y_,Y_,N_,Y_,Y_,N_,N_,N_] rfl rfl (one_of HT_.out (by kernel_rfl)) (by decide) (fun K hK => ?_)
 refine goes_ Try.func74 (by kernel_rfl) rfl #[.agg #[.int .i64 a0_0, .slice A0_1 l0_1.length c0_1]] (by rfl) rfl rfl (by (try simp only [List.map_toArray, List.map_cons, List.map_nil]); first | done | rfl | (simp only [List.length_drop, List.length_take]; rfl)) ?_
 with_reducible refine (impl_copyMesh.calls a0_0 _ _ l0_1 t145 t146 _ ?side1 ?side2 A2.out).mono ?_
 (case side1 => repeat (first | exact (Kd.C_below HR0_1.out HB.out) | (with_reducible refine Kd.C_alloc ?_ _) | (with_reducible refine Kd.C_drewN ?_ _) | (with_reducible refine Kd.C_drew ?_)))
 (case side2 => exact HC0_1.out)
 rintro e w9 ⟨v147, rfl, ho0, hb⟩
 refine ⟨_, rfl, ?_⟩
 have n0_ := Aside0.mk (Kd.R_lower ho0 (below_size (by repeat (first | (with_reducible first | exact HB.out | apply below_alloc | apply pw_below_drewN | apply below_drew1 | refine below_set ?_ GE143.out | refine below_set ?_ GE144.out) | exact HB.out))))
 have n1_ := Aside0.mk (blk_bel BK143.out hb)
 have n2_ := Aside0.mk (blk_bel BK144.out hb)
 have n3_ := Aside0.mk (below_step (by repeat (first | (with_reducible first | exact HB.out | apply below_alloc | apply pw_below_drewN | apply below_drew1 | refine below_set ?_ GE143.out | refine below_set ?_ GE144.out) | exact HB.out)) hb)
 clear BK143
 clear BK144
 clear HB
 have HO148 := n0_
 have BK143 := n1_
 have BK144 := n2_
 have HB := n3_
 clear n0_ n1_ n2_ n3_
 (try clear hb)
 (try clear hb2)
 (try clear hk)
 (try clear hi)
 (try clear ho0)
 refine hK.out _ _ ⟨(blk_cell BK143.out 0).trans rfl, (blk_cell BK143.out 1).trans rfl, (blk_cell BK143.out 2).trans rfl, (blk_cell BK143.out 3).trans rfl, (blk_cell BK143.out 4).trans rfl⟩ (fun hHeld => ?_)
 clear hK K
 refine norm_ (a' := ?_) ?_ ?_
 rotate_left
 ·
  show Act.put _ (some 5) _ = _
  simp only [Act.put, q1_, q2_, q3_, i64_w, i32_w]
  rfl
 refine one_ (i := 5) (N := some 8) #[Y_,Y_,Y_,Y_,Y_,Y_,Y_,Y_,N_,Y_,Y_,N_,N_,N_] rfl rfl (one_of HT_.out (by kernel_rfl)) (by decide) (fun K hK => ?_)
 refine goes_ Try.func75 (by kernel_rfl) rfl #[.slice A0_2 l0_2.length c0_2] (by rfl) rfl rfl (by (try simp only [List.map_toArray, List.map_cons, List.map_nil]); first | done | rfl | (simp only [List.length_drop, List.length_take]; rfl)) ?_
 with_reducible refine (slices_Clone_int_int.calls _ _ l0_2 t149 _ ?side1 ?side2 A3.out).mono ?_
 (case side1 => repeat (first | exact (Kd.C_below HR0_2.out HB.out) | (with_reducible refine Kd.C_alloc ?_ _) | (with_reducible refine Kd.C_drewN ?_ _) | (with_reducible refine Kd.C_drew ?_)))
 (case side2 => exact HC0_2.out)
 rintro e w10 ⟨v150, rfl, ho0, hb⟩
 refine ⟨_, rfl, ?_⟩
 have n0_ := Aside0.mk (R_bel HO148.out hb)
 have n1_ := Aside0.mk (Kd.R_lower ho0 (below_size (by repeat (first | (with_reducible first | exact HB.out | apply below_alloc | apply pw_below_drewN | apply below_drew1 | refine below_set ?_ GE143.out | refine below_set ?_ GE144.out) | exact HB.out))))
 have n2_ := Aside0.mk (blk_bel BK143.out hb)
 have n3_ := Aside0.mk (blk_bel BK144.out hb)
 have n4_ := Aside0.mk (below_step (by repeat (first | (with_reducible first | exact HB.out | apply below_alloc | apply pw_below_drewN | apply below_drew1 | refine below_set ?_ GE143.out | refine below_set ?_ GE144.out) | exact HB.out)) hb)
 clear HO148
 clear BK143
 clear BK144
 clear HB
 have HO148 := n0_
 have HO151 := n1_
 have BK143 := n2_
 have BK144 := n3_
 have HB := n4_
 clear n0_ n1_ n2_ n3_ n4_
 (try clear hb)
 (try clear hb2)
 (try clear hk)
 (try clear hi)
 (try clear ho0)
 refine hK.out _ _ ⟨(blk_cell BK143.out 0).trans rfl, (blk_cell BK143.out 1).trans rfl, (blk_cell BK143.out 2).trans rfl, (blk_cell BK143.out 3).trans rfl, (blk_cell BK143.out 4).trans rfl⟩ (fun hHeld => ?_)
 clear hK K
 refine norm_ (a' := ?_) ?_ ?_
 rotate_left
 ·
  show Act.put _ (some 8) _ = _
  simp only [Act.put, q1_, q2_, q3_, i64_w, i32_w]
  rfl
 refine one_ (i := 8) (N := some 11) #[Y_,Y_,Y_,Y_,Y_,Y_,Y_,Y_,Y_,Y_,Y_,N_,N_,N_] rfl rfl (one_of HT_.out (by kernel_rfl)) (by decide) (fun K hK => ?_)
 refine goes_ Try.func75 (by kernel_rfl) rfl #[.slice A0_3 l0_3.length c0_3] (by rfl) rfl rfl (by (try simp only [List.map_toArray, List.map_cons, List.map_nil]); first | done | rfl | (simp only [List.length_drop, List.length_take]; rfl)) ?_
 with_reducible refine (slices_Clone_int_int.calls _ _ l0_3 t152 _ ?side1 ?side2 A4.out).mono ?_
 (case side1 => repeat (first | exact (Kd.C_below HR0_3.out HB.out) | (with_reducible refine Kd.C_alloc ?_ _) | (with_reducible refine Kd.C_drewN ?_ _) | (with_reducible refine Kd.C_drew ?_)))
 (case side2 => exact HC0_3.out)
 rintro e w11 ⟨v153, rfl, ho0, hb⟩
 refine ⟨_, rfl, ?_⟩
 have n0_ := Aside0.mk (R_bel HO148.out hb)
 have n1_ := Aside0.mk (Kd.R_elder' (by (with_reducible repeat first | apply Kd.R_alloc | apply Kd.R_drewN | apply Kd.R_drew); exact HO151.out) (Kd.R_base ho0) hb)
 have n2_ := Aside0.mk (Kd.R_lower (Kd.R_new' ho0 (Kd.R_lt (by (with_reducible repeat first | apply Kd.R_alloc | apply Kd.R_drewN | apply Kd.R_drew); exact HO151.out))) (below_size (by repeat (first | (with_reducible first | exact HB.out | apply below_alloc | apply pw_below_drewN | apply below_drew1 | refine below_set ?_ GE143.out | refine below_set ?_ GE144.out) | exact HB.out))))
 have n3_ := Aside0.mk (blk_bel BK143.out hb)
 have n4_ := Aside0.mk (blk_bel BK144.out hb)
 have n5_ := Aside0.mk (below_step (by repeat (first | (with_reducible first | exact HB.out | apply below_alloc | apply pw_below_drewN | apply below_drew1 | refine below_set ?_ GE143.out | refine below_set ?_ GE144.out) | exact HB.out)) hb)
 clear HO148
 clear HO151
 clear BK143
 clear BK144
 clear HB
 have HO148 := n0_
 have HO151 := n1_
 have HO154 := n2_
 have BK143 := n3_
 have BK144 := n4_
 have HB := n5_
 clear n0_ n1_ n2_ n3_ n4_ n5_
 (try clear hb)
 (try clear hb2)
 (try clear hk)
 (try clear hi)
 (try clear ho0)
 refine hK.out _ _ ⟨(blk_cell BK143.out 0).trans rfl, (blk_cell BK143.out 1).trans rfl, (blk_cell BK143.out 2).trans rfl, (blk_cell BK143.out 3).trans rfl, (blk_cell BK143.out 4).trans rfl⟩ (fun hHeld => ?_)
 clear hK K
 refine norm_ (a' := ?_) ?_ ?_
 rotate_left
 ·
  show Act.put _ (some 11) _ = _
  simp only [Act.put, q1_, q2_, q3_, i64_w, i32_w]
  rfl
 refine one_ (i := 11) (N := some 14) #[Y_,Y_,Y_,Y_,Y_,Y_,Y_,Y_,Y_,Y_,Y_,Y_,N_,N_] rfl rfl (one_of HT_.out (by kernel_rfl)) (by decide) (fun K hK => ?_)
 refine goes_ Try.func75 (by kernel_rfl) rfl #[.slice A0_4 l0_4.length c0_4] (by rfl) rfl rfl (by (try simp only [List.map_toArray, List.map_cons, List.map_nil]); first | done | rfl | (simp only [List.length_drop, List.length_take]; rfl)) ?_
 with_reducible refine (slices_Clone_int_int.calls _ _ l0_4 t155 _ ?side1 ?side2 A5.out).mono ?_
 (case side1 => repeat (first | exact (Kd.C_below HR0_4.out HB.out) | (with_reducible refine Kd.C_alloc ?_ _) | (with_reducible refine Kd.C_drewN ?_ _) | (with_reducible refine Kd.C_drew ?_)))
 (case side2 => exact HC0_4.out)
 rintro e w12 ⟨v156, rfl, ho0, hb⟩
 refine ⟨_, rfl, ?_⟩
 have n0_ := Aside0.mk (R_bel HO148.out hb)
 have n1_ := Aside0.mk (Kd.R_elder' (by (with_reducible repeat first | apply Kd.R_alloc | apply Kd.R_drewN | apply Kd.R_drew); exact HO151.out) (Kd.R_base ho0) hb)
 have n2_ := Aside0.mk (Kd.R_elder' (by (with_reducible repeat first | apply Kd.R_alloc | apply Kd.R_drewN | apply Kd.R_drew); exact HO154.out) (Kd.R_base ho0) hb)
 have n3_ := Aside0.mk (Kd.R_lower (Kd.R_new' (Kd.R_new' ho0 (Kd.R_lt (by (with_reducible repeat first | apply Kd.R_alloc | apply Kd.R_drewN | apply Kd.R_drew); exact HO151.out))) (Kd.R_lt (by (with_reducible repeat first | apply Kd.R_alloc | apply Kd.R_drewN | apply Kd.R_drew); exact HO154.out))) (below_size (by repeat (first | (with_reducible first | exact HB.out | apply below_alloc | apply pw_below_drewN | apply below_drew1 | refine below_set ?_ GE143.out | refine below_set ?_ GE144.out) | exact HB.out))))
 have n4_ := Aside0.mk (blk_bel BK143.out hb)
 have n5_ := Aside0.mk (blk_bel BK144.out hb)
 have n6_ := Aside0.mk (below_step (by repeat (first | (with_reducible first | exact HB.out | apply below_alloc | apply pw_below_drewN | apply below_drew1 | refine below_set ?_ GE143.out | refine below_set ?_ GE144.out) | exact HB.out)) hb)
 clear HO148
 clear HO151
 clear HO154
 clear BK143
 clear BK144
 clear HB
 have HO148 := n0_
 have HO151 := n1_
 have HO154 := n2_
 have HO157 := n3_
 have BK143 := n4_
 have BK144 := n5_
 have HB := n6_
 clear n0_ n1_ n2_ n3_ n4_ n5_ n6_
 (try clear hb)
 (try clear hb2)
 (try clear hk)
 (try clear hi)
 (try clear ho0)
 obtain ⟨Ao13, co13, eo13⟩ := Kd.R_slice HO157.out
 (first | subst eo13 | (injection eo13 with f1_ f2_ f3_; have f4_ := f1_.symm; have f5_ := f3_.symm; clear f1_ f2_ f3_; subst f4_; subst f5_))
 obtain ⟨Ao14, co14, eo14⟩ := Kd.R_slice HO154.out
 (first | subst eo14 | (injection eo14 with f1_ f2_ f3_; have f4_ := f1_.symm; have f5_ := f3_.symm; clear f1_ f2_ f3_; subst f4_; subst f5_))
 obtain ⟨Ao15, co15, eo15⟩ := Kd.R_slice HO151.out
 (first | subst eo15 | (injection eo15 with f1_ f2_ f3_; have f4_ := f1_.symm; have f5_ := f3_.symm; clear f1_ f2_ f3_; subst f4_; subst f5_))
 obtain ⟨Ao16, co16, eo16⟩ := Kd.R_slice HO148.out
 (first | subst eo16 | (injection eo16 with f1_ f2_ f3_; have f4_ := f1_.symm; have f5_ := f3_.symm; clear f1_ f2_ f3_; subst f4_; subst f5_))
 refine hK.out _ _ ⟨(blk_cell BK143.out 0).trans rfl, (blk_cell BK143.out 1).trans rfl, (blk_cell BK143.out 2).trans rfl, (blk_cell BK143.out 3).trans rfl, (blk_cell BK143.out 4).trans rfl⟩ (fun hHeld => ?_)
 clear hK K
 refine norm_ (a' := ?_) ?_ ?_
 rotate_left
 ·
  show Act.put _ (some 14) _ = _
  simp only [Act.put, q1_, q2_, q3_, i64_w, i32_w]
  rfl
 refine pu_ HT_.out 12 15 #[Y_,Y_,Y_,Y_,Y_,Y_,Y_,Y_,Y_,Y_,Y_,Y_,Y_,N_] ?_
 refine one_ (i := 13) (N := none) #[Y_,Y_,Y_,Y_,Y_,Y_,Y_,Y_,Y_,Y_,Y_,Y_,Y_,Y_] rfl rfl (one_of HT_.out (by kernel_rfl)) (by decide) (fun K hK => ?_)
 have hs17 : w12.cell? ⟨gb144, 0, none⟩ = some (.int .i64 0) := (blk_cell BK144.out 0).trans rfl
 have hfs17 := blk_frozen BK144.out 0
 have hns17_0 := NB143_144.out
 have hms17_0 := NB144_143.out
 have hs18 : w12.cell? ⟨gb144, 1, none⟩ = some (.slice none 0 0) := (blk_cell BK144.out 1).trans rfl
 have hfs18 := blk_frozen BK144.out 1
 have hns18_0 := NB143_144.out
 have hms18_0 := NB144_143.out
 have hs19 : w12.cell? ⟨gb144, 2, none⟩ = some (.slice none 0 0) := (blk_cell BK144.out 2).trans rfl
 have hfs19 := blk_frozen BK144.out 2
 have hns19_0 := NB143_144.out
 have hms19_0 := NB144_143.out
 have hs20 : w12.cell? ⟨gb144, 3, none⟩ = some (.slice none 0 0) := (blk_cell BK144.out 3).trans rfl
 have hfs20 := blk_frozen BK144.out 3
 have hns20_0 := NB143_144.out
 have hms20_0 := NB144_143.out
 have hs21 : w12.cell? ⟨gb144, 4, none⟩ = some (.slice none 0 0) := (blk_cell BK144.out 4).trans rfl
 have hfs21 := blk_frozen BK144.out 4
 have hns21_0 := NB143_144.out
 have hms21_0 := NB144_143.out
 refine skip_ (w1 := ?_) (by rfl) rfl ?_ ?_
 rotate_left
 ·
  go_simp
  rfl
 refine hK.out _ _ ⟨cell_far5 (g := gb144) NB143_144.out (hHeld.1), cell_far5 (g := gb144) NB143_144.out (hHeld.2.1), cell_far5 (g := gb144) NB143_144.out (hHeld.2.2.1), cell_far5 (g := gb144) NB143_144.out (hHeld.2.2.2.1), cell_far5 (g := gb144) NB143_144.out (hHeld.2.2.2.2)⟩ (fun hHeld => ?_)
 clear hK K
 refine done_ (done_of HT_.out (by kernel_rfl)) ?_
 try go_wp2
 refine bodyPost_ret (results_cell_row rfl _ _ gb144 29 #[.int .i64 t145, .slice Ao16 t146.length co16, .slice Ao15 t149.length co15, .slice Ao14 t152.length co14, .slice Ao13 t155.length co13] (0, 0) _ rfl (by (with_reducible repeat first | apply blk_drewN | apply blk_drew | apply blk_alloc); refine blk_put (cs := #[.int .i64 t145, .slice Ao16 t146.length co16, .slice Ao15 t149.length co15, .slice Ao14 t152.length co14, .slice none 0 0]) ?_ 4 _ rfl; (with_reducible repeat first | apply blk_drewN | apply blk_drew | apply blk_alloc); refine blk_put (cs := #[.int .i64 t145, .slice Ao16 t146.length co16, .slice Ao15 t149.length co15, .slice none 0 0, .slice none 0 0]) ?_ 3 _ rfl; (with_reducible repeat first | apply blk_drewN | apply blk_drew | apply blk_alloc); refine blk_put (cs := #[.int .i64 t145, .slice Ao16 t146.length co16, .slice none 0 0, .slice none 0 0, .slice none 0 0]) ?_ 2 _ rfl; (with_reducible repeat first | apply blk_drewN | apply blk_drew | apply blk_alloc); refine blk_put (cs := #[.int .i64 t145, .slice none 0 0, .slice none 0 0, .slice none 0 0, .slice none 0 0]) ?_ 1 _ rfl; (with_reducible repeat first | apply blk_drewN | apply blk_drew | apply blk_alloc); refine blk_put (cs := #[.int .i64 0, .slice none 0 0, .slice none 0 0, .slice none 0 0, .slice none 0 0]) ?_ 0 _ rfl; (with_reducible repeat first | apply blk_drewN | apply blk_drew | apply blk_alloc); exact BK144.out) Try.underlying29 rfl (by kernel_rfl)) rfl ?_
 exact ⟨_, _, _, _, by first | rfl | (simp [*, errW_none, errW_some] <;> rfl), by (with_reducible repeat first | apply Kd.R_alloc | apply Kd.R_drewN | apply Kd.R_drew); exact Kd.R_mono (Kd.R_far (p := ⟨gb144, 4, none⟩) (Kd.R_far (p := ⟨gb144, 3, none⟩) (Kd.R_far (p := ⟨gb144, 2, none⟩) (Kd.R_far (p := ⟨gb144, 1, none⟩) (Kd.R_far (p := ⟨gb144, 0, none⟩) (Kd.R_types HO148.out BK144.out (by decide)) (fun _ hk => hk.2) (.int .i64 t145)) (fun _ hk => hk.2) (.slice Ao16 t146.length co16)) (fun _ hk => hk.2) (.slice Ao15 t149.length co15)) (fun _ hk => hk.2) (.slice Ao14 t152.length co14)) (fun _ hk => hk.2) (.slice Ao13 t155.length co13)) (fun _ hk => trivial), by (with_reducible repeat first | apply Kd.R_alloc | apply Kd.R_drewN | apply Kd.R_drew); exact Kd.R_mono (Kd.R_far (p := ⟨gb144, 4, none⟩) (Kd.R_far (p := ⟨gb144, 3, none⟩) (Kd.R_far (p := ⟨gb144, 2, none⟩) (Kd.R_far (p := ⟨gb144, 1, none⟩) (Kd.R_far (p := ⟨gb144, 0, none⟩) (Kd.R_types HO151.out BK144.out (by decide)) (fun _ hk => hk.2) (.int .i64 t145)) (fun _ hk => hk.2) (.slice Ao16 t146.length co16)) (fun _ hk => hk.2) (.slice Ao15 t149.length co15)) (fun _ hk => hk.2) (.slice Ao14 t152.length co14)) (fun _ hk => hk.2) (.slice Ao13 t155.length co13)) (fun _ hk => ⟨hk.1.1.2, hk.1.2⟩), by (with_reducible repeat first | apply Kd.R_alloc | apply Kd.R_drewN | apply Kd.R_drew); exact Kd.R_mono (Kd.R_far (p := ⟨gb144, 4, none⟩) (Kd.R_far (p := ⟨gb144, 3, none⟩) (Kd.R_far (p := ⟨gb144, 2, none⟩) (Kd.R_far (p := ⟨gb144, 1, none⟩) (Kd.R_far (p := ⟨gb144, 0, none⟩) (Kd.R_types HO154.out BK144.out (by decide)) (fun _ hk => hk.2) (.int .i64 t145)) (fun _ hk => hk.2) (.slice Ao16 t146.length co16)) (fun _ hk => hk.2) (.slice Ao15 t149.length co15)) (fun _ hk => hk.2) (.slice Ao14 t152.length co14)) (fun _ hk => hk.2) (.slice Ao13 t155.length co13)) (fun _ hk => ⟨hk.1.1.2, hk.1.2⟩), by (with_reducible repeat first | apply Kd.R_alloc | apply Kd.R_drewN | apply Kd.R_drew); exact Kd.R_mono (Kd.R_far (p := ⟨gb144, 4, none⟩) (Kd.R_far (p := ⟨gb144, 3, none⟩) (Kd.R_far (p := ⟨gb144, 2, none⟩) (Kd.R_far (p := ⟨gb144, 1, none⟩) (Kd.R_far (p := ⟨gb144, 0, none⟩) (Kd.R_types HO157.out BK144.out (by decide)) (fun _ hk => hk.2) (.int .i64 t145)) (fun _ hk => hk.2) (.slice Ao16 t146.length co16)) (fun _ hk => hk.2) (.slice Ao15 t149.length co15)) (fun _ hk => hk.2) (.slice Ao14 t152.length co14)) (fun _ hk => hk.2) (.slice Ao13 t155.length co13)) (fun _ hk => ⟨hk.1.1.2, hk.1.2⟩), by repeat (first | (with_reducible first | exact HB.out | apply below_alloc | apply pw_below_drewN | apply below_drew1 | refine below_set ?_ GE143.out | refine below_set ?_ GE144.out) | exact HB.out)⟩

def impl_Mesh_has.f (a0_0 : Int) (l0_1 : List (S36)) (a1 : Int) : Option (Bool) := (impl_within.f a1 0 (wrap64 ((l0_1.length : Int) - 1))).bind fun t159 => (some t159)
set_option maxHeartbeats 8000000 in
set_option maxRecDepth 100000 in
theorem impl_Mesh_has.calls (a0_0 : Int) (A0_1 : Option Addr) (c0_1 : Nat) (l0_1 : List (S36)) (a1 : Int) (r : Bool) (w : World) (hr0_1 : Kd.C k36 w A0_1 l0_1.length l0_1) (hc0_1 : l0_1.length ≤ c0_1) (h : impl_Mesh_has.f a0_0 l0_1 a1 = some r) :
  Calls Try.prog 78 #[.agg #[.int .i64 a0_0, .slice A0_1 l0_1.length c0_1], .int .i64 a1] w fun e w' => e = .returned (.bool r) ∧ Below w.heap.size w w' := by
 have hu26 := Try.underlying26
 have HR0_1 := Aside0.mk hr0_1
 have HC0_1 := Aside0.mk hc0_1
 clear hr0_1 hc0_1
 have HB := Aside0.mk (Below.refl w.heap.size w)
 have H : ((impl_within.f a1 0 (wrap64 ((l0_1.length : Int) - 1))).bind fun t159 => (some t159)) = some r := h
 clear h
 replace H := Option.bind_eq_some_iff.mp H
 obtain ⟨t159, A30, H⟩ := H
 replace H : (some t159) = some r := H
 have A3 := Aside0.mk A30
 clear A30
 obtain rfl := Option.some.inj H
 go_enter Try.func78, Try.ntmps78
 go_wp2_with (first | ((with_reducible refine gate_dst (N := 2) rfl ?_); refine box_event ?hg (N := 2) ?hd (cs := #[.int .i64 a0_0, .slice A0_1 l0_1.length c0_1]) (t := 26) ?hr ?_; (case hd => rfl); (case hg => rfl); (case hr => first | (go_simp; done) | (go_simp; rfl)); intro gb158 hg w4 hbox hb; have n0_ := Aside0.mk (bst_ HB.out hb); have n1_ := Aside0.mk (hbox); have n2_ := Aside0.mk ((by rw [hg]; exact (bsz_ HB.out) : w.heap.size ≤ gb158)); have n3_ := Aside0.mk ((by rw [hg]; exact (bsz_ HB.out) : w.heap.size ≤ gb158)); clear HB; have HB := n0_; have BK158 := n1_; have GW158 := n2_; have GE158 := n3_; clear n0_ n1_ n2_ n3_; clear hb hbox hg; have hcz5_0 : w4.cell? ⟨gb158, 0, none⟩ = some (.int .i64 a0_0) := (blk_cell BK158.out 0).trans rfl; have hcz5_1 : w4.cell? ⟨gb158, 1, none⟩ = some (.slice A0_1 l0_1.length c0_1) := (blk_cell BK158.out 1).trans rfl; have hfz5_0 := blk_frozen BK158.out 0; have hfz5_1 := blk_frozen BK158.out 1) | ((with_reducible refine gate_callee (f := 70) rfl ?_); refine goesL_ (some 10) rfl rfl Try.func70 (by kernel_rfl) rfl #[.int .i64 a1, .int .i64 0, .int .i64 (wrap64 ((l0_1.length : Int) - 1))] rfl (by (try simp only [List.map_toArray, List.map_cons, List.map_nil]); first | done | rfl | (simp only [List.length_drop, List.length_take]; rfl)) ?_; (with_reducible refine (impl_within.calls a1 0 (wrap64 ((l0_1.length : Int) - 1)) t159 _ A3.out).mono ?_); rintro e w' ⟨rfl, ⟨nd, rfl⟩⟩; refine ⟨_, rfl, ?_⟩))
 go_ret
 exact ⟨by first | rfl | (simp [*, errW_none, errW_some] <;> rfl), by repeat (first | (with_reducible first | exact HB.out | apply below_alloc | apply pw_below_drewN | apply below_drew1 | refine below_set ?_ GE158.out) | exact HB.out)⟩

abbrev set3 (w : World) (g : Nat) (a b c : Value) : World := ((w.setCell ⟨g, 0, none⟩ a).setCell ⟨g, 1, none⟩ b).setCell ⟨g, 2, none⟩ c
theorem set3_old {w : World} {g : Nat} (a b c : Value) (k : Nat) (h : k ≠ g) : (set3 w g a b c).heap[k]? = w.heap[k]? := by
  simp only [set3, Below.heap_setCell _ _ _ _ (show k ≠ (⟨g, 2, none⟩ : Addr).block from h), Below.heap_setCell _ _ _ _ (show k ≠ (⟨g, 1, none⟩ : Addr).block from h), Below.heap_setCell _ _ _ _ (show k ≠ (⟨g, 0, none⟩ : Addr).block from h)]
theorem set3_here {w : World} {g t : Nat} {x0 x1 x2 : Value} (h : w.heap[g]? = some (.cells #[x0, x1, x2] t (0, 0))) (a b c : Value) : (set3 w g a b c).heap[g]? = some (.cells #[a, b, c] t (0, 0)) := blk_put (blk_put (blk_put h 0 a rfl) 1 b rfl) 2 c rfl
theorem set3_blk {w : World} {g g' : Nat} {o : Obj} (h : w.heap[g']? = some o) (hn : g' ≠ g) {a b c : Value} : (set3 w g a b c).heap[g']? = some o := (set3_old a b c g' hn).trans h
theorem set3_below {w0 w : World} {B g : Nat} (h : Below B w0 w) (hg : B ≤ g) {a b c : Value} : Below B w0 (set3 w g a b c) := ((h.setCell hg a).setCell hg b).setCell hg c
theorem cells3 {w : World} {g t : Nat} {a b c : Value} (h : w.heap[g]? = some (.cells #[a, b, c] t (0, 0))) : w.cell? ⟨g, 0, none⟩ = some a ∧ w.cell? ⟨g, 1, none⟩ = some b ∧ w.cell? ⟨g, 2, none⟩ = some c := ⟨(blk_cell h 0).trans rfl, (blk_cell h 1).trans rfl, (blk_cell h 2).trans rfl⟩
theorem free3 {w : World} {g t : Nat} {cs : Array Value} (h : w.heap[g]? = some (.cells cs t (0, 0))) : w.frozen? ⟨g, 0, none⟩ = false ∧ w.frozen? ⟨g, 1, none⟩ = false ∧ w.frozen? ⟨g, 2, none⟩ = false := ⟨blk_frozen h 0, blk_frozen h 1, blk_frozen h 2⟩
def impl_ParentOf.f (a0_0 : Int) (a0_1 : Int) (a0_2 : Int) : Option (Int × Int × Int × Bool) := (impl_IdOk.f a0_0 a0_1 a0_2).bind fun t162 => (if t162 = true then (if a0_1 = 0 then (some (0, 0, 0, false)) else (some (a0_0, wrap64 (a0_1 - 1), wrap64 (Int.tdiv a0_2 2), true))) else (some (0, 0, 0, false)))
set_option maxHeartbeats 8000000 in
set_option maxRecDepth 100000 in
theorem impl_ParentOf.calls (a0_0 : Int) (a0_1 : Int) (a0_2 : Int) (r1 : Int) (r2 : Int) (r3 : Int) (r4 : Bool) (w : World) (h : impl_ParentOf.f a0_0 a0_1 a0_2 = some (r1, r2, r3, r4)) :
  Calls Try.prog 120 #[.agg #[.int .i64 a0_0, .int .i64 a0_1, .int .i64 a0_2]] w fun e w' => e = .returned (.tuple #[.agg #[.int .i64 r1, .int .i64 r2, .int .i64 r3], .bool r4]) ∧ Below w.heap.size w w' := by
  have hu36 := Try.underlying36
  unfold impl_ParentOf.f at h
  obtain ⟨o, hp, h⟩ := Option.bind_eq_some_iff.1 h
  have key : (o = false ∧ 0 = r1 ∧ 0 = r2 ∧ 0 = r3 ∧ false = r4) ∨ (o = true ∧ (a0_1 == 0) = true ∧ 0 = r1 ∧ 0 = r2 ∧ 0 = r3 ∧ false = r4) ∨ (o = true ∧ (a0_1 == 0) = false ∧ a0_0 = r1 ∧ wrap64 (a0_1 - 1) = r2 ∧ wrap64 (Int.tdiv a0_2 2) = r3 ∧ true = r4) := by
    revert h
    cases o <;> (by_cases c : a0_1 = 0) <;> simp [c]
  have HP := Aside0.mk hp
  clear h hp
  rcases key with ⟨rfl, rfl, rfl, rfl, rfl⟩ | ⟨rfl, c, rfl, rfl, rfl, rfl⟩ | ⟨rfl, c, rfl, rfl, rfl, rfl⟩
  all_goals
    go_enter Try.func120, Try.ntmps120
    go_wp2_with (first
     | ((with_reducible refine gate_dst (N := 1) rfl ?_); refine box_event ?hg (N := 1) ?hd (cs := #[.int .i64 a0_0, .int .i64 a0_1, .int .i64 a0_2]) (t := 36) ?hr ?_; (case hd => rfl); (case hg => rfl); (case hr => first | (go_simp; done) | (go_simp; rfl)); intro gA hg wZ hbox hb; have GEA := Aside0.mk (by rw [hg]; exact Nat.le_refl _ : w.heap.size ≤ gA); have BA := Aside0.mk hbox; have HB := Aside0.mk hb; clear hb hbox hg; have hzA := cells3 BA.out)
     | ((with_reducible refine gate_dst (N := 2) rfl ?_); refine box_event ?hg (N := 2) ?hd (cs := #[.int .i64 0, .int .i64 0, .int .i64 0]) (t := 36) ?hr ?_; (case hd => rfl); (case hg => rfl); (case hr => first | (go_simp; done) | (go_simp; rfl)); intro gR hg w_2 hbox hb; have GER := Aside0.mk (by rw [hg]; exact HB.out.size : w.heap.size ≤ gR); have NAR := Aside0.mk (by rw [hg]; exact Nat.ne_of_lt (blk_lt BA.out) : gA ≠ gR); have NRA := Aside0.mk (Ne.symm NAR.out); have nAR := NAR.out; have nRA := NRA.out; replace BA := Aside0.mk (blk_below BA.out hb); replace HB := Aside0.mk (below_step HB.out hb); clear hzA hb hg; have BR := Aside0.mk hbox; clear hbox; have hzA := cells3 BA.out; have hzR := cells3 BR.out)
     | ((with_reducible refine gate_dst (N := 5) rfl ?_); refine goesL_ (some 5) rfl rfl Try.func105 (by kernel_rfl) rfl #[.agg #[.int .i64 a0_0, .int .i64 a0_1, .int .i64 a0_2]] rfl (by first | rfl | (simp only [List.map_toArray, List.map_cons, List.map_nil]; rfl)) ?_; refine (impl_IdOk.calls a0_0 a0_1 a0_2 _ _ HP.out).mono ?_; rintro e w5 ⟨rfl, hb⟩; refine ⟨_, rfl, ?_⟩; replace BA := Aside0.mk (blk_below BA.out hb); replace BR := Aside0.mk (blk_below BR.out hb); replace HB := Aside0.mk (below_step HB.out hb); have hf := free3 BR.out; clear hzA hzR hb; have hzA := cells3 BA.out; have hzR := cells3 BR.out))
    first
    | (refine bodyPost_ret (results_ct rfl _ _ gR 36 #[.int .i64 0, .int .i64 0, .int .i64 0] (0, 0) _ rfl (set3_here BR.out _ _ _) Try.underlying36 rfl (by kernel_rfl)) rfl ?_; exact ⟨rfl, set3_below HB.out GER.out⟩)
    | (refine bodyPost_ret (results_ct rfl _ _ gR 36 #[.int .i64 a0_0, .int .i64 (wrap64 (a0_1 - 1)), .int .i64 (wrap64 (Int.tdiv a0_2 2))] (0, 0) _ rfl (set3_here BR.out _ _ _) Try.underlying36 rfl (by kernel_rfl)) rfl ?_; exact ⟨rfl, set3_below HB.out GER.out⟩)
def impl_IsSibling.f (a0_0 : Int) (a0_1 : Int) (a0_2 : Int) (a1_0 : Int) (a1_1 : Int) (a1_2 : Int) : Option (Bool) := (impl_ParentOf.f a0_0 a0_1 a0_2).bind fun bt165 => ((impl_ParentOf.f a1_0 a1_1 a1_2).bind fun bt170 => (if bt165.2.2.2 = true then (if bt170.2.2.2 = true then (if (bt165.1 == bt170.1 && (bt165.2.1 == bt170.2.1 && (bt165.2.2.1 == bt170.2.2.1))) = true then (if (Int.tmod a0_2 2) = 0 then (some (a1_2 == (wrap64 (a0_2 + 1)))) else (some false)) else (some false)) else (some false)) else (some false)))
attribute [local go_sem high] eqA36
set_option maxHeartbeats 8000000 in
set_option maxRecDepth 100000 in
theorem impl_IsSibling.calls (a0_0 : Int) (a0_1 : Int) (a0_2 : Int) (a1_0 : Int) (a1_1 : Int) (a1_2 : Int) (r : Bool) (w : World) (h : impl_IsSibling.f a0_0 a0_1 a0_2 a1_0 a1_1 a1_2 = some r) :
  Calls Try.prog 119 #[.agg #[.int .i64 a0_0, .int .i64 a0_1, .int .i64 a0_2], .agg #[.int .i64 a1_0, .int .i64 a1_1, .int .i64 a1_2]] w fun e w' => e = .returned (.bool r) ∧ Below w.heap.size w w' := by
  have hu36 := Try.underlying36
  unfold impl_IsSibling.f at h
  obtain ⟨⟨p0, p1, p2, o1⟩, hp, h⟩ := Option.bind_eq_some_iff.1 h
  obtain ⟨⟨q0, q1, q2, o2⟩, hq, h⟩ := Option.bind_eq_some_iff.1 h
  dsimp only at h
  have key : (o1 = false ∧ false = r) ∨ (o1 = true ∧ o2 = false ∧ false = r) ∨ (o1 = true ∧ o2 = true ∧ (p0 == q0 && (p1 == q1 && (p2 == q2))) = false ∧ false = r) ∨ (o1 = true ∧ o2 = true ∧ (p0 == q0 && (p1 == q1 && (p2 == q2))) = true ∧ ((Int.tmod a0_2 2) == 0) = false ∧ false = r) ∨ (o1 = true ∧ o2 = true ∧ (p0 == q0 && (p1 == q1 && (p2 == q2))) = true ∧ ((Int.tmod a0_2 2) == 0) = true ∧ (a1_2 == (wrap64 (a0_2 + 1))) = r) := by
    revert h
    generalize (p0 == q0 && (p1 == q1 && (p2 == q2))) = E
    cases o1 <;> cases o2 <;> cases E <;> (by_cases c : (Int.tmod a0_2 2) = 0) <;> simp [c]
  have HP := Aside0.mk hp; have HQ := Aside0.mk hq
  clear h hp hq
  rcases key with ⟨rfl, rfl⟩ | ⟨rfl, rfl, rfl⟩ | ⟨rfl, rfl, c7, rfl⟩ | ⟨rfl, rfl, c7, c8, rfl⟩ | ⟨rfl, rfl, c7, c8, rfl⟩
  all_goals
    go_enter Try.func119, Try.ntmps119
    go_wp2_with (first
     | ((with_reducible refine gate_dst (N := 2) rfl ?_); refine box_event ?hg (N := 2) ?hd (cs := #[.int .i64 a0_0, .int .i64 a0_1, .int .i64 a0_2]) (t := 36) ?hr ?_; (case hd => rfl); (case hg => rfl); (case hr => first | (go_simp; done) | (go_simp; rfl)); intro gA hg wZ hbox hb; have GEA := Aside0.mk (by rw [hg]; exact Nat.le_refl _ : w.heap.size ≤ gA); have BA := Aside0.mk hbox; have HB := Aside0.mk hb; clear hb hbox hg; have hzA := cells3 BA.out)
     | ((with_reducible refine gate_dst (N := 3) rfl ?_); refine box_event ?hg (N := 3) ?hd (cs := #[.int .i64 a1_0, .int .i64 a1_1, .int .i64 a1_2]) (t := 36) ?hr ?_; (case hd => rfl); (case hg => rfl); (case hr => first | (go_simp; done) | (go_simp; rfl)); intro gB hg w_3 hbox hb; have GEB := Aside0.mk (by rw [hg]; exact HB.out.size : w.heap.size ≤ gB); have NAB := Aside0.mk (by rw [hg]; exact Nat.ne_of_lt (blk_lt BA.out) : gA ≠ gB); have NBA := Aside0.mk (Ne.symm NAB.out); have nAB := NAB.out; have nBA := NBA.out; replace BA := Aside0.mk (blk_below BA.out hb); replace HB := Aside0.mk (below_step HB.out hb); clear hzA hb hg; have BB := Aside0.mk hbox; clear hbox; have hzA := cells3 BA.out; have hzB := cells3 BB.out)
     | ((with_reducible refine gate_dst (N := 11) rfl ?_); refine goesL_ (some 11) rfl rfl Try.func120 (by kernel_rfl) rfl #[.agg #[.int .i64 a0_0, .int .i64 a0_1, .int .i64 a0_2]] rfl (by first | rfl | (simp only [List.map_toArray, List.map_cons, List.map_nil]; rfl)) ?_; refine (impl_ParentOf.calls a0_0 a0_1 a0_2 p0 p1 p2 _ _ HP.out).mono ?_; rintro e w11 ⟨rfl, hb⟩; refine ⟨_, rfl, ?_⟩; replace BA := Aside0.mk (blk_below BA.out hb); replace BB := Aside0.mk (blk_below BB.out hb); replace HB := Aside0.mk (below_step HB.out hb); clear hzA hzB hb; have hzA := cells3 BA.out; have hzB := cells3 BB.out)
     | ((with_reducible refine gate_dst (N := 5) rfl ?_); refine box_event ?hg (N := 5) ?hd (cs := #[.int .i64 0, .int .i64 0, .int .i64 0]) (t := 36) ?hr ?_; (case hd => rfl); (case hg => rfl); (case hr => first | (go_simp; done) | (go_simp; rfl)); intro gP hg w_5 hbox hb; have GEP := Aside0.mk (by rw [hg]; exact HB.out.size : w.heap.size ≤ gP); have NAP := Aside0.mk (by rw [hg]; exact Nat.ne_of_lt (blk_lt BA.out) : gA ≠ gP); have NPA := Aside0.mk (Ne.symm NAP.out); have nAP := NAP.out; have nPA := NPA.out; have NBP := Aside0.mk (by rw [hg]; exact Nat.ne_of_lt (blk_lt BB.out) : gB ≠ gP); have NPB := Aside0.mk (Ne.symm NBP.out); have nBP := NBP.out; have nPB := NPB.out; replace BA := Aside0.mk (blk_below BA.out hb); replace BB := Aside0.mk (blk_below BB.out hb); replace HB := Aside0.mk (below_step HB.out hb); clear hzA hzB hb hg; have BP := Aside0.mk hbox; clear hbox; have hzA := cells3 BA.out; have hzB := cells3 BB.out; have hzP := cells3 BP.out; have hf := free3 BP.out)
     | ((with_reducible refine gate_dst (N := 16) rfl ?_); refine goesL_ (some 16) rfl rfl Try.func120 (by kernel_rfl) rfl #[.agg #[.int .i64 a1_0, .int .i64 a1_1, .int .i64 a1_2]] rfl (by first | rfl | (simp only [List.map_toArray, List.map_cons, List.map_nil]; rfl)) ?_; refine (impl_ParentOf.calls a1_0 a1_1 a1_2 q0 q1 q2 _ _ HQ.out).mono ?_; rintro e w16 ⟨rfl, hb⟩; refine ⟨_, rfl, ?_⟩; replace BA := Aside0.mk (blk_below (set3_blk BA.out NAP.out) hb); replace BB := Aside0.mk (blk_below (set3_blk BB.out NBP.out) hb); replace BP := Aside0.mk (blk_below (set3_here BP.out _ _ _) hb); replace HB := Aside0.mk (below_step (set3_below HB.out GEP.out) hb); clear hzA hzB hzP hb hf; have hzA := cells3 BA.out; have hzB := cells3 BB.out; have hzP := cells3 BP.out)
     | ((with_reducible refine gate_dst (N := 7) rfl ?_); refine box_event ?hg (N := 7) ?hd (cs := #[.int .i64 0, .int .i64 0, .int .i64 0]) (t := 36) ?hr ?_; (case hd => rfl); (case hg => rfl); (case hr => first | (go_simp; done) | (go_simp; rfl)); intro gQ hg w_7 hbox hb; have GEQ := Aside0.mk (by rw [hg]; exact HB.out.size : w.heap.size ≤ gQ); have NAQ := Aside0.mk (by rw [hg]; exact Nat.ne_of_lt (blk_lt BA.out) : gA ≠ gQ); have NQA := Aside0.mk (Ne.symm NAQ.out); have nAQ := NAQ.out; have nQA := NQA.out; have NBQ := Aside0.mk (by rw [hg]; exact Nat.ne_of_lt (blk_lt BB.out) : gB ≠ gQ); have NQB := Aside0.mk (Ne.symm NBQ.out); have nBQ := NBQ.out; have nQB := NQB.out; have NPQ := Aside0.mk (by rw [hg]; exact Nat.ne_of_lt (blk_lt BP.out) : gP ≠ gQ); have NQP := Aside0.mk (Ne.symm NPQ.out); have nPQ := NPQ.out; have nQP := NQP.out; replace BA := Aside0.mk (blk_below BA.out hb); replace BB := Aside0.mk (blk_below BB.out hb); replace BP := Aside0.mk (blk_below BP.out hb); replace HB := Aside0.mk (below_step HB.out hb); clear hzA hzB hzP hb hg; have BQ := Aside0.mk hbox; clear hbox; have hzA := cells3 BA.out; have hzB := cells3 BB.out; have hzP := cells3 BP.out; have hzQ := cells3 BQ.out; have hf := free3 BQ.out))
    go_ret
    exact ⟨by first | rfl | (simp [*] <;> rfl), set3_below HB.out GEQ.out⟩
end Go.Proofs.Ytbkkehjhfgocfaa.PFnExactCoarsenState
