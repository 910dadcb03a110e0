/- Written by this repo's own copy of a print: plain functions beneath a law, and the proof that the program computes them; no condition. -/
import Derived.Test.YtbkkehjhfgocfaaPFnTransferredx0
import Derived.Test.YtbkkehjhfgocfaaPFnTransferredx2
import Derived.Test.YtbkkehjhfgocfaaPFnTransferredx4
namespace Go.Proofs.Ytbkkehjhfgocfaa.PFnTransferred
open Go.RowKit Go.Proofs.YtbkkehjhfgocfaaW.PrintWords Go.Proofs.YtbkkehjhfgocfaaW.PrintLast Go.Proofs.YtbkkehjhfgocfaaW.PrintMore
attribute [local go_sem] max2_int min2_int max_two min_two max_three min_three max_four min_four   -- for this text's walks alone
set_option linter.unusedVariables false
set_option linter.unusedSimpArgs false

/-! ### spec_l07State: function 45 -/
mutual
def spec_l07State.l0 : Nat → Int → List Int → Int → Int → Int → List (S36) → Int → List (S36) → List Int → Option (Int × (List (S36)) × List Int × List Int × List Int × Int × Int)
 | 0, _, _, _, _, _, _, _, _, _ => none
 | k + 1, x5, x1000, x1001, x1002, x227000, x227001, x228000, x228001, x228004 => if x5 < x227000 then ((spec_l01Below.f x1000 x1001 x1002 4).bind fun bt228 => ((spec_l01Below.f x1000 bt228.2.1 bt228.2.2 5000).bind fun bt231 => (if x228004.length < 17592186044416 then (spec_l07State.l0 k (wrap64 (x5 + 1)) x1000 bt231.2.1 bt231.2.2 x227000 x227001 x228000 x228001 (x228004 ++ [wrap64 (bt228.1 * bt231.1)])) else (none)))) else ((spec_l01Below.f x1000 x1001 x1002 20000).bind fun bt237 => (spec_l07State.l1 k (wrap64 (1 + bt237.1)) 0 x1000 bt237.2.1 bt237.2.2 x227000 x227001 x228000 x228001 ([] : List Int) ([] : List Int) x228004))
def spec_l07State.l1 : Nat → Int → Int → List Int → Int → Int → Int → List (S36) → Int → List (S36) → List Int → List Int → List Int → Option (Int × (List (S36)) × List Int × List Int × List Int × Int × Int)
 | 0, _, _, _, _, _, _, _, _, _, _, _, _ => none
 | k + 1, x6, x7, x1000, x1001, x1002, x227000, x227001, x228000, x228001, x228002, x228003, x228004 => if x7 < (x227001.length : Int) then ((spec_l01Below.f x1000 x1001 x1002 x6).bind fun bt240 => ((spec_l01Once.f x1000 bt240.2.1 bt240.2.2 6).bind fun bt243 => (if bt243.1 = true then ((spec_l01Below.f x1000 bt243.2.1 bt243.2.2 3).bind fun bt246 => (if x228002.length < 17592186044416 then ((spec_l01Below.f x1000 bt246.2.1 bt246.2.2 200).bind fun bt252 => ((spec_l01Below.f x1000 bt252.2.1 bt252.2.2 (wrap64 (bt246.1 + 1))).bind fun bt255 => (if x228003.length < 17592186044416 then (spec_l07State.l1 k x6 (wrap64 (x7 + 1)) x1000 bt255.2.1 bt255.2.2 x227000 x227001 x228000 x228001 (x228002 ++ [bt246.1]) (x228003 ++ [wrap64 ((wrap64 (bt246.1 * bt252.1)) + bt255.1)]) x228004) else (none)))) else (none))) else (if x228002.length < 17592186044416 then ((spec_l01Below.f x1000 bt243.2.1 bt243.2.2 200).bind fun bt264 => ((spec_l01Below.f x1000 bt264.2.1 bt264.2.2 (wrap64 (bt240.1 + 1))).bind fun bt267 => (if x228003.length < 17592186044416 then (spec_l07State.l1 k x6 (wrap64 (x7 + 1)) x1000 bt267.2.1 bt267.2.2 x227000 x227001 x228000 x228001 (x228002 ++ [bt240.1]) (x228003 ++ [wrap64 ((wrap64 (bt240.1 * bt264.1)) + bt267.1)]) x228004) else (none)))) else (none))))) else (some (x228000, x228001, x228002, x228003, x228004, x1001, x1002))
end
def spec_l07State.f (k : Nat) (s0_0 : List Int) (s0_1 : Int) (s0_2 : Int) : Option (Int × (List (S36)) × List Int × List Int × List Int × Int × Int) := (spec_l05Mesh.f k s0_0 s0_1 s0_2).bind fun bt220 => (spec_l07State.l0 k 0 s0_0 bt220.2.2.1 bt220.2.2.2 bt220.1 bt220.2.1 bt220.1 bt220.2.1 ([] : List Int))
theorem spec_l07State.mono_l : ∀ k, (∀ y0 y1 y2 y3 y4 y5 y6 y7 y8, LeO (spec_l07State.l0 k y0 y1 y2 y3 y4 y5 y6 y7 y8) (spec_l07State.l0 (k + 1) y0 y1 y2 y3 y4 y5 y6 y7 y8)) ∧ (∀ y0 y1 y2 y3 y4 y5 y6 y7 y8 y9 y10 y11, LeO (spec_l07State.l1 k y0 y1 y2 y3 y4 y5 y6 y7 y8 y9 y10 y11) (spec_l07State.l1 (k + 1) y0 y1 y2 y3 y4 y5 y6 y7 y8 y9 y10 y11))
 | 0 => ⟨fun _ _ _ _ _ _ _ _ _ r h => by simp [spec_l07State.l0] at h, fun _ _ _ _ _ _ _ _ _ _ _ _ r h => by simp [spec_l07State.l1] at h⟩
 | k + 1 => by
  obtain ⟨ih0, ih1⟩ := spec_l07State.mono_l k
  refine ⟨?_, ?_⟩
  ·
   intro y0 y1 y2 y3 y4 y5 y6 y7 y8
   unfold spec_l07State.l0
   repeat' first
   | (with_reducible exact ih0 _ _ _ _ _ _ _ _ _)
   | (with_reducible exact ih1 _ _ _ _ _ _ _ _ _ _ _ _)
   | (with_reducible exact spec_l05Mesh.mono _ _ _ _)
   | (with_reducible exact LeO.refl _)
   | (with_reducible exact LeO.none _)
   | (with_reducible refine LeO.ite ?_ ?_)
   | (with_reducible refine LeO.bind ?_ (fun _ => ?_))
   | exact ih0 _ _ _ _ _ _ _ _ _
   | exact ih1 _ _ _ _ _ _ _ _ _ _ _ _
   | exact spec_l05Mesh.mono _ _ _ _
   | exact LeO.none _
   | refine LeO.ite ?_ ?_
   | refine LeO.bind ?_ (fun _ => ?_)
  ·
   intro y0 y1 y2 y3 y4 y5 y6 y7 y8 y9 y10 y11
   unfold spec_l07State.l1
   repeat' first
   | (with_reducible exact ih0 _ _ _ _ _ _ _ _ _)
   | (with_reducible exact ih1 _ _ _ _ _ _ _ _ _ _ _ _)
   | (with_reducible exact spec_l05Mesh.mono _ _ _ _)
   | (with_reducible exact LeO.refl _)
   | (with_reducible exact LeO.none _)
   | (with_reducible refine LeO.ite ?_ ?_)
   | (with_reducible refine LeO.bind ?_ (fun _ => ?_))
   | exact ih0 _ _ _ _ _ _ _ _ _
   | exact ih1 _ _ _ _ _ _ _ _ _ _ _ _
   | exact spec_l05Mesh.mono _ _ _ _
   | exact LeO.none _
   | refine LeO.ite ?_ ?_
   | refine LeO.bind ?_ (fun _ => ?_)
theorem spec_l07State.mono : ∀ a0 a1 a2 k, LeO (spec_l07State.f k a0 a1 a2) (spec_l07State.f (k + 1) a0 a1 a2) := by
 intro a0 a1 a2 k
 obtain ⟨ih0, ih1⟩ := spec_l07State.mono_l k
 unfold spec_l07State.f
 repeat' first
   | (with_reducible exact ih0 _ _ _ _ _ _ _ _ _)
   | (with_reducible exact ih1 _ _ _ _ _ _ _ _ _ _ _ _)
   | (with_reducible exact spec_l05Mesh.mono _ _ _ _)
   | (with_reducible exact LeO.refl _)
   | (with_reducible exact LeO.none _)
   | (with_reducible refine LeO.ite ?_ ?_)
   | (with_reducible refine LeO.bind ?_ (fun _ => ?_))
   | exact ih0 _ _ _ _ _ _ _ _ _
   | exact ih1 _ _ _ _ _ _ _ _ _ _ _ _
   | exact spec_l05Mesh.mono _ _ _ _
   | exact LeO.none _
   | refine LeO.ite ?_ ?_
   | refine LeO.bind ?_ (fun _ => ?_)
def spec_l07State.T6 : Bool × List (List Nat × List Nat) := (true, [([], []), ([0], [0]), ([], []), ([2], [2]), ([], []), ([4, 3], [4]), ([3, 5], [3, 5]), ([6], [6]), ([1, 7, 5], [1, 7]), ([0, 1, 2, 3, 4, 5, 6, 7, 8], []), ([9, 8, 8, 0, 1, 2, 3, 4, 5, 6, 7, 8], [8, 9])])
def spec_l07State.B6 : List Nat := [0, 1, 0, 4, 0, 28, 60, 124, 255, 511, 1023]
theorem spec_l07State.tab6 : rtab .any (opsOf Try.f45 6) = spec_l07State.T6 := by kernel_rfl
theorem spec_l07State.bits6 : waitsOk spec_l07State.T6.2 spec_l07State.B6 = true := by kernel_rfl
def spec_l07State.T15 : Bool × List (List Nat × List Nat) := (true, [([], []), ([0], [0]), ([], []), ([], []), ([3], [3]), ([2, 4], [2, 4]), ([], []), ([], []), ([7], [7]), ([6, 8, 4], [6, 8]), ([5, 9], [5, 9]), ([10], [10]), ([1, 11, 9], [1, 11]), ([0, 1, 2, 3, 4, 5, 6, 7, 8, 9, 10, 11, 12], []), ([13, 12, 12, 0, 1, 2, 3, 4, 5, 6, 7, 8, 9, 10, 11, 12], [12, 13])])
def spec_l07State.B15 : List Nat := [0, 1, 0, 0, 8, 28, 0, 0, 128, 472, 1020, 2044, 4095, 8191, 16383]
theorem spec_l07State.tab15 : rtab .any (opsOf Try.f45 15) = spec_l07State.T15 := by kernel_rfl
theorem spec_l07State.bits15 : waitsOk spec_l07State.T15.2 spec_l07State.B15 = true := by kernel_rfl
set_option maxHeartbeats 8000000 in
set_option maxRecDepth 100000 in
theorem spec_l07State.calls (k : Nat) (g : Nat) (s0_0 : List Int) (s0_1 : Int) (s0_2 : Int) (r1 : Int) (r2 : List (S36)) (r3 : List Int) (r4 : List Int) (r5 : List Int) (r6 : Int) (r7 : Int) (w0 w : World) (hI : IsS86 w0 w g s0_0 s0_1 s0_2) (hB : Below w0.heap.size w0 w) (h : spec_l07State.f k s0_0 s0_1 s0_2 = some (r1, r2, r3, r4, r5, r6, r7)) :
  Calls Try.prog 45 #[.pointer (some ⟨g, 0, none⟩)] w fun e w' => ∃ v1_ v2_ v3_ v4_ : Value, e = .returned (.agg #[.int .i64 r1, v1_, v2_, v3_, v4_]) ∧ Kd.R k36 36 w' w.heap.size (fun _ => True) v1_ r2 ∧ Kd.R (Kd.int .i64) 3 w' w.heap.size (fun k_ => some k_ ≠ (v3_ : Value).ownBlock ∧ some k_ ≠ (v4_ : Value).ownBlock) v2_ r3 ∧ Kd.R (Kd.int .i64) 3 w' w.heap.size (fun k_ => some k_ ≠ (v2_ : Value).ownBlock ∧ some k_ ≠ (v4_ : Value).ownBlock) v3_ r4 ∧ Kd.R (Kd.int .i64) 3 w' w.heap.size (fun k_ => some k_ ≠ (v2_ : Value).ownBlock ∧ some k_ ≠ (v3_ : Value).ownBlock) v4_ r5 ∧ IsS86 w0 w' g s0_0 r6 r7 ∧ Below w0.heap.size w0 w' ∧ KeepBut w w' g none := by
 have hu29 := Try.underlying29
 have hu26 := Try.underlying26
 have HI0 := Aside0.mk hI
 have HK := Aside0.mk (KeepBut.refl w g none)
 have HL := Aside0.mk hB.size
 clear hI
 have HW0 := Aside0.mk hB.size
 have HB := Aside0.mk hB
 clear hB
 have H : ((spec_l05Mesh.f k s0_0 s0_1 s0_2).bind fun bt220 => (spec_l07State.l0 k 0 s0_0 bt220.2.2.1 bt220.2.2.2 bt220.1 bt220.2.1 bt220.1 bt220.2.1 ([] : List Int))) = some (r1, r2, r3, r4, r5, r6, r7) := h
 clear h
 replace H := Option.bind_eq_some_iff.mp H
 obtain ⟨⟨t220, t221, t224, t225⟩, A20, H⟩ := H
 (try dsimp only at H)
 have A2 := Aside0.mk A20
 clear A20
 have H' := Aside0.mk H
 clear H
 go_enter Try.func45, Try.ntmps45
 go_wp2_with (first | ((with_reducible refine gate_dst (N := 2) rfl ?_); refine bxe_ 2 #[.int .i64 0, .slice none 0 0, .slice none 0 0, .slice none 0 0, .slice none 0 0] 29 ?_; intro gb219 hg w3 hbox hb; have n0_ := Aside0.mk (IsS86.below (cI86_ HI0.out) hb); have n1_ := Aside0.mk (KeepBut.trans (cK_ HK.out) (KeepBut.of_below hb g none) (.inl rfl)); have n2_ := Aside0.mk (below_step (cBI86_ HB.out HI0.out) hb); have n3_ := Aside0.mk (hbox); have n4_ := Aside0.mk ((by rw [hg]; exact (keep_size (w := w) (g := g) (row := none) (cK_ HK.out)) : w.heap.size ≤ gb219)); have n5_ := Aside0.mk ((Nat.le_trans HW0.out (by rw [hg]; exact (keep_size (w := w) (g := g) (row := none) (cK_ HK.out)) : w.heap.size ≤ gb219) : w0.heap.size ≤ gb219)); have n6_ := Aside0.mk ((by rw [hg]; exact Nat.ne_of_lt (IsS86.lt (show IsS86 w0 _ g s0_0 s0_1 s0_2 from cI86_ HI0.out)) : g ≠ gb219)); have n7_ := Aside0.mk ((by rw [hg]; exact Nat.ne_of_gt (IsS86.lt (show IsS86 w0 _ g s0_0 s0_1 s0_2 from cI86_ HI0.out)) : gb219 ≠ g)); clear HI0; clear HK; clear HB; have HI0 := n0_; have HK := n1_; have HB := n2_; have BK219 := n3_; have GW219 := n4_; have GE219 := n5_; have NB0_219 := n6_; have NB219_0 := n7_; clear n0_ n1_ n2_ n3_ n4_ n5_ n6_ n7_; clear hb hbox hg) | ((with_reducible refine gate_callee (f := 68) rfl ?_); refine goesL_ (some 10) rfl rfl Try.func68 (by kernel_rfl) rfl #[.pointer (some ⟨g, 0, none⟩)] rfl (by (try simp only [List.map_toArray, List.map_cons, List.map_nil]); first | done | rfl | (simp only [List.length_drop, List.length_take]; rfl)) ?_; (with_reducible refine (spec_l05Mesh.calls k g s0_0 s0_1 s0_2 t220 t221 t224 t225 w0 _ ?side1 ?side2 A2.out).mono ?_); (case side1 => exact cI86_ HI0.out); (case side2 => exact cBI86_ HB.out HI0.out); rintro e w4 ⟨v222, rfl, ho0, hi, hb, hk⟩; refine ⟨_, rfl, ?_⟩; have n0_ := Aside0.mk (KeepBut.blk hk (g' := gb219) (o := .cells #[.int .i64 0, .slice none 0 0, .slice none 0 0, .slice none 0 0, .slice none 0 0] 29 (0, 0)) (cb_ BK219.out) NB219_0.out (by simp)); have n1_ := Aside0.mk (Kd.R_lower ho0 (keep_size (w := w) (g := g) (row := none) (cK_ HK.out))); have n2_ := Aside0.mk (KeepBut.trans (cK_ HK.out) hk (.inl rfl)); have n3_ := Aside0.mk (hb); have n4_ := Aside0.mk (hi); clear BK219; clear HK; clear HB; clear HI0; have BK219 := n0_; have HO223 := n1_; have HK := n2_; have HB := n3_; have HI0 := n4_; clear n0_ n1_ n2_ n3_ n4_; (try clear hb); (try clear hb2); (try clear hk); (try clear hi); (try clear ho0)) | ((with_reducible refine gate_dst (N := 3) rfl ?_); refine bxe_ 3 #[.int .i64 0, .slice none 0 0] 26 ?_; intro gb226 hg w5 hbox hb; have n0_ := Aside0.mk (R_bel HO223.out hb); have n1_ := Aside0.mk (IsS86.below (cI86_ HI0.out) hb); have n2_ := Aside0.mk (blk_bel BK219.out hb); have n3_ := Aside0.mk (KeepBut.trans (cK_ HK.out) (KeepBut.of_below hb g none) (.inl rfl)); have n4_ := Aside0.mk (below_step (cBI86_ HB.out HI0.out) hb); have n5_ := Aside0.mk (hbox); have n6_ := Aside0.mk ((by rw [hg]; exact (keep_size (w := w) (g := g) (row := none) (cK_ HK.out)) : w.heap.size ≤ gb226)); have n7_ := Aside0.mk ((Nat.le_trans HW0.out (by rw [hg]; exact (keep_size (w := w) (g := g) (row := none) (cK_ HK.out)) : w.heap.size ≤ gb226) : w0.heap.size ≤ gb226)); have n8_ := Aside0.mk ((by rw [hg]; exact Nat.ne_of_lt (blk_lt (g := gb219) (o := .cells #[.int .i64 0, .slice none 0 0, .slice none 0 0, .slice none 0 0, .slice none 0 0] 29 (0, 0)) (cb_ BK219.out)) : gb219 ≠ gb226)); have n9_ := Aside0.mk ((by rw [hg]; exact Nat.ne_of_gt (blk_lt (g := gb219) (o := .cells #[.int .i64 0, .slice none 0 0, .slice none 0 0, .slice none 0 0, .slice none 0 0] 29 (0, 0)) (cb_ BK219.out)) : gb226 ≠ gb219)); have n10_ := Aside0.mk ((by rw [hg]; exact Nat.ne_of_lt (IsS86.lt (show IsS86 w0 _ g s0_0 t224 t225 from cI86_ HI0.out)) : g ≠ gb226)); have n11_ := Aside0.mk ((by rw [hg]; exact Nat.ne_of_gt (IsS86.lt (show IsS86 w0 _ g s0_0 t224 t225 from cI86_ HI0.out)) : gb226 ≠ g)); clear HO223; clear HI0; clear BK219; clear HK; clear HB; have HO223 := n0_; have HI0 := n1_; have BK219 := n2_; have HK := n3_; have HB := n4_; have BK226 := n5_; have GW226 := n6_; have GE226 := n7_; have NB219_226 := n8_; have NB226_219 := n9_; have NB0_226 := n10_; have NB226_0 := n11_; clear n0_ n1_ n2_ n3_ n4_ n5_ n6_ n7_ n8_ n9_ n10_ n11_; clear hb hbox hg; have hnb6 := NB226_219.out; have hnc6 := NB219_226.out; have hnb7 := NB226_0.out; have hnc7 := NB0_226.out; have hcz8 := cl2_ BK226.out; have hfz8 := fr2_ BK226.out; obtain ⟨Ao9, co9, eo9⟩ := Kd.R_slice HO223.out; subst eo9) | ((with_reducible refine gate_dst (N := 4) rfl ?_); refine bxe_ 4 #[.int .i64 0, .slice none 0 0, .slice none 0 0, .slice none 0 0, .slice none 0 0] 29 ?_; intro gb227 hg w10 hbox hb; have n0_ := Aside0.mk (Kd.R_below (by (with_reducible repeat first | apply Kd.R_alloc | apply Kd.R_drewN | apply Kd.R_drew); exact (R_far2 HO223.out BK226.out)) hb); have n1_ := Aside0.mk (IsS86.below (show IsS86 w0 ((w5.setCell ⟨gb226, 0, none⟩ (.int .i64 t220)).setCell ⟨gb226, 1, none⟩ (.slice Ao9 t221.length co9)) g s0_0 t224 t225 from cI86_ HI0.out) hb); have n2_ := Aside0.mk (blk_below (g := gb219) (o := .cells #[.int .i64 0, .slice none 0 0, .slice none 0 0, .slice none 0 0, .slice none 0 0] 29 (0, 0)) (by (with_reducible repeat first | apply blk_drewN | apply blk_drew | apply blk_alloc); refine blk_far ?_ NB219_226.out _; (with_reducible repeat first | apply blk_drewN | apply blk_drew | apply blk_alloc); refine blk_far ?_ NB219_226.out _; (with_reducible repeat first | apply blk_drewN | apply blk_drew | apply blk_alloc); exact BK219.out) hb); have n3_ := Aside0.mk (blk_below (g := gb226) (o := .cells #[.int .i64 t220, .slice Ao9 t221.length co9] 26 (0, 0)) (by (with_reducible repeat first | apply blk_drewN | apply blk_drew | apply blk_alloc); refine blk_put (cs := #[.int .i64 t220, .slice none 0 0]) ?_ 1 _ rfl; (with_reducible repeat first | apply blk_drewN | apply blk_drew | apply blk_alloc); refine blk_put (cs := #[.int .i64 0, .slice none 0 0]) ?_ 0 _ rfl; (with_reducible repeat first | apply blk_drewN | apply blk_drew | apply blk_alloc); exact BK226.out) hb); have n4_ := Aside0.mk (KeepBut.trans (cK_ HK.out) (KeepBut.of_below hb g none) (.inl rfl)); have n5_ := Aside0.mk (below_step (cBI86_ HB.out HI0.out) hb); have n6_ := Aside0.mk (hbox); have n7_ := Aside0.mk ((by rw [hg]; exact (keep_size (w := w) (g := g) (row := none) (cK_ HK.out)) : w.heap.size ≤ gb227)); have n8_ := Aside0.mk ((Nat.le_trans HW0.out (by rw [hg]; exact (keep_size (w := w) (g := g) (row := none) (cK_ HK.out)) : w.heap.size ≤ gb227) : w0.heap.size ≤ gb227)); have n9_ := Aside0.mk ((by rw [hg]; exact Nat.ne_of_lt (blk_lt (g := gb219) (o := .cells #[.int .i64 0, .slice none 0 0, .slice none 0 0, .slice none 0 0, .slice none 0 0] 29 (0, 0)) (by (with_reducible repeat first | apply blk_drewN | apply blk_drew | apply blk_alloc); refine blk_far ?_ NB219_226.out _; (with_reducible repeat first | apply blk_drewN | apply blk_drew | apply blk_alloc); refine blk_far ?_ NB219_226.out _; (with_reducible repeat first | apply blk_drewN | apply blk_drew | apply blk_alloc); exact BK219.out)) : gb219 ≠ gb227)); have n10_ := Aside0.mk ((by rw [hg]; exact Nat.ne_of_gt (blk_lt (g := gb219) (o := .cells #[.int .i64 0, .slice none 0 0, .slice none 0 0, .slice none 0 0, .slice none 0 0] 29 (0, 0)) (by (with_reducible repeat first | apply blk_drewN | apply blk_drew | apply blk_alloc); refine blk_far ?_ NB219_226.out _; (with_reducible repeat first | apply blk_drewN | apply blk_drew | apply blk_alloc); refine blk_far ?_ NB219_226.out _; (with_reducible repeat first | apply blk_drewN | apply blk_drew | apply blk_alloc); exact BK219.out)) : gb227 ≠ gb219)); have n11_ := Aside0.mk ((by rw [hg]; exact Nat.ne_of_lt (blk_lt (g := gb226) (o := .cells #[.int .i64 t220, .slice Ao9 t221.length co9] 26 (0, 0)) (by (with_reducible repeat first | apply blk_drewN | apply blk_drew | apply blk_alloc); refine blk_put (cs := #[.int .i64 t220, .slice none 0 0]) ?_ 1 _ rfl; (with_reducible repeat first | apply blk_drewN | apply blk_drew | apply blk_alloc); refine blk_put (cs := #[.int .i64 0, .slice none 0 0]) ?_ 0 _ rfl; (with_reducible repeat first | apply blk_drewN | apply blk_drew | apply blk_alloc); exact BK226.out)) : gb226 ≠ gb227)); have n12_ := Aside0.mk ((by rw [hg]; exact Nat.ne_of_gt (blk_lt (g := gb226) (o := .cells #[.int .i64 t220, .slice Ao9 t221.length co9] 26 (0, 0)) (by (with_reducible repeat first | apply blk_drewN | apply blk_drew | apply blk_alloc); refine blk_put (cs := #[.int .i64 t220, .slice none 0 0]) ?_ 1 _ rfl; (with_reducible repeat first | apply blk_drewN | apply blk_drew | apply blk_alloc); refine blk_put (cs := #[.int .i64 0, .slice none 0 0]) ?_ 0 _ rfl; (with_reducible repeat first | apply blk_drewN | apply blk_drew | apply blk_alloc); exact BK226.out)) : gb227 ≠ gb226)); have n13_ := Aside0.mk ((by rw [hg]; exact Nat.ne_of_lt (IsS86.lt (show IsS86 w0 _ g s0_0 t224 t225 from cI86_ HI0.out)) : g ≠ gb227)); have n14_ := Aside0.mk ((by rw [hg]; exact Nat.ne_of_gt (IsS86.lt (show IsS86 w0 _ g s0_0 t224 t225 from cI86_ HI0.out)) : gb227 ≠ g)); clear HO223; clear HI0; clear BK219; clear BK226; clear HK; clear HB; have HO223 := n0_; have HI0 := n1_; have BK219 := n2_; have BK226 := n3_; have HK := n4_; have HB := n5_; have BK227 := n6_; have GW227 := n7_; have GE227 := n8_; have NB219_227 := n9_; have NB227_219 := n10_; have NB226_227 := n11_; have NB227_226 := n12_; have NB0_227 := n13_; have NB227_0 := n14_; clear n0_ n1_ n2_ n3_ n4_ n5_ n6_ n7_ n8_ n9_ n10_ n11_ n12_ n13_ n14_; clear hb hbox hg; have hnb11 := NB227_219.out; have hnc11 := NB219_227.out; have hnb12 := NB227_226.out; have hnc12 := NB226_227.out; have hnb13 := NB227_0.out; have hnc13 := NB0_227.out; have hcz14 := cl5_ BK227.out; have hfz14 := fr5_ BK227.out))
 go_loopg [5] k (fun kq v5 w' => ∃ (x5_1 : Int) (x1001_1 : Int) (x1002_1 : Int) (x228004_1 : List Int) (u228004 : Value), v5 = .int .i64 x5_1 ∧ Aside0 (spec_l07State.l0 kq x5_1 s0_0 x1001_1 x1002_1 t220 t221 t220 t221 x228004_1 = some (r1, r2, r3, r4, r5, r6, r7)) ∧ Aside0 (kq ≤ k) ∧ Aside0 (Kd.R k36 36 w' w.heap.size (fun _ => True) (.slice Ao9 t221.length co9) t221) ∧ Aside0 (Kd.R k36 36 w' w.heap.size (fun _ => True) (.slice Ao9 t221.length co9) t221) ∧ Aside0 (Kd.R (Kd.int .i64) 3 w' w.heap.size (fun _ => True) u228004 x228004_1) ∧ Aside0 (w'.heap[gb219]? = some (.cells #[.int .i64 0, (.slice none 0 0), (.slice none 0 0), (.slice none 0 0), (.slice none 0 0)] 29 (0, 0))) ∧ Aside0 (w'.heap[gb226]? = some (.cells #[.int .i64 t220, (.slice Ao9 t221.length co9)] 26 (0, 0))) ∧ Aside0 (w'.heap[gb227]? = some (.cells #[.int .i64 t220, (.slice Ao9 t221.length co9), (.slice none 0 0), (.slice none 0 0), u228004] 29 (0, 0))) ∧ Aside0 (IsS86 w0 w' g s0_0 x1001_1 x1002_1) ∧ Aside0 (KeepBut w w' g none) ∧ Aside0 (Below w0.heap.size w0 w'))
 case atStart => exact ⟨(0), (t224), (t225), (([] : List Int)), (.slice none 0 0), (by first | rfl | (simp; done) | (simp [*]; done)), H', ⟨Nat.le_refl _⟩, ⟨by (with_reducible repeat first | apply Kd.R_alloc | apply Kd.R_drewN | apply Kd.R_drew); exact Kd.R_mono (Kd.R_far (p := ⟨gb227, 4, none⟩) (Kd.R_far (p := ⟨gb227, 3, none⟩) (Kd.R_far (p := ⟨gb227, 2, none⟩) (Kd.R_far (p := ⟨gb227, 1, none⟩) (Kd.R_far (p := ⟨gb227, 0, none⟩) (Kd.R_types HO223.out BK227.out (by decide)) (fun _ hk => hk.2) (.int .i64 t220)) (fun _ hk => hk.2) (.slice Ao9 t221.length co9)) (fun _ hk => hk.2) (.slice none 0 0)) (fun _ hk => hk.2) (.slice none 0 0)) (fun _ hk => hk.2) (.slice none 0 0)) (fun _ hk => trivial)⟩, ⟨by (with_reducible repeat first | apply Kd.R_alloc | apply Kd.R_drewN | apply Kd.R_drew); exact Kd.R_mono (Kd.R_far (p := ⟨gb227, 4, none⟩) (Kd.R_far (p := ⟨gb227, 3, none⟩) (Kd.R_far (p := ⟨gb227, 2, none⟩) (Kd.R_far (p := ⟨gb227, 1, none⟩) (Kd.R_far (p := ⟨gb227, 0, none⟩) (Kd.R_types HO223.out BK227.out (by decide)) (fun _ hk => hk.2) (.int .i64 t220)) (fun _ hk => hk.2) (.slice Ao9 t221.length co9)) (fun _ hk => hk.2) (.slice none 0 0)) (fun _ hk => hk.2) (.slice none 0 0)) (fun _ hk => hk.2) (.slice none 0 0)) (fun _ hk => trivial)⟩, ⟨by first | exact Kd.R_nil _ _ _ _ _ | exact Kd.N_nil _ _ _ _ _ | exact Kd.V_nil _ _ _ _ _ | exact Kd.Q_nil _ _ _ _ _ | exact Kd.S_nil _ _ _ _ _⟩, ⟨by (with_reducible repeat first | apply blk_drewN | apply blk_drew | apply blk_alloc); refine blk_far ?_ NB219_227.out _; (with_reducible repeat first | apply blk_drewN | apply blk_drew | apply blk_alloc); refine blk_far ?_ NB219_227.out _; (with_reducible repeat first | apply blk_drewN | apply blk_drew | apply blk_alloc); refine blk_far ?_ NB219_227.out _; (with_reducible repeat first | apply blk_drewN | apply blk_drew | apply blk_alloc); refine blk_far ?_ NB219_227.out _; (with_reducible repeat first | apply blk_drewN | apply blk_drew | apply blk_alloc); refine blk_far ?_ NB219_227.out _; (with_reducible repeat first | apply blk_drewN | apply blk_drew | apply blk_alloc); exact BK219.out⟩, ⟨by (with_reducible repeat first | apply blk_drewN | apply blk_drew | apply blk_alloc); refine blk_far ?_ NB226_227.out _; (with_reducible repeat first | apply blk_drewN | apply blk_drew | apply blk_alloc); refine blk_far ?_ NB226_227.out _; (with_reducible repeat first | apply blk_drewN | apply blk_drew | apply blk_alloc); refine blk_far ?_ NB226_227.out _; (with_reducible repeat first | apply blk_drewN | apply blk_drew | apply blk_alloc); refine blk_far ?_ NB226_227.out _; (with_reducible repeat first | apply blk_drewN | apply blk_drew | apply blk_alloc); refine blk_far ?_ NB226_227.out _; (with_reducible repeat first | apply blk_drewN | apply blk_drew | apply blk_alloc); exact BK226.out⟩, ⟨by (with_reducible repeat first | apply blk_drewN | apply blk_drew | apply blk_alloc); refine blk_put (cs := #[.int .i64 t220, .slice Ao9 t221.length co9, .slice none 0 0, .slice none 0 0, .slice none 0 0]) ?_ 4 _ rfl; (with_reducible repeat first | apply blk_drewN | apply blk_drew | apply blk_alloc); refine blk_put (cs := #[.int .i64 t220, .slice Ao9 t221.length co9, .slice none 0 0, .slice none 0 0, .slice none 0 0]) ?_ 3 _ rfl; (with_reducible repeat first | apply blk_drewN | apply blk_drew | apply blk_alloc); refine blk_put (cs := #[.int .i64 t220, .slice Ao9 t221.length co9, .slice none 0 0, .slice none 0 0, .slice none 0 0]) ?_ 2 _ rfl; (with_reducible repeat first | apply blk_drewN | apply blk_drew | apply blk_alloc); refine blk_put (cs := #[.int .i64 t220, .slice none 0 0, .slice none 0 0, .slice none 0 0, .slice none 0 0]) ?_ 1 _ rfl; (with_reducible repeat first | apply blk_drewN | apply blk_drew | apply blk_alloc); refine blk_put (cs := #[.int .i64 0, .slice none 0 0, .slice none 0 0, .slice none 0 0, .slice none 0 0]) ?_ 0 _ rfl; (with_reducible repeat first | apply blk_drewN | apply blk_drew | apply blk_alloc); exact BK227.out⟩, ⟨cI86_ HI0.out⟩, ⟨cK_ HK.out⟩, ⟨cBI86_ HB.out HI0.out⟩⟩
 case round =>
  clear H'
  try clear c1
  try clear p2
  try clear c4
  try clear c6
  try clear c7
  try clear c11
  try clear c12
  try clear c13
  try clear hcz14
  try clear hcz8
  try clear hfz14
  try clear hfz8
  obtain ⟨x5_1, x1001_1, x1002_1, x228004_1, u228004, rfl, HA, HK1, HO_227001, HO_228001, HO_228004, BK219, BK226, BK227, HI0, HK, HB⟩ := hrel
  cases gk with
  | zero => exact absurd HA.out (by simp [spec_l07State.l0])
  | succ k1 =>
   have H := HA.out
   clear HA
   simp only [spec_l07State.l0] at H
   by_cases c15 : x5_1 < t220
   ·
    rw [if_pos c15] at H
    have c15b0 : decide (x5_1 < t220) = true := decide_eq_true c15
    clear c15
    replace H := Option.bind_eq_some_iff.mp H
    obtain ⟨⟨t228, t229, t230⟩, A160, H⟩ := H
    (try dsimp only at H)
    have A16 := Aside0.mk A160
    clear A160
    replace H := Option.bind_eq_some_iff.mp H
    obtain ⟨⟨t231, t232, t233⟩, A170, H⟩ := H
    (try dsimp only at H)
    have A17 := Aside0.mk A170
    clear A170
    by_cases c18 : x228004_1.length < 17592186044416
    ·
     rw [if_pos c18] at H
     have LMc18 := Aside0.mk c18
     clear c18
     obtain ⟨y234, hy234⟩ : ∃ y_ : List Int, y_ = (x228004_1 ++ [wrap64 (t228 * t231)]) := ⟨_, rfl⟩
     replace H : (spec_l07State.l0 k1 (wrap64 (x5_1 + 1)) s0_0 t232 t233 t220 t221 t220 t221 y234) = some (r1, r2, r3, r4, r5, r6, r7) := by first | (rw [hy234]; with_reducible exact H) | (have H2_ := (Option.bind_some _ _).symm.trans H; rw [hy234]; with_reducible exact H2_) | (have H2_ := (Option.bind_some _ _).symm.trans H; with_reducible exact H2_) | with_reducible exact H | (rw [hy234]; exact H) | exact H
     have Ny234 := Aside0.mk hy234
     clear hy234
     have H' := Aside0.mk H
     clear H
     have hnb19 := NB226_219.out
     have hnc19 := NB219_226.out
     have hnb20 := NB226_227.out
     have hnc20 := NB227_226.out
     have hnb21 := NB226_0.out
     have hnc21 := NB0_226.out
     have hcz22 := cl2_ BK226.out
     have hfz22 := fr2_ BK226.out
     try go_wp2
     have n0_ := Aside0.mk (Kd.R_drew HO_227001.out)
     have n1_ := Aside0.mk (Kd.R_drew HO_228001.out)
     have n2_ := Aside0.mk (Kd.R_drew HO_228004.out)
     have n3_ := Aside0.mk (blk_drew BK219.out)
     have n4_ := Aside0.mk (blk_drew BK226.out)
     have n5_ := Aside0.mk (blk_drew BK227.out)
     have n6_ := Aside0.mk (IsS86.drew HI0.out)
     have n7_ := Aside0.mk (keep_drew HK.out)
     have n8_ := Aside0.mk (below_drew1 HB.out)
     clear HO_227001
     clear HO_228001
     clear HO_228004
     clear BK219
     clear BK226
     clear BK227
     clear HI0
     clear HK
     clear HB
     have HO_227001 := n0_
     have HO_228001 := n1_
     have HO_228004 := n2_
     have BK219 := n3_
     have BK226 := n4_
     have BK227 := n5_
     have HI0 := n6_
     have HK := n7_
     have HB := n8_
     clear n0_ n1_ n2_ n3_ n4_ n5_ n6_ n7_ n8_
     refine start_ (n := 11) (S := fun w' => w'.cell? ⟨gb227, 0, none⟩ = some (.int .i64 t220) ∧ w'.cell? ⟨gb227, 1, none⟩ = some (.slice Ao9 t221.length co9) ∧ w'.cell? ⟨gb227, 2, none⟩ = some (.slice none 0 0) ∧ w'.cell? ⟨gb227, 3, none⟩ = some (.slice none 0 0) ∧ w'.cell? ⟨gb227, 4, none⟩ = some (u228004)) (ds := [10]) #[N_,N_,N_,N_,N_,N_,N_,N_,N_,N_,N_] (by kernel_rfl) rfl rfl ⟨(blk_cell BK227.out 0).trans rfl, (blk_cell BK227.out 1).trans rfl, (blk_cell BK227.out 2).trans rfl, (blk_cell BK227.out 3).trans rfl, (blk_cell BK227.out 4).trans rfl⟩ (fun hHeld => ?_); refine with_tabW spec_l07State.tab6 spec_l07State.bits6 (fun HT_ HW_ => ?_)
     generalize wr.drew = w23 at HO_227001 HO_228001 HO_228004 BK219 BK226 BK227 HI0 HK HB hHeld ⊢
     refine pu_ HT_.out 0 19 #[Y_,N_,N_,N_,N_,N_,N_,N_,N_,N_,N_] ?_
     refine pu_ HT_.out 2 21 #[Y_,N_,Y_,N_,N_,N_,N_,N_,N_,N_,N_] ?_
     refine pu_ HT_.out 4 23 #[Y_,N_,Y_,N_,Y_,N_,N_,N_,N_,N_,N_] ?_
     refine tk_ HT_.out HW_.out hHeld 1 20 #[Y_,Y_,Y_,N_,Y_,N_,N_,N_,N_,N_,N_] ?_
     refine one_ (i := 3) (N := some 22) #[Y_,Y_,Y_,Y_,Y_,N_,N_,N_,N_,N_,N_] rfl rfl (one_of HT_.out (by kernel_rfl)) (by decide) (fun K hK => ?_)
     refine goes_ Try.func47 (by kernel_rfl) rfl #[.pointer (some ⟨g, 0, none⟩), .int .i64 4] (by rfl) rfl rfl (by (try simp only [List.map_toArray, List.map_cons, List.map_nil]); first | done | rfl | (simp only [List.length_drop, List.length_take]; rfl)) ?_
     with_reducible refine (spec_l01Below.calls g s0_0 x1001_1 x1002_1 4 t228 t229 t230 w0 _ ?side1 ?side2 A16.out).mono ?_
     (case side1 => exact cI86_ HI0.out)
     (case side2 => exact cBI86_ HB.out HI0.out)
     rintro e w24 ⟨rfl, hi, hb, hk⟩
     refine ⟨_, rfl, ?_⟩
     have n0_ := Aside0.mk (ske86_ HI0.out HO_227001.out hk)
     have n1_ := Aside0.mk (ske86_ HI0.out HO_228001.out hk)
     have n2_ := Aside0.mk (ske86_ HI0.out HO_228004.out hk)
     have n3_ := Aside0.mk (KeepBut.blk hk (g' := gb219) (o := .cells #[.int .i64 0, .slice none 0 0, .slice none 0 0, .slice none 0 0, .slice none 0 0] 29 (0, 0)) (cb_ BK219.out) NB219_0.out (by simp))
     have n4_ := Aside0.mk (KeepBut.blk hk (g' := gb226) (o := .cells #[.int .i64 t220, .slice Ao9 t221.length co9] 26 (0, 0)) (cb_ BK226.out) NB226_0.out (by simp))
     have n5_ := Aside0.mk (KeepBut.blk hk (g' := gb227) (o := .cells #[.int .i64 t220, .slice Ao9 t221.length co9, .slice none 0 0, .slice none 0 0, u228004] 29 (0, 0)) (cb_ BK227.out) NB227_0.out (by simp))
     have n6_ := Aside0.mk (KeepBut.trans (cK_ HK.out) hk (.inl rfl))
     have n7_ := Aside0.mk (hb)
     have n8_ := Aside0.mk (hi)
     clear HO_227001
     clear HO_228001
     clear HO_228004
     clear BK219
     clear BK226
     clear BK227
     clear HK
     clear HB
     clear HI0
     have HO_227001 := n0_
     have HO_228001 := n1_
     have HO_228004 := n2_
     have BK219 := n3_
     have BK226 := n4_
     have BK227 := n5_
     have HK := n6_
     have HB := n7_
     have HI0 := n8_
     clear n0_ n1_ n2_ n3_ n4_ n5_ n6_ n7_ n8_
     (try clear hb)
     (try clear hb2)
     (try clear hk)
     (try clear hi)
     refine hK.out _ _ ⟨(blk_cell BK227.out 0).trans rfl, (blk_cell BK227.out 1).trans rfl, (blk_cell BK227.out 2).trans rfl, (blk_cell BK227.out 3).trans rfl, (blk_cell BK227.out 4).trans rfl⟩ (fun hHeld => ?_)
     clear hK K
     refine norm_ (a' := ?_) ?_ ?_
     rotate_left
     ·
      show Act.put _ (some 22) _ = _
      simp only [Act.put, q1_, q2_, q3_, i64_w, i32_w]
      rfl
     refine one_ (i := 5) (N := some 24) #[Y_,Y_,Y_,Y_,Y_,Y_,N_,N_,N_,N_,N_] rfl rfl (one_of HT_.out (by kernel_rfl)) (by decide) (fun K hK => ?_)
     refine goes_ Try.func47 (by kernel_rfl) rfl #[.pointer (some ⟨g, 0, none⟩), .int .i64 5000] (by rfl) rfl rfl (by (try simp only [List.map_toArray, List.map_cons, List.map_nil]); first | done | rfl | (simp only [List.length_drop, List.length_take]; rfl)) ?_
     with_reducible refine (spec_l01Below.calls g s0_0 t229 t230 5000 t231 t232 t233 w0 _ ?side1 ?side2 A17.out).mono ?_
     (case side1 => exact cI86_ HI0.out)
     (case side2 => exact cBI86_ HB.out HI0.out)
     rintro e w25 ⟨rfl, hi, hb, hk⟩
     refine ⟨_, rfl, ?_⟩
     have n0_ := Aside0.mk (ske86_ HI0.out HO_227001.out hk)
     have n1_ := Aside0.mk (ske86_ HI0.out HO_228001.out hk)
     have n2_ := Aside0.mk (ske86_ HI0.out HO_228004.out hk)
     have n3_ := Aside0.mk (KeepBut.blk hk (g' := gb219) (o := .cells #[.int .i64 0, .slice none 0 0, .slice none 0 0, .slice none 0 0, .slice none 0 0] 29 (0, 0)) (cb_ BK219.out) NB219_0.out (by simp))
     have n4_ := Aside0.mk (KeepBut.blk hk (g' := gb226) (o := .cells #[.int .i64 t220, .slice Ao9 t221.length co9] 26 (0, 0)) (cb_ BK226.out) NB226_0.out (by simp))
     have n5_ := Aside0.mk (KeepBut.blk hk (g' := gb227) (o := .cells #[.int .i64 t220, .slice Ao9 t221.length co9, .slice none 0 0, .slice none 0 0, u228004] 29 (0, 0)) (cb_ BK227.out) NB227_0.out (by simp))
     have n6_ := Aside0.mk (KeepBut.trans (cK_ HK.out) hk (.inl rfl))
     have n7_ := Aside0.mk (hb)
     have n8_ := Aside0.mk (hi)
     clear HO_227001
     clear HO_228001
     clear HO_228004
     clear BK219
     clear BK226
     clear BK227
     clear HK
     clear HB
     clear HI0
     have HO_227001 := n0_
     have HO_228001 := n1_
     have HO_228004 := n2_
     have BK219 := n3_
     have BK226 := n4_
     have BK227 := n5_
     have HK := n6_
     have HB := n7_
     have HI0 := n8_
     clear n0_ n1_ n2_ n3_ n4_ n5_ n6_ n7_ n8_
     (try clear hb)
     (try clear hb2)
     (try clear hk)
     (try clear hi)
     refine hK.out _ _ ⟨(blk_cell BK227.out 0).trans rfl, (blk_cell BK227.out 1).trans rfl, (blk_cell BK227.out 2).trans rfl, (blk_cell BK227.out 3).trans rfl, (blk_cell BK227.out 4).trans rfl⟩ (fun hHeld => ?_)
     clear hK K
     refine norm_ (a' := ?_) ?_ ?_
     rotate_left
     ·
      show Act.put _ (some 24) _ = _
      simp only [Act.put, q1_, q2_, q3_, i64_w, i32_w]
      rfl
     refine pu_ HT_.out 6 25 #[Y_,Y_,Y_,Y_,Y_,Y_,Y_,N_,N_,N_,N_] ?_
     refine one_ (i := 7) (N := some 26) #[Y_,Y_,Y_,Y_,Y_,Y_,Y_,Y_,N_,N_,N_] rfl rfl (one_of HT_.out (by kernel_rfl)) (by decide) (fun K hK => ?_)
     refine value_ (w1 := ?_) (v := ?_) (by rfl) rfl ?_ ?_
     rotate_left 2
     ·
      go_simp
      constructor
      ·
       rfl
      ·
       rfl
     refine hK.out _ _ ⟨(blk_cell (blk_alloc BK227.out _) 0).trans rfl, (blk_cell (blk_alloc BK227.out _) 1).trans rfl, (blk_cell (blk_alloc BK227.out _) 2).trans rfl, (blk_cell (blk_alloc BK227.out _) 3).trans rfl, (blk_cell (blk_alloc BK227.out _) 4).trans rfl⟩ (fun hHeld => ?_)
     clear hK K
     refine norm_ (a' := ?_) ?_ ?_
     rotate_left
     ·
      show Act.put _ (some 26) _ = _
      simp only [Act.put, q1_, q2_, q3_, i64_w, i32_w]
      rfl
     refine one_ (i := 8) (N := some 27) #[Y_,Y_,Y_,Y_,Y_,Y_,Y_,Y_,Y_,N_,N_] rfl rfl (one_of HT_.out (by kernel_rfl)) (by decide) (fun K hK => ?_)
     refine Kd.R_append_step (Kd.int .i64) w.heap.size (by rfl) (.tmp 20) (.tmp 26) 27 3 (.int .i64 0) 8 rfl Try.underlying27 info3 rfl (by decide) (by omega) u228004 x228004_1 (wrap64 (t228 * t231)) [.int .i64 (wrap64 (t228 * t231))] (fun _ => True) (fun _ => False) rfl rfl ?aP (fun _ hk => hk.elim) ?aF ?aO (Below.refl _ _) ?aS ?aL ?_
     (case aP => exact rfl)
     (case aF => exact (fun _ _ => trivial))
     (case aO => exact (cR_ HO_228004.out))
     (case aS => exact (keep_size (w := w) (g := g) (row := none) (cK_ HK.out)))
     (case aL => have := LMc18.out; omega)
     intro v235 w26 ho hb hg hat
     rw [← Ny234.out] at ho
     have n0_ := Aside0.mk (Kd.R_over' (cR_ HO_227001.out) (Kd.R_typed (cR_ HO_228004.out)) (by decide) hg)
     have n1_ := Aside0.mk (Kd.R_over' (cR_ HO_228001.out) (Kd.R_typed (cR_ HO_228004.out)) (by decide) hg)
     have n2_ := Aside0.mk (blk_grown (g := gb219) (o := .cells #[.int .i64 0, .slice none 0 0, .slice none 0 0, .slice none 0 0, .slice none 0 0] 29 (0, 0)) (cb_ BK219.out) hg (Kd.R_ne HO_228004.out BK219.out (by decide)))
     have n3_ := Aside0.mk (blk_grown (g := gb226) (o := .cells #[.int .i64 t220, .slice Ao9 t221.length co9] 26 (0, 0)) (cb_ BK226.out) hg (Kd.R_ne HO_228004.out BK226.out (by decide)))
     have n4_ := Aside0.mk (blk_grown (g := gb227) (o := .cells #[.int .i64 t220, .slice Ao9 t221.length co9, .slice none 0 0, .slice none 0 0, u228004] 29 (0, 0)) (cb_ BK227.out) hg (Kd.R_ne HO_228004.out BK227.out (by decide)))
     have n5_ := Aside0.mk (IsS86.grown (cI86_ HI0.out) hg (IsS86.own_ne HI0.out HO_228004.out (by decide)))
     have n6_ := Aside0.mk (below_weaken (cBI86_ HB.out HI0.out) HL.out hb)
     have n7_ := Aside0.mk (KeepBut.trans (cK_ HK.out) (KeepBut.of_grown hg g) (Kd.R_base2 HO_228004.out))
     have n8_ := Aside0.mk (ho)
     clear HO_227001
     clear HO_228001
     clear BK219
     clear BK226
     clear BK227
     clear HI0
     clear HB
     clear HK
     clear HO_228004
     have HO_227001 := n0_
     have HO_228001 := n1_
     have BK219 := n2_
     have BK226 := n3_
     have BK227 := n4_
     have HI0 := n5_
     have HB := n6_
     have HK := n7_
     have HO236 := n8_
     clear n0_ n1_ n2_ n3_ n4_ n5_ n6_ n7_ n8_
     clear ho hb hg hat
     obtain ⟨Ao27, co27, eo27⟩ := Kd.R_slice HO236.out
     (first | subst eo27 | (injection eo27 with f1_ f2_ f3_; have f4_ := f1_.symm; have f5_ := f3_.symm; clear f1_ f2_ f3_; subst f4_; subst f5_))
     refine hK.out _ _ ⟨(blk_cell BK227.out 0).trans rfl, (blk_cell BK227.out 1).trans rfl, (blk_cell BK227.out 2).trans rfl, (blk_cell BK227.out 3).trans rfl, (blk_cell BK227.out 4).trans rfl⟩ (fun hHeld => ?_)
     clear hK K
     refine norm_ (a' := ?_) ?_ ?_
     rotate_left
     ·
      show Act.put _ (some 27) _ = _
      simp only [Act.put, q1_, q2_, q3_, i64_w, i32_w]
      rfl
     refine pu_ HT_.out 9 28 #[Y_,Y_,Y_,Y_,Y_,Y_,Y_,Y_,Y_,Y_,N_] ?_
     refine last_ (i := 10) (N := none) #[Y_,Y_,Y_,Y_,Y_,Y_,Y_,Y_,Y_,Y_,Y_] rfl rfl (one_of HT_.out (by kernel_rfl)) (by decide) (fun K hK => ?_)
     have hs28 : w26.cell? ⟨gb227, 4, none⟩ = some (u228004) := (blk_cell BK227.out 4).trans rfl
     have hfs28 := blk_frozen BK227.out 4
     have hns28_0 := NB219_227.out
     have hns28_1 := NB226_227.out
     have hms28_0 := NB227_219.out
     have hms28_1 := NB227_226.out
     refine skip_ (w1 := ?_) (by rfl) rfl ?_ ?_
     rotate_left
     ·
      go_simp
      rfl
     refine hK.out _ _ ?_
     clear hK K
     refine done_ (done_of HT_.out (by kernel_rfl)) ?_
     try go_wp2
     go_roundg k1
     case measure => have := HK1.out; omega
     case rel => exact ⟨(wrap64 (x5_1 + 1)), (t232), (t233), (y234), (.slice Ao27 y234.length co27), (by first | rfl | (simp; done) | (simp [*]; done)), H', ⟨by have := HK1.out; omega⟩, ⟨by (with_reducible repeat first | apply Kd.R_alloc | apply Kd.R_drewN | apply Kd.R_drew); exact Kd.R_mono (Kd.R_far (p := ⟨gb227, 4, none⟩) (Kd.R_types HO_227001.out BK227.out (by decide)) (fun _ hk => hk.2) (.slice Ao27 y234.length co27)) (fun _ hk => trivial)⟩, ⟨by (with_reducible repeat first | apply Kd.R_alloc | apply Kd.R_drewN | apply Kd.R_drew); exact Kd.R_mono (Kd.R_far (p := ⟨gb227, 4, none⟩) (Kd.R_types HO_228001.out BK227.out (by decide)) (fun _ hk => hk.2) (.slice Ao27 y234.length co27)) (fun _ hk => trivial)⟩, ⟨by (with_reducible repeat first | apply Kd.R_alloc | apply Kd.R_drewN | apply Kd.R_drew); exact Kd.R_mono (Kd.R_far (p := ⟨gb227, 4, none⟩) (Kd.R_types HO236.out BK227.out (by decide)) (fun _ hk => hk.2) (.slice Ao27 y234.length co27)) (fun _ hk => trivial)⟩, ⟨by (with_reducible repeat first | apply blk_drewN | apply blk_drew | apply blk_alloc); refine blk_far ?_ NB219_227.out _; (with_reducible repeat first | apply blk_drewN | apply blk_drew | apply blk_alloc); exact BK219.out⟩, ⟨by (with_reducible repeat first | apply blk_drewN | apply blk_drew | apply blk_alloc); refine blk_far ?_ NB226_227.out _; (with_reducible repeat first | apply blk_drewN | apply blk_drew | apply blk_alloc); exact BK226.out⟩, ⟨by (with_reducible repeat first | apply blk_drewN | apply blk_drew | apply blk_alloc); refine blk_put (cs := #[.int .i64 t220, .slice Ao9 t221.length co9, .slice none 0 0, .slice none 0 0, u228004]) ?_ 4 _ rfl; (with_reducible repeat first | apply blk_drewN | apply blk_drew | apply blk_alloc); exact BK227.out⟩, ⟨cI86_ HI0.out⟩, ⟨cK_ HK.out⟩, ⟨cBI86_ HB.out HI0.out⟩⟩
    ·
     rw [if_neg c18] at H
     exact absurd H (by simp)
   ·
    rw [if_neg c15] at H
    have c15b0 : decide (x5_1 < t220) = false := decide_eq_false c15
    clear c15
    replace H := Option.bind_eq_some_iff.mp H
    obtain ⟨⟨t237, t238, t239⟩, A290, H⟩ := H
    (try dsimp only at H)
    have A29 := Aside0.mk A290
    clear A290
    have H' := Aside0.mk H
    clear H
    have hnb30 := NB226_219.out
    have hnc30 := NB219_226.out
    have hnb31 := NB226_227.out
    have hnc31 := NB227_226.out
    have hnb32 := NB226_0.out
    have hnc32 := NB0_226.out
    have hcz33 := cl2_ BK226.out
    have hfz33 := fr2_ BK226.out
    go_wp2_with (first | ((with_reducible refine gate_callee (f := 47) rfl ?_); refine goesL_ (some 30) rfl rfl Try.func47 (by kernel_rfl) rfl #[.pointer (some ⟨g, 0, none⟩), .int .i64 20000] rfl (by (try simp only [List.map_toArray, List.map_cons, List.map_nil]); first | done | rfl | (simp only [List.length_drop, List.length_take]; rfl)) ?_; (with_reducible refine (spec_l01Below.calls g s0_0 x1001_1 x1002_1 20000 t237 t238 t239 w0 _ ?side1 ?side2 A29.out).mono ?_); (case side1 => exact cI86_ HI0.out); (case side2 => exact cBI86_ HB.out HI0.out); rintro e w34 ⟨rfl, hi, hb, hk⟩; refine ⟨_, rfl, ?_⟩; have n0_ := Aside0.mk (ske86_ HI0.out HO_227001.out hk); have n1_ := Aside0.mk (ske86_ HI0.out HO_228001.out hk); have n2_ := Aside0.mk (ske86_ HI0.out HO_228004.out hk); have n3_ := Aside0.mk (KeepBut.blk hk (g' := gb219) (o := .cells #[.int .i64 0, .slice none 0 0, .slice none 0 0, .slice none 0 0, .slice none 0 0] 29 (0, 0)) (cb_ BK219.out) NB219_0.out (by simp)); have n4_ := Aside0.mk (KeepBut.blk hk (g' := gb226) (o := .cells #[.int .i64 t220, .slice Ao9 t221.length co9] 26 (0, 0)) (cb_ BK226.out) NB226_0.out (by simp)); have n5_ := Aside0.mk (KeepBut.blk hk (g' := gb227) (o := .cells #[.int .i64 t220, .slice Ao9 t221.length co9, .slice none 0 0, .slice none 0 0, u228004] 29 (0, 0)) (cb_ BK227.out) NB227_0.out (by simp)); have n6_ := Aside0.mk (KeepBut.trans (cK_ HK.out) hk (.inl rfl)); have n7_ := Aside0.mk (hb); have n8_ := Aside0.mk (hi); clear HO_227001; clear HO_228001; clear HO_228004; clear BK219; clear BK226; clear BK227; clear HK; clear HB; clear HI0; have HO_227001 := n0_; have HO_228001 := n1_; have HO_228004 := n2_; have BK219 := n3_; have BK226 := n4_; have BK227 := n5_; have HK := n6_; have HB := n7_; have HI0 := n8_; clear n0_ n1_ n2_ n3_ n4_ n5_ n6_ n7_ n8_; (try clear hb); (try clear hb2); (try clear hk); (try clear hi)))
    go_loopg [7] k1 (fun kq v7 w' => ∃ (x7_2 : Int) (x1001_2 : Int) (x1002_2 : Int) (x228002_2 : List Int) (x228003_2 : List Int) (u228002 : Value) (u228003 : Value), v7 = .int .i64 x7_2 ∧ Aside0 (spec_l07State.l1 kq (wrap64 (1 + t237)) x7_2 s0_0 x1001_2 x1002_2 t220 t221 t220 t221 x228002_2 x228003_2 x228004_1 = some (r1, r2, r3, r4, r5, r6, r7)) ∧ Aside0 (kq ≤ k1) ∧ Aside0 (Kd.R k36 36 w' w.heap.size (fun _ => True) (.slice Ao9 t221.length co9) t221) ∧ Aside0 (Kd.R k36 36 w' w.heap.size (fun _ => True) (.slice Ao9 t221.length co9) t221) ∧ Aside0 (Kd.R (Kd.int .i64) 3 w' w.heap.size (fun k_ => some k_ ≠ (u228003 : Value).ownBlock ∧ some k_ ≠ (u228004 : Value).ownBlock) u228002 x228002_2) ∧ Aside0 (Kd.R (Kd.int .i64) 3 w' w.heap.size (fun k_ => some k_ ≠ (u228002 : Value).ownBlock ∧ some k_ ≠ (u228004 : Value).ownBlock) u228003 x228003_2) ∧ Aside0 (Kd.R (Kd.int .i64) 3 w' w.heap.size (fun k_ => some k_ ≠ (u228002 : Value).ownBlock ∧ some k_ ≠ (u228003 : Value).ownBlock) u228004 x228004_1) ∧ Aside0 (w'.heap[gb219]? = some (.cells #[.int .i64 0, (.slice none 0 0), (.slice none 0 0), (.slice none 0 0), (.slice none 0 0)] 29 (0, 0))) ∧ Aside0 (w'.heap[gb226]? = some (.cells #[.int .i64 t220, (.slice Ao9 t221.length co9)] 26 (0, 0))) ∧ Aside0 (w'.heap[gb227]? = some (.cells #[.int .i64 t220, (.slice Ao9 t221.length co9), u228002, u228003, u228004] 29 (0, 0))) ∧ Aside0 (IsS86 w0 w' g s0_0 x1001_2 x1002_2) ∧ Aside0 (KeepBut w w' g none) ∧ Aside0 (Below w0.heap.size w0 w'))
    case atStart => exact ⟨(0), (t238), (t239), (([] : List Int)), (([] : List Int)), (.slice none 0 0), (.slice none 0 0), (by first | rfl | (simp; done) | (simp [*]; done)), H', ⟨Nat.le_refl _⟩, ⟨cR_ HO_227001.out⟩, ⟨cR_ HO_228001.out⟩, ⟨by first | exact Kd.R_nil _ _ _ _ _ | exact Kd.N_nil _ _ _ _ _ | exact Kd.V_nil _ _ _ _ _ | exact Kd.Q_nil _ _ _ _ _ | exact Kd.S_nil _ _ _ _ _⟩, ⟨by first | exact Kd.R_nil _ _ _ _ _ | exact Kd.N_nil _ _ _ _ _ | exact Kd.V_nil _ _ _ _ _ | exact Kd.Q_nil _ _ _ _ _ | exact Kd.S_nil _ _ _ _ _⟩, ⟨by (with_reducible repeat first | apply Kd.R_alloc | apply Kd.R_drewN | apply Kd.R_drew); exact Kd.R_mono HO_228004.out (fun _ hk => ⟨(by simp [Value.ownBlock]), (by simp [Value.ownBlock])⟩)⟩, ⟨cb_ BK219.out⟩, ⟨cb_ BK226.out⟩, ⟨cb_ BK227.out⟩, ⟨cI86_ HI0.out⟩, ⟨cK_ HK.out⟩, ⟨cBI86_ HB.out HI0.out⟩⟩
    case round =>
     clear H'
     try clear c1
     try clear c2
     try clear p2
     try clear c3
     try clear c4
     try clear c6
     try clear p6
     try clear c7
     try clear c11
     try clear c12
     try clear c13
     try clear c15
     try clear c15b0
     try clear c18
     try clear c19
     try clear c20
     try clear c21
     try clear c30
     try clear c31
     try clear c32
     try clear hcz14
     try clear hcz22
     try clear hcz33
     try clear hcz8
     try clear hfz14
     try clear hfz22
     try clear hfz33
     try clear hfz8
     try clear p2
     obtain ⟨x7_2, x1001_2, x1002_2, x228002_2, x228003_2, u228002, u228003, rfl, HA, HK2, HO_227001, HO_228001, HO_228002, HO_228003, HO_228004, BK219, BK226, BK227, HI0, HK, HB⟩ := hrel
     cases gk with
     | zero => exact absurd HA.out (by simp [spec_l07State.l1])
     | succ k2 =>
      have H := HA.out
      clear HA
      simp only [spec_l07State.l1] at H
      by_cases c35 : x7_2 < (t221.length : Int)
      ·
       rw [if_pos c35] at H
       have c35b0 : decide (x7_2 < (t221.length : Int)) = true := decide_eq_true c35
       clear c35
       replace H := Option.bind_eq_some_iff.mp H
       obtain ⟨⟨t240, t241, t242⟩, A360, H⟩ := H
       (try dsimp only at H)
       have A36 := Aside0.mk A360
       clear A360
       replace H := Option.bind_eq_some_iff.mp H
       obtain ⟨⟨t243, t244, t245⟩, A370, H⟩ := H
       (try dsimp only at H)
       have A37 := Aside0.mk A370
       clear A370
       by_cases c38 : t243 = true
       ·
        subst c38
        have H1 := H; rw [if_pos rfl] at H1
        clear H
        have H := H1
        clear H1
        replace H := Option.bind_eq_some_iff.mp H
        obtain ⟨⟨t246, t247, t248⟩, A390, H⟩ := H
        (try dsimp only at H)
        have A39 := Aside0.mk A390
        clear A390
        by_cases c40 : x228002_2.length < 17592186044416
        ·
         rw [if_pos c40] at H
         have LMc40 := Aside0.mk c40
         clear c40
         obtain ⟨y249, hy249⟩ : ∃ y_ : List Int, y_ = (x228002_2 ++ [t246]) := ⟨_, rfl⟩
         replace H : ((spec_l01Below.f s0_0 t247 t248 200).bind fun bt252 => ((spec_l01Below.f s0_0 bt252.2.1 bt252.2.2 (wrap64 (t246 + 1))).bind fun bt255 => (if x228003_2.length < 17592186044416 then (spec_l07State.l1 k2 (wrap64 (1 + t237)) (wrap64 (x7_2 + 1)) s0_0 bt255.2.1 bt255.2.2 t220 t221 t220 t221 y249 (x228003_2 ++ [wrap64 ((wrap64 (t246 * bt252.1)) + bt255.1)]) x228004_1) else (none)))) = some (r1, r2, r3, r4, r5, r6, r7) := by first | (rw [hy249]; with_reducible exact H) | (have H2_ := (Option.bind_some _ _).symm.trans H; rw [hy249]; with_reducible exact H2_) | (have H2_ := (Option.bind_some _ _).symm.trans H; with_reducible exact H2_) | with_reducible exact H | (rw [hy249]; exact H) | exact H
         have Ny249 := Aside0.mk hy249
         clear hy249
         replace H := Option.bind_eq_some_iff.mp H
         obtain ⟨⟨t252, t253, t254⟩, A410, H⟩ := H
         (try dsimp only at H)
         have A41 := Aside0.mk A410
         clear A410
         replace H := Option.bind_eq_some_iff.mp H
         obtain ⟨⟨t255, t256, t257⟩, A420, H⟩ := H
         (try dsimp only at H)
         have A42 := Aside0.mk A420
         clear A420
         by_cases c43 : x228003_2.length < 17592186044416
         ·
          rw [if_pos c43] at H
          have LMc43 := Aside0.mk c43
          clear c43
          obtain ⟨y258, hy258⟩ : ∃ y_ : List Int, y_ = (x228003_2 ++ [wrap64 ((wrap64 (t246 * t252)) + t255)]) := ⟨_, rfl⟩
          replace H : (spec_l07State.l1 k2 (wrap64 (1 + t237)) (wrap64 (x7_2 + 1)) s0_0 t256 t257 t220 t221 t220 t221 y249 y258 x228004_1) = some (r1, r2, r3, r4, r5, r6, r7) := by first | (rw [hy258]; with_reducible exact H) | (have H2_ := (Option.bind_some _ _).symm.trans H; rw [hy258]; with_reducible exact H2_) | (have H2_ := (Option.bind_some _ _).symm.trans H; with_reducible exact H2_) | with_reducible exact H | (rw [hy258]; exact H) | exact H
          have Ny258 := Aside0.mk hy258
          clear hy258
          have H' := Aside0.mk H
          clear H
          have hnb44 := NB226_219.out
          have hnc44 := NB219_226.out
          have hnb45 := NB226_227.out
          have hnc45 := NB227_226.out
          have hnb46 := NB226_0.out
          have hnc46 := NB0_226.out
          have hcz47 := cl2_ BK226.out
          have hfz47 := fr2_ BK226.out
          try go_wp2_with (first | ((with_reducible refine gate_callee (f := 47) rfl ?_); refine goesL_ (some 41) rfl rfl Try.func47 (by kernel_rfl) rfl #[.pointer (some ⟨g, 0, none⟩), .int .i64 (wrap64 (1 + t237))] rfl (by (try simp only [List.map_toArray, List.map_cons, List.map_nil]); first | done | rfl | (simp only [List.length_drop, List.length_take]; rfl)) ?_; (with_reducible refine (spec_l01Below.calls g s0_0 x1001_2 x1002_2 (wrap64 (1 + t237)) t240 t241 t242 w0 _ ?side1 ?side2 A36.out).mono ?_); (case side1 => exact cI86_ HI0.out); (case side2 => exact cBI86_ HB.out HI0.out); rintro e w48 ⟨rfl, hi, hb, hk⟩; refine ⟨_, rfl, ?_⟩; have n0_ := Aside0.mk (ske86_ HI0.out HO_227001.out hk); have n1_ := Aside0.mk (ske86_ HI0.out HO_228001.out hk); have n2_ := Aside0.mk (ske86_ HI0.out HO_228002.out hk); have n3_ := Aside0.mk (ske86_ HI0.out HO_228003.out hk); have n4_ := Aside0.mk (ske86_ HI0.out HO_228004.out hk); have n5_ := Aside0.mk (KeepBut.blk hk (g' := gb219) (o := .cells #[.int .i64 0, .slice none 0 0, .slice none 0 0, .slice none 0 0, .slice none 0 0] 29 (0, 0)) (cb_ BK219.out) NB219_0.out (by simp)); have n6_ := Aside0.mk (KeepBut.blk hk (g' := gb226) (o := .cells #[.int .i64 t220, .slice Ao9 t221.length co9] 26 (0, 0)) (cb_ BK226.out) NB226_0.out (by simp)); have n7_ := Aside0.mk (KeepBut.blk hk (g' := gb227) (o := .cells #[.int .i64 t220, .slice Ao9 t221.length co9, u228002, u228003, u228004] 29 (0, 0)) (cb_ BK227.out) NB227_0.out (by simp)); have n8_ := Aside0.mk (KeepBut.trans (cK_ HK.out) hk (.inl rfl)); have n9_ := Aside0.mk (hb); have n10_ := Aside0.mk (hi); clear HO_227001; clear HO_228001; clear HO_228002; clear HO_228003; clear HO_228004; clear BK219; clear BK226; clear BK227; clear HK; clear HB; clear HI0; have HO_227001 := n0_; have HO_228001 := n1_; have HO_228002 := n2_; have HO_228003 := n3_; have HO_228004 := n4_; have BK219 := n5_; have BK226 := n6_; have BK227 := n7_; have HK := n8_; have HB := n9_; have HI0 := n10_; clear n0_ n1_ n2_ n3_ n4_ n5_ n6_ n7_ n8_ n9_ n10_; (try clear hb); (try clear hb2); (try clear hk); (try clear hi)) | ((with_reducible refine gate_callee (f := 84) rfl ?_); refine goesL_ (some 43) rfl rfl Try.func84 (by kernel_rfl) rfl #[.pointer (some ⟨g, 0, none⟩), .int .i64 6] rfl (by (try simp only [List.map_toArray, List.map_cons, List.map_nil]); first | done | rfl | (simp only [List.length_drop, List.length_take]; rfl)) ?_; (with_reducible refine (spec_l01Once.calls g s0_0 t241 t242 6 true t244 t245 w0 _ ?side1 ?side2 A37.out).mono ?_); (case side1 => exact cI86_ HI0.out); (case side2 => exact cBI86_ HB.out HI0.out); rintro e w49 ⟨rfl, hi, hb, hk⟩; refine ⟨_, rfl, ?_⟩; have n0_ := Aside0.mk (ske86_ HI0.out HO_227001.out hk); have n1_ := Aside0.mk (ske86_ HI0.out HO_228001.out hk); have n2_ := Aside0.mk (ske86_ HI0.out HO_228002.out hk); have n3_ := Aside0.mk (ske86_ HI0.out HO_228003.out hk); have n4_ := Aside0.mk (ske86_ HI0.out HO_228004.out hk); have n5_ := Aside0.mk (KeepBut.blk hk (g' := gb219) (o := .cells #[.int .i64 0, .slice none 0 0, .slice none 0 0, .slice none 0 0, .slice none 0 0] 29 (0, 0)) (cb_ BK219.out) NB219_0.out (by simp)); have n6_ := Aside0.mk (KeepBut.blk hk (g' := gb226) (o := .cells #[.int .i64 t220, .slice Ao9 t221.length co9] 26 (0, 0)) (cb_ BK226.out) NB226_0.out (by simp)); have n7_ := Aside0.mk (KeepBut.blk hk (g' := gb227) (o := .cells #[.int .i64 t220, .slice Ao9 t221.length co9, u228002, u228003, u228004] 29 (0, 0)) (cb_ BK227.out) NB227_0.out (by simp)); have n8_ := Aside0.mk (KeepBut.trans (cK_ HK.out) hk (.inl rfl)); have n9_ := Aside0.mk (hb); have n10_ := Aside0.mk (hi); clear HO_227001; clear HO_228001; clear HO_228002; clear HO_228003; clear HO_228004; clear BK219; clear BK226; clear BK227; clear HK; clear HB; clear HI0; have HO_227001 := n0_; have HO_228001 := n1_; have HO_228002 := n2_; have HO_228003 := n3_; have HO_228004 := n4_; have BK219 := n5_; have BK226 := n6_; have BK227 := n7_; have HK := n8_; have HB := n9_; have HI0 := n10_; clear n0_ n1_ n2_ n3_ n4_ n5_ n6_ n7_ n8_ n9_ n10_; (try clear hb); (try clear hb2); (try clear hk); (try clear hi)) | ((with_reducible refine gate_callee (f := 47) rfl ?_); refine goesL_ (some 45) rfl rfl Try.func47 (by kernel_rfl) rfl #[.pointer (some ⟨g, 0, none⟩), .int .i64 3] rfl (by (try simp only [List.map_toArray, List.map_cons, List.map_nil]); first | done | rfl | (simp only [List.length_drop, List.length_take]; rfl)) ?_; (with_reducible refine (spec_l01Below.calls g s0_0 t244 t245 3 t246 t247 t248 w0 _ ?side1 ?side2 A39.out).mono ?_); (case side1 => exact cI86_ HI0.out); (case side2 => exact cBI86_ HB.out HI0.out); rintro e w50 ⟨rfl, hi, hb, hk⟩; refine ⟨_, rfl, ?_⟩; have n0_ := Aside0.mk (ske86_ HI0.out HO_227001.out hk); have n1_ := Aside0.mk (ske86_ HI0.out HO_228001.out hk); have n2_ := Aside0.mk (ske86_ HI0.out HO_228002.out hk); have n3_ := Aside0.mk (ske86_ HI0.out HO_228003.out hk); have n4_ := Aside0.mk (ske86_ HI0.out HO_228004.out hk); have n5_ := Aside0.mk (KeepBut.blk hk (g' := gb219) (o := .cells #[.int .i64 0, .slice none 0 0, .slice none 0 0, .slice none 0 0, .slice none 0 0] 29 (0, 0)) (cb_ BK219.out) NB219_0.out (by simp)); have n6_ := Aside0.mk (KeepBut.blk hk (g' := gb226) (o := .cells #[.int .i64 t220, .slice Ao9 t221.length co9] 26 (0, 0)) (cb_ BK226.out) NB226_0.out (by simp)); have n7_ := Aside0.mk (KeepBut.blk hk (g' := gb227) (o := .cells #[.int .i64 t220, .slice Ao9 t221.length co9, u228002, u228003, u228004] 29 (0, 0)) (cb_ BK227.out) NB227_0.out (by simp)); have n8_ := Aside0.mk (KeepBut.trans (cK_ HK.out) hk (.inl rfl)); have n9_ := Aside0.mk (hb); have n10_ := Aside0.mk (hi); clear HO_227001; clear HO_228001; clear HO_228002; clear HO_228003; clear HO_228004; clear BK219; clear BK226; clear BK227; clear HK; clear HB; clear HI0; have HO_227001 := n0_; have HO_228001 := n1_; have HO_228002 := n2_; have HO_228003 := n3_; have HO_228004 := n4_; have BK219 := n5_; have BK226 := n6_; have BK227 := n7_; have HK := n8_; have HB := n9_; have HI0 := n10_; clear n0_ n1_ n2_ n3_ n4_ n5_ n6_ n7_ n8_ n9_ n10_; (try clear hb); (try clear hb2); (try clear hk); (try clear hi); have hnb51 := NB227_219.out; have hnc51 := NB219_227.out; have hnb52 := NB227_0.out; have hnc52 := NB0_227.out; have hcz53 := cl5_ BK227.out; have hfz53 := fr5_ BK227.out) | ((with_reducible refine gate_builtin (b := .append) (xs := #[.tmp 47, .tmp 49]) rfl ?_); at_builtin; refine Kd.R_append (Kd.int .i64) w.heap.size rfl (.tmp 47) (.tmp 49) 27 3 (.int .i64 0) 8 rfl Try.underlying27 info3 rfl (by decide) (by omega) u228002 x228002_2 t246 [.int .i64 t246] (fun k_ => some k_ ≠ (u228003 : Value).ownBlock ∧ some k_ ≠ (u228004 : Value).ownBlock) (fun _ => False) rfl rfl ?aP (fun _ hk => hk.elim) ?aF ?aO (Below.refl _ _) ?aS ?aL ?_; (case aP => exact rfl); (case aF => exact (fun k_ hk => ⟨Kd.fresh' (Kd.R_lt (cR_ HO_228003.out)) k_ hk, Kd.fresh' (Kd.R_lt (cR_ HO_228004.out)) k_ hk⟩)); (case aO => exact (cR_ HO_228002.out)); (case aS => exact (keep_size (w := w) (g := g) (row := none) (cK_ HK.out))); (case aL => have := LMc40.out; omega); intro v250 w54 ho hb hg hat; rw [← Ny249.out] at ho; have n0_ := Aside0.mk (Kd.R_over' (cR_ HO_227001.out) (Kd.R_typed (cR_ HO_228002.out)) (by decide) hg); have n1_ := Aside0.mk (Kd.R_over' (cR_ HO_228001.out) (Kd.R_typed (cR_ HO_228002.out)) (by decide) hg); have n2_ := Aside0.mk (Kd.R_after (ok := (fun k_ => some k_ ≠ (u228004 : Value).ownBlock)) (by (with_reducible repeat first | apply Kd.R_alloc | apply Kd.R_drewN | apply Kd.R_drew); exact Kd.R_mono HO_228003.out (fun _ hk => ⟨hk.2, hk.1⟩)) hg hat); have n3_ := Aside0.mk (Kd.R_after (ok := (fun k_ => some k_ ≠ (u228003 : Value).ownBlock)) (by (with_reducible repeat first | apply Kd.R_alloc | apply Kd.R_drewN | apply Kd.R_drew); exact Kd.R_mono HO_228004.out (fun _ hk => ⟨hk.2, hk.1⟩)) hg hat); have n4_ := Aside0.mk (blk_grown (g := gb219) (o := .cells #[.int .i64 0, .slice none 0 0, .slice none 0 0, .slice none 0 0, .slice none 0 0] 29 (0, 0)) (cb_ BK219.out) hg (Kd.R_ne HO_228002.out BK219.out (by decide))); have n5_ := Aside0.mk (blk_grown (g := gb226) (o := .cells #[.int .i64 t220, .slice Ao9 t221.length co9] 26 (0, 0)) (cb_ BK226.out) hg (Kd.R_ne HO_228002.out BK226.out (by decide))); have n6_ := Aside0.mk (blk_grown (g := gb227) (o := .cells #[.int .i64 t220, .slice Ao9 t221.length co9, u228002, u228003, u228004] 29 (0, 0)) (cb_ BK227.out) hg (Kd.R_ne HO_228002.out BK227.out (by decide))); have n7_ := Aside0.mk (IsS86.grown (cI86_ HI0.out) hg (IsS86.own_ne HI0.out HO_228002.out (by decide))); have n8_ := Aside0.mk (below_weaken (cBI86_ HB.out HI0.out) HL.out hb); have n9_ := Aside0.mk (KeepBut.trans (cK_ HK.out) (KeepBut.of_grown hg g) (Kd.R_base2 HO_228002.out)); have n10_ := Aside0.mk (ho); clear HO_227001; clear HO_228001; clear HO_228003; clear HO_228004; clear BK219; clear BK226; clear BK227; clear HI0; clear HB; clear HK; clear HO_228002; have HO_227001 := n0_; have HO_228001 := n1_; have HO_228003 := n2_; have HO_228004 := n3_; have BK219 := n4_; have BK226 := n5_; have BK227 := n6_; have HI0 := n7_; have HB := n8_; have HK := n9_; have HO251 := n10_; clear n0_ n1_ n2_ n3_ n4_ n5_ n6_ n7_ n8_ n9_ n10_; clear ho hb hg hat; obtain ⟨Ao55, co55, eo55⟩ := Kd.R_slice HO251.out; subst eo55; have hcz56 := cl5_ BK227.out; have hfz56 := fr5_ BK227.out))
          have n0_ : Aside0 (Kd.R k36 36 (w54.setCell ⟨gb227, 2, none⟩ (.slice Ao55 y249.length co55)) w.heap.size (fun _ => True) (.slice Ao9 t221.length co9) t221) := ⟨by (with_reducible repeat first | apply Kd.R_alloc | apply Kd.R_drewN | apply Kd.R_drew); exact Kd.R_mono (Kd.R_far (p := ⟨gb227, 2, none⟩) (Kd.R_types HO_227001.out BK227.out (by decide)) (fun _ hk => hk.2) (.slice Ao55 y249.length co55)) (fun _ hk => trivial)⟩
          have n1_ : Aside0 (Kd.R k36 36 (w54.setCell ⟨gb227, 2, none⟩ (.slice Ao55 y249.length co55)) w.heap.size (fun _ => True) (.slice Ao9 t221.length co9) t221) := ⟨by (with_reducible repeat first | apply Kd.R_alloc | apply Kd.R_drewN | apply Kd.R_drew); exact Kd.R_mono (Kd.R_far (p := ⟨gb227, 2, none⟩) (Kd.R_types HO_228001.out BK227.out (by decide)) (fun _ hk => hk.2) (.slice Ao55 y249.length co55)) (fun _ hk => trivial)⟩
          have n2_ : Aside0 (Kd.R (Kd.int .i64) 3 (w54.setCell ⟨gb227, 2, none⟩ (.slice Ao55 y249.length co55)) w.heap.size (fun k_ => some k_ ≠ (u228004 : Value).ownBlock ∧ some k_ ≠ (.slice Ao55 y249.length co55 : Value).ownBlock) u228003 x228003_2) := ⟨by (with_reducible repeat first | apply Kd.R_alloc | apply Kd.R_drewN | apply Kd.R_drew); exact Kd.R_mono (Kd.R_far (p := ⟨gb227, 2, none⟩) (Kd.R_types HO_228003.out BK227.out (by decide)) (fun _ hk => hk.2) (.slice Ao55 y249.length co55)) (fun _ hk => ⟨hk.1.1, hk.1.2⟩)⟩
          have n3_ : Aside0 (Kd.R (Kd.int .i64) 3 (w54.setCell ⟨gb227, 2, none⟩ (.slice Ao55 y249.length co55)) w.heap.size (fun k_ => some k_ ≠ (u228003 : Value).ownBlock ∧ some k_ ≠ (.slice Ao55 y249.length co55 : Value).ownBlock) u228004 x228004_1) := ⟨by (with_reducible repeat first | apply Kd.R_alloc | apply Kd.R_drewN | apply Kd.R_drew); exact Kd.R_mono (Kd.R_far (p := ⟨gb227, 2, none⟩) (Kd.R_types HO_228004.out BK227.out (by decide)) (fun _ hk => hk.2) (.slice Ao55 y249.length co55)) (fun _ hk => ⟨hk.1.1, hk.1.2⟩)⟩
          have n4_ : Aside0 (Kd.R (Kd.int .i64) 3 (w54.setCell ⟨gb227, 2, none⟩ (.slice Ao55 y249.length co55)) w.heap.size (fun k_ => some k_ ≠ (u228003 : Value).ownBlock ∧ some k_ ≠ (u228004 : Value).ownBlock) (.slice Ao55 y249.length co55) y249) := ⟨by (with_reducible repeat first | apply Kd.R_alloc | apply Kd.R_drewN | apply Kd.R_drew); exact Kd.R_mono (Kd.R_far (p := ⟨gb227, 2, none⟩) (Kd.R_types HO251.out BK227.out (by decide)) (fun _ hk => hk.2) (.slice Ao55 y249.length co55)) (fun _ hk => ⟨hk.1.1, hk.1.2⟩)⟩
          have n5_ : Aside0 ((w54.setCell ⟨gb227, 2, none⟩ (.slice Ao55 y249.length co55)).heap[gb219]? = some (.cells #[.int .i64 0, .slice none 0 0, .slice none 0 0, .slice none 0 0, .slice none 0 0] 29 (0, 0))) := ⟨by (with_reducible repeat first | apply blk_drewN | apply blk_drew | apply blk_alloc); refine blk_far ?_ NB219_227.out _; (with_reducible repeat first | apply blk_drewN | apply blk_drew | apply blk_alloc); exact BK219.out⟩
          have n6_ : Aside0 ((w54.setCell ⟨gb227, 2, none⟩ (.slice Ao55 y249.length co55)).heap[gb226]? = some (.cells #[.int .i64 t220, .slice Ao9 t221.length co9] 26 (0, 0))) := ⟨by (with_reducible repeat first | apply blk_drewN | apply blk_drew | apply blk_alloc); refine blk_far ?_ NB226_227.out _; (with_reducible repeat first | apply blk_drewN | apply blk_drew | apply blk_alloc); exact BK226.out⟩
          have n7_ : Aside0 ((w54.setCell ⟨gb227, 2, none⟩ (.slice Ao55 y249.length co55)).heap[gb227]? = some (.cells #[.int .i64 t220, .slice Ao9 t221.length co9, .slice Ao55 y249.length co55, u228003, u228004] 29 (0, 0))) := ⟨by (with_reducible repeat first | apply blk_drewN | apply blk_drew | apply blk_alloc); refine blk_put (cs := #[.int .i64 t220, .slice Ao9 t221.length co9, u228002, u228003, u228004]) ?_ 2 _ rfl; (with_reducible repeat first | apply blk_drewN | apply blk_drew | apply blk_alloc); exact BK227.out⟩
          have n8_ : Aside0 (IsS86 w0 (w54.setCell ⟨gb227, 2, none⟩ (.slice Ao55 y249.length co55)) g s0_0 t247 t248) := ⟨cI86_ HI0.out⟩
          have n9_ : Aside0 (KeepBut w (w54.setCell ⟨gb227, 2, none⟩ (.slice Ao55 y249.length co55)) g none) := ⟨cK_ HK.out⟩
          have n10_ : Aside0 (Below w0.heap.size w0 (w54.setCell ⟨gb227, 2, none⟩ (.slice Ao55 y249.length co55))) := ⟨cBI86_ HB.out HI0.out⟩
          (try clear HO_227001)
          (try clear HO_228001)
          (try clear HO_228003)
          (try clear HO_228004)
          (try clear HO251)
          (try clear BK219)
          (try clear BK226)
          (try clear BK227)
          (try clear HI0)
          (try clear HK)
          (try clear HB)
          generalize (w54.setCell ⟨gb227, 2, none⟩ (.slice Ao55 y249.length co55)) = w57 at n0_ n1_ n2_ n3_ n4_ n5_ n6_ n7_ n8_ n9_ n10_ ⊢
          have HO_227001 := n0_
          have HO_228001 := n1_
          have HO_228003 := n2_
          have HO_228004 := n3_
          have HO251 := n4_
          have BK219 := n5_
          have BK226 := n6_
          have BK227 := n7_
          have HI0 := n8_
          have HK := n9_
          have HB := n10_
          clear n0_ n1_ n2_ n3_ n4_ n5_ n6_ n7_ n8_ n9_ n10_
          have n0_ := Aside0.mk (Kd.R_drew HO_227001.out)
          have n1_ := Aside0.mk (Kd.R_drew HO_228001.out)
          have n2_ := Aside0.mk (Kd.R_drew HO_228003.out)
          have n3_ := Aside0.mk (Kd.R_drew HO_228004.out)
          have n4_ := Aside0.mk (Kd.R_drew HO251.out)
          have n5_ := Aside0.mk (blk_drew BK219.out)
          have n6_ := Aside0.mk (blk_drew BK226.out)
          have n7_ := Aside0.mk (blk_drew BK227.out)
          have n8_ := Aside0.mk (IsS86.drew HI0.out)
          have n9_ := Aside0.mk (keep_drew HK.out)
          have n10_ := Aside0.mk (below_drew1 HB.out)
          clear HO_227001
          clear HO_228001
          clear HO_228003
          clear HO_228004
          clear HO251
          clear BK219
          clear BK226
          clear BK227
          clear HI0
          clear HK
          clear HB
          have HO_227001 := n0_
          have HO_228001 := n1_
          have HO_228003 := n2_
          have HO_228004 := n3_
          have HO251 := n4_
          have BK219 := n5_
          have BK226 := n6_
          have BK227 := n7_
          have HI0 := n8_
          have HK := n9_
          have HB := n10_
          clear n0_ n1_ n2_ n3_ n4_ n5_ n6_ n7_ n8_ n9_ n10_
          refine start_ (n := 15) (S := fun w' => w'.cell? ⟨gb227, 0, none⟩ = some (.int .i64 t220) ∧ w'.cell? ⟨gb227, 1, none⟩ = some (.slice Ao9 t221.length co9) ∧ w'.cell? ⟨gb227, 2, none⟩ = some (.slice Ao55 y249.length co55) ∧ w'.cell? ⟨gb227, 3, none⟩ = some (u228003) ∧ w'.cell? ⟨gb227, 4, none⟩ = some (u228004)) (ds := [14]) #[N_,N_,N_,N_,N_,N_,N_,N_,N_,N_,N_,N_,N_,N_,N_] (by kernel_rfl) rfl rfl ⟨(blk_cell BK227.out 0).trans rfl, (blk_cell BK227.out 1).trans rfl, (blk_cell BK227.out 2).trans rfl, (blk_cell BK227.out 3).trans rfl, (blk_cell BK227.out 4).trans rfl⟩ (fun hHeld => ?_); refine with_tabW spec_l07State.tab15 spec_l07State.bits15 (fun HT_ HW_ => ?_)
          generalize w57.drew = w58 at HO_227001 HO_228001 HO_228003 HO_228004 HO251 BK219 BK226 BK227 HI0 HK HB hHeld ⊢
          refine pu_ HT_.out 0 52 #[Y_,N_,N_,N_,N_,N_,N_,N_,N_,N_,N_,N_,N_,N_,N_] ?_
          refine pu_ HT_.out 2 54 #[Y_,N_,Y_,N_,N_,N_,N_,N_,N_,N_,N_,N_,N_,N_,N_] ?_
          refine pu_ HT_.out 3 55 #[Y_,N_,Y_,Y_,N_,N_,N_,N_,N_,N_,N_,N_,N_,N_,N_] ?_
          refine pu_ HT_.out 6 58 #[Y_,N_,Y_,Y_,N_,N_,Y_,N_,N_,N_,N_,N_,N_,N_,N_] ?_
          refine pu_ HT_.out 7 59 #[Y_,N_,Y_,Y_,N_,N_,Y_,Y_,N_,N_,N_,N_,N_,N_,N_] ?_
          refine pu_ HT_.out 8 60 #[Y_,N_,Y_,Y_,N_,N_,Y_,Y_,Y_,N_,N_,N_,N_,N_,N_] ?_
          refine tk_ HT_.out HW_.out hHeld 1 53 #[Y_,Y_,Y_,Y_,N_,N_,Y_,Y_,Y_,N_,N_,N_,N_,N_,N_] ?_
          refine one_ (i := 4) (N := some 56) #[Y_,Y_,Y_,Y_,Y_,N_,Y_,Y_,Y_,N_,N_,N_,N_,N_,N_] rfl rfl (one_of HT_.out (by kernel_rfl)) (by decide) (fun K hK => ?_)
          refine goes_ Try.func47 (by kernel_rfl) rfl #[.pointer (some ⟨g, 0, none⟩), .int .i64 200] (by rfl) rfl rfl (by (try simp only [List.map_toArray, List.map_cons, List.map_nil]); first | done | rfl | (simp only [List.length_drop, List.length_take]; rfl)) ?_
          with_reducible refine (spec_l01Below.calls g s0_0 t247 t248 200 t252 t253 t254 w0 _ ?side1 ?side2 A41.out).mono ?_
          (case side1 => exact cI86_ HI0.out)
          (case side2 => exact cBI86_ HB.out HI0.out)
          rintro e w59 ⟨rfl, hi, hb, hk⟩
          refine ⟨_, rfl, ?_⟩
          have n0_ := Aside0.mk (ske86_ HI0.out HO_227001.out hk)
          have n1_ := Aside0.mk (ske86_ HI0.out HO_228001.out hk)
          have n2_ := Aside0.mk (ske86_ HI0.out HO_228003.out hk)
          have n3_ := Aside0.mk (ske86_ HI0.out HO_228004.out hk)
          have n4_ := Aside0.mk (KeepBut.blk hk (g' := gb219) (o := .cells #[.int .i64 0, .slice none 0 0, .slice none 0 0, .slice none 0 0, .slice none 0 0] 29 (0, 0)) (cb_ BK219.out) NB219_0.out (by simp))
          have n5_ := Aside0.mk (KeepBut.blk hk (g' := gb226) (o := .cells #[.int .i64 t220, .slice Ao9 t221.length co9] 26 (0, 0)) (cb_ BK226.out) NB226_0.out (by simp))
          have n6_ := Aside0.mk (KeepBut.blk hk (g' := gb227) (o := .cells #[.int .i64 t220, .slice Ao9 t221.length co9, .slice Ao55 y249.length co55, u228003, u228004] 29 (0, 0)) (cb_ BK227.out) NB227_0.out (by simp))
          have n7_ := Aside0.mk (ske86_ HI0.out HO251.out hk)
          have n8_ := Aside0.mk (KeepBut.trans (cK_ HK.out) hk (.inl rfl))
          have n9_ := Aside0.mk (hb)
          have n10_ := Aside0.mk (hi)
          clear HO_227001
          clear HO_228001
          clear HO_228003
          clear HO_228004
          clear BK219
          clear BK226
          clear BK227
          clear HO251
          clear HK
          clear HB
          clear HI0
          have HO_227001 := n0_
          have HO_228001 := n1_
          have HO_228003 := n2_
          have HO_228004 := n3_
          have BK219 := n4_
          have BK226 := n5_
          have BK227 := n6_
          have HO251 := n7_
          have HK := n8_
          have HB := n9_
          have HI0 := n10_
          clear n0_ n1_ n2_ n3_ n4_ n5_ n6_ n7_ n8_ n9_ n10_
          (try clear hb)
          (try clear hb2)
          (try clear hk)
          (try clear hi)
          refine hK.out _ _ ⟨(blk_cell BK227.out 0).trans rfl, (blk_cell BK227.out 1).trans rfl, (blk_cell BK227.out 2).trans rfl, (blk_cell BK227.out 3).trans rfl, (blk_cell BK227.out 4).trans rfl⟩ (fun hHeld => ?_)
          clear hK K
          refine norm_ (a' := ?_) ?_ ?_
          rotate_left
          ·
           show Act.put _ (some 56) _ = _
           simp only [Act.put, q1_, q2_, q3_, i64_w, i32_w]
           rfl
          refine pu_ HT_.out 5 57 #[Y_,Y_,Y_,Y_,Y_,Y_,Y_,Y_,Y_,N_,N_,N_,N_,N_,N_] ?_
          refine one_ (i := 9) (N := some 61) #[Y_,Y_,Y_,Y_,Y_,Y_,Y_,Y_,Y_,Y_,N_,N_,N_,N_,N_] rfl rfl (one_of HT_.out (by kernel_rfl)) (by decide) (fun K hK => ?_)
          refine goes_ Try.func47 (by kernel_rfl) rfl #[.pointer (some ⟨g, 0, none⟩), .int .i64 (wrap64 (t246 + 1))] (by rfl) rfl rfl (by (try simp only [List.map_toArray, List.map_cons, List.map_nil]); first | done | rfl | (simp only [List.length_drop, List.length_take]; rfl)) ?_
          with_reducible refine (spec_l01Below.calls g s0_0 t253 t254 (wrap64 (t246 + 1)) t255 t256 t257 w0 _ ?side1 ?side2 A42.out).mono ?_
          (case side1 => exact cI86_ HI0.out)
          (case side2 => exact cBI86_ HB.out HI0.out)
          rintro e w60 ⟨rfl, hi, hb, hk⟩
          refine ⟨_, rfl, ?_⟩
          have n0_ := Aside0.mk (ske86_ HI0.out HO_227001.out hk)
          have n1_ := Aside0.mk (ske86_ HI0.out HO_228001.out hk)
          have n2_ := Aside0.mk (ske86_ HI0.out HO_228003.out hk)
          have n3_ := Aside0.mk (ske86_ HI0.out HO_228004.out hk)
          have n4_ := Aside0.mk (KeepBut.blk hk (g' := gb219) (o := .cells #[.int .i64 0, .slice none 0 0, .slice none 0 0, .slice none 0 0, .slice none 0 0] 29 (0, 0)) (cb_ BK219.out) NB219_0.out (by simp))
          have n5_ := Aside0.mk (KeepBut.blk hk (g' := gb226) (o := .cells #[.int .i64 t220, .slice Ao9 t221.length co9] 26 (0, 0)) (cb_ BK226.out) NB226_0.out (by simp))
          have n6_ := Aside0.mk (KeepBut.blk hk (g' := gb227) (o := .cells #[.int .i64 t220, .slice Ao9 t221.length co9, .slice Ao55 y249.length co55, u228003, u228004] 29 (0, 0)) (cb_ BK227.out) NB227_0.out (by simp))
          have n7_ := Aside0.mk (ske86_ HI0.out HO251.out hk)
          have n8_ := Aside0.mk (KeepBut.trans (cK_ HK.out) hk (.inl rfl))
          have n9_ := Aside0.mk (hb)
          have n10_ := Aside0.mk (hi)
          clear HO_227001
          clear HO_228001
          clear HO_228003
          clear HO_228004
          clear BK219
          clear BK226
          clear BK227
          clear HO251
          clear HK
          clear HB
          clear HI0
          have HO_227001 := n0_
          have HO_228001 := n1_
          have HO_228003 := n2_
          have HO_228004 := n3_
          have BK219 := n4_
          have BK226 := n5_
          have BK227 := n6_
          have HO251 := n7_
          have HK := n8_
          have HB := n9_
          have HI0 := n10_
          clear n0_ n1_ n2_ n3_ n4_ n5_ n6_ n7_ n8_ n9_ n10_
          (try clear hb)
          (try clear hb2)
          (try clear hk)
          (try clear hi)
          refine hK.out _ _ ⟨(blk_cell BK227.out 0).trans rfl, (blk_cell BK227.out 1).trans rfl, (blk_cell BK227.out 2).trans rfl, (blk_cell BK227.out 3).trans rfl, (blk_cell BK227.out 4).trans rfl⟩ (fun hHeld => ?_)
          clear hK K
          refine norm_ (a' := ?_) ?_ ?_
          rotate_left
          ·
           show Act.put _ (some 61) _ = _
           simp only [Act.put, q1_, q2_, q3_, i64_w, i32_w]
           rfl
          refine pu_ HT_.out 10 62 #[Y_,Y_,Y_,Y_,Y_,Y_,Y_,Y_,Y_,Y_,Y_,N_,N_,N_,N_] ?_
          refine one_ (i := 11) (N := some 63) #[Y_,Y_,Y_,Y_,Y_,Y_,Y_,Y_,Y_,Y_,Y_,Y_,N_,N_,N_] rfl rfl (one_of HT_.out (by kernel_rfl)) (by decide) (fun K hK => ?_)
          refine value_ (w1 := ?_) (v := ?_) (by rfl) rfl ?_ ?_
          rotate_left 2
          ·
           go_simp
           constructor
           ·
            rfl
           ·
            rfl
          refine hK.out _ _ ⟨(blk_cell (blk_alloc BK227.out _) 0).trans rfl, (blk_cell (blk_alloc BK227.out _) 1).trans rfl, (blk_cell (blk_alloc BK227.out _) 2).trans rfl, (blk_cell (blk_alloc BK227.out _) 3).trans rfl, (blk_cell (blk_alloc BK227.out _) 4).trans rfl⟩ (fun hHeld => ?_)
          clear hK K
          refine norm_ (a' := ?_) ?_ ?_
          rotate_left
          ·
           show Act.put _ (some 63) _ = _
           simp only [Act.put, q1_, q2_, q3_, i64_w, i32_w]
           rfl
          refine one_ (i := 12) (N := some 64) #[Y_,Y_,Y_,Y_,Y_,Y_,Y_,Y_,Y_,Y_,Y_,Y_,Y_,N_,N_] rfl rfl (one_of HT_.out (by kernel_rfl)) (by decide) (fun K hK => ?_)
          refine Kd.R_append_step (Kd.int .i64) w.heap.size (by rfl) (.tmp 53) (.tmp 63) 27 3 (.int .i64 0) 8 rfl Try.underlying27 info3 rfl (by decide) (by omega) u228003 x228003_2 (wrap64 ((wrap64 (t246 * t252)) + t255)) [.int .i64 (wrap64 ((wrap64 (t246 * t252)) + t255))] (fun k_ => some k_ ≠ (u228004 : Value).ownBlock ∧ some k_ ≠ (.slice Ao55 y249.length co55 : Value).ownBlock) (fun _ => False) rfl rfl ?aP (fun _ hk => hk.elim) ?aF ?aO (Below.refl _ _) ?aS ?aL ?_
          (case aP => exact rfl)
          (case aF => exact (fun k_ hk => ⟨Kd.fresh' (Kd.R_lt (cR_ HO_228004.out)) k_ hk, Kd.fresh' (Kd.R_lt (cR_ HO251.out)) k_ hk⟩))
          (case aO => exact (cR_ HO_228003.out))
          (case aS => exact (keep_size (w := w) (g := g) (row := none) (cK_ HK.out)))
          (case aL => have := LMc43.out; omega)
          intro v259 w61 ho hb hg hat
          rw [← Ny258.out] at ho
          have n0_ := Aside0.mk (Kd.R_over' (cR_ HO_227001.out) (Kd.R_typed (cR_ HO_228003.out)) (by decide) hg)
          have n1_ := Aside0.mk (Kd.R_over' (cR_ HO_228001.out) (Kd.R_typed (cR_ HO_228003.out)) (by decide) hg)
          have n2_ := Aside0.mk (Kd.R_after (ok := (fun k_ => some k_ ≠ (.slice Ao55 y249.length co55 : Value).ownBlock)) (by (with_reducible repeat first | apply Kd.R_alloc | apply Kd.R_drewN | apply Kd.R_drew); exact Kd.R_mono HO_228004.out (fun _ hk => ⟨hk.2, hk.1⟩)) hg hat)
          have n3_ := Aside0.mk (blk_grown (g := gb219) (o := .cells #[.int .i64 0, .slice none 0 0, .slice none 0 0, .slice none 0 0, .slice none 0 0] 29 (0, 0)) (cb_ BK219.out) hg (Kd.R_ne HO_228003.out BK219.out (by decide)))
          have n4_ := Aside0.mk (blk_grown (g := gb226) (o := .cells #[.int .i64 t220, .slice Ao9 t221.length co9] 26 (0, 0)) (cb_ BK226.out) hg (Kd.R_ne HO_228003.out BK226.out (by decide)))
          have n5_ := Aside0.mk (blk_grown (g := gb227) (o := .cells #[.int .i64 t220, .slice Ao9 t221.length co9, .slice Ao55 y249.length co55, u228003, u228004] 29 (0, 0)) (cb_ BK227.out) hg (Kd.R_ne HO_228003.out BK227.out (by decide)))
          have n6_ := Aside0.mk (IsS86.grown (cI86_ HI0.out) hg (IsS86.own_ne HI0.out HO_228003.out (by decide)))
          have n7_ := Aside0.mk (Kd.R_after (ok := (fun k_ => some k_ ≠ (u228004 : Value).ownBlock)) (by (with_reducible repeat first | apply Kd.R_alloc | apply Kd.R_drewN | apply Kd.R_drew); exact Kd.R_mono HO251.out (fun _ hk => ⟨hk.2, hk.1⟩)) hg hat)
          have n8_ := Aside0.mk (below_weaken (cBI86_ HB.out HI0.out) HL.out hb)
          have n9_ := Aside0.mk (KeepBut.trans (cK_ HK.out) (KeepBut.of_grown hg g) (Kd.R_base2 HO_228003.out))
          have n10_ := Aside0.mk (ho)
          clear HO_227001
          clear HO_228001
          clear HO_228004
          clear BK219
          clear BK226
          clear BK227
          clear HI0
          clear HO251
          clear HB
          clear HK
          clear HO_228003
          have HO_227001 := n0_
          have HO_228001 := n1_
          have HO_228004 := n2_
          have BK219 := n3_
          have BK226 := n4_
          have BK227 := n5_
          have HI0 := n6_
          have HO251 := n7_
          have HB := n8_
          have HK := n9_
          have HO260 := n10_
          clear n0_ n1_ n2_ n3_ n4_ n5_ n6_ n7_ n8_ n9_ n10_
          clear ho hb hg hat
          obtain ⟨Ao62, co62, eo62⟩ := Kd.R_slice HO260.out
          (first | subst eo62 | (injection eo62 with f1_ f2_ f3_; have f4_ := f1_.symm; have f5_ := f3_.symm; clear f1_ f2_ f3_; subst f4_; subst f5_))
          refine hK.out _ _ ⟨(blk_cell BK227.out 0).trans rfl, (blk_cell BK227.out 1).trans rfl, (blk_cell BK227.out 2).trans rfl, (blk_cell BK227.out 3).trans rfl, (blk_cell BK227.out 4).trans rfl⟩ (fun hHeld => ?_)
          clear hK K
          refine norm_ (a' := ?_) ?_ ?_
          rotate_left
          ·
           show Act.put _ (some 64) _ = _
           simp only [Act.put, q1_, q2_, q3_, i64_w, i32_w]
           rfl
          refine pu_ HT_.out 13 65 #[Y_,Y_,Y_,Y_,Y_,Y_,Y_,Y_,Y_,Y_,Y_,Y_,Y_,Y_,N_] ?_
          refine last_ (i := 14) (N := none) #[Y_,Y_,Y_,Y_,Y_,Y_,Y_,Y_,Y_,Y_,Y_,Y_,Y_,Y_,Y_] rfl rfl (one_of HT_.out (by kernel_rfl)) (by decide) (fun K hK => ?_)
          have hs63 : w61.cell? ⟨gb227, 3, none⟩ = some (u228003) := (blk_cell BK227.out 3).trans rfl
          have hfs63 := blk_frozen BK227.out 3
          have hns63_0 := NB219_227.out
          have hns63_1 := NB226_227.out
          have hms63_0 := NB227_219.out
          have hms63_1 := NB227_226.out
          refine skip_ (w1 := ?_) (by rfl) rfl ?_ ?_
          rotate_left
          ·
           go_simp
           rfl
          refine hK.out _ _ ?_
          clear hK K
          refine done_ (done_of HT_.out (by kernel_rfl)) ?_
          try go_wp2
          go_roundg k2
          case measure => have := HK1.out; have := HK2.out; omega
          case rel => exact ⟨(wrap64 (x7_2 + 1)), (t256), (t257), (y249), (y258), (.slice Ao55 y249.length co55), (.slice Ao62 y258.length co62), (by first | rfl | (simp; done) | (simp [*]; done)), H', ⟨by have := HK1.out; have := HK2.out; omega⟩, ⟨by (with_reducible repeat first | apply Kd.R_alloc | apply Kd.R_drewN | apply Kd.R_drew); exact Kd.R_mono (Kd.R_far (p := ⟨gb227, 3, none⟩) (Kd.R_types HO_227001.out BK227.out (by decide)) (fun _ hk => hk.2) (.slice Ao62 y258.length co62)) (fun _ hk => trivial)⟩, ⟨by (with_reducible repeat first | apply Kd.R_alloc | apply Kd.R_drewN | apply Kd.R_drew); exact Kd.R_mono (Kd.R_far (p := ⟨gb227, 3, none⟩) (Kd.R_types HO_228001.out BK227.out (by decide)) (fun _ hk => hk.2) (.slice Ao62 y258.length co62)) (fun _ hk => trivial)⟩, ⟨by (with_reducible repeat first | apply Kd.R_alloc | apply Kd.R_drewN | apply Kd.R_drew); exact Kd.R_mono (Kd.R_far (p := ⟨gb227, 3, none⟩) (Kd.R_types HO251.out BK227.out (by decide)) (fun _ hk => hk.2) (.slice Ao62 y258.length co62)) (fun _ hk => ⟨hk.1.2, hk.1.1⟩)⟩, ⟨by (with_reducible repeat first | apply Kd.R_alloc | apply Kd.R_drewN | apply Kd.R_drew); exact Kd.R_mono (Kd.R_far (p := ⟨gb227, 3, none⟩) (Kd.R_types HO260.out BK227.out (by decide)) (fun _ hk => hk.2) (.slice Ao62 y258.length co62)) (fun _ hk => ⟨hk.1.2, hk.1.1⟩)⟩, ⟨by (with_reducible repeat first | apply Kd.R_alloc | apply Kd.R_drewN | apply Kd.R_drew); exact Kd.R_mono (Kd.R_far (p := ⟨gb227, 3, none⟩) (Kd.R_types HO_228004.out BK227.out (by decide)) (fun _ hk => hk.2) (.slice Ao62 y258.length co62)) (fun _ hk => ⟨hk.1.1, hk.1.2⟩)⟩, ⟨by (with_reducible repeat first | apply blk_drewN | apply blk_drew | apply blk_alloc); refine blk_far ?_ NB219_227.out _; (with_reducible repeat first | apply blk_drewN | apply blk_drew | apply blk_alloc); exact BK219.out⟩, ⟨by (with_reducible repeat first | apply blk_drewN | apply blk_drew | apply blk_alloc); refine blk_far ?_ NB226_227.out _; (with_reducible repeat first | apply blk_drewN | apply blk_drew | apply blk_alloc); exact BK226.out⟩, ⟨by (with_reducible repeat first | apply blk_drewN | apply blk_drew | apply blk_alloc); refine blk_put (cs := #[.int .i64 t220, .slice Ao9 t221.length co9, .slice Ao55 y249.length co55, u228003, u228004]) ?_ 3 _ rfl; (with_reducible repeat first | apply blk_drewN | apply blk_drew | apply blk_alloc); exact BK227.out⟩, ⟨cI86_ HI0.out⟩, ⟨cK_ HK.out⟩, ⟨cBI86_ HB.out HI0.out⟩⟩
         ·
          rw [if_neg c43] at H
          exact absurd H (by simp)
        ·
         rw [if_neg c40] at H
         exact absurd H (by simp)
       ·
        replace c38 := Bool.eq_false_iff.mpr c38
        subst c38
        have H1 := H; rw [if_neg (show ¬ (false = true) by decide)] at H1
        clear H
        have H := H1
        clear H1
        by_cases c64 : x228002_2.length < 17592186044416
        ·
         rw [if_pos c64] at H
         have LMc64 := Aside0.mk c64
         clear c64
         obtain ⟨y261, hy261⟩ : ∃ y_ : List Int, y_ = (x228002_2 ++ [t240]) := ⟨_, rfl⟩
         replace H : ((spec_l01Below.f s0_0 t244 t245 200).bind fun bt264 => ((spec_l01Below.f s0_0 bt264.2.1 bt264.2.2 (wrap64 (t240 + 1))).bind fun bt267 => (if x228003_2.length < 17592186044416 then (spec_l07State.l1 k2 (wrap64 (1 + t237)) (wrap64 (x7_2 + 1)) s0_0 bt267.2.1 bt267.2.2 t220 t221 t220 t221 y261 (x228003_2 ++ [wrap64 ((wrap64 (t240 * bt264.1)) + bt267.1)]) x228004_1) else (none)))) = some (r1, r2, r3, r4, r5, r6, r7) := by first | (rw [hy261]; with_reducible exact H) | (have H2_ := (Option.bind_some _ _).symm.trans H; rw [hy261]; with_reducible exact H2_) | (have H2_ := (Option.bind_some _ _).symm.trans H; with_reducible exact H2_) | with_reducible exact H | (rw [hy261]; exact H) | exact H
         have Ny261 := Aside0.mk hy261
         clear hy261
         replace H := Option.bind_eq_some_iff.mp H
         obtain ⟨⟨t264, t265, t266⟩, A650, H⟩ := H
         (try dsimp only at H)
         have A65 := Aside0.mk A650
         clear A650
         replace H := Option.bind_eq_some_iff.mp H
         obtain ⟨⟨t267, t268, t269⟩, A660, H⟩ := H
         (try dsimp only at H)
         have A66 := Aside0.mk A660
         clear A660
         by_cases c67 : x228003_2.length < 17592186044416
         ·
          rw [if_pos c67] at H
          have LMc67 := Aside0.mk c67
          clear c67
          obtain ⟨y270, hy270⟩ : ∃ y_ : List Int, y_ = (x228003_2 ++ [wrap64 ((wrap64 (t240 * t264)) + t267)]) := ⟨_, rfl⟩
          replace H : (spec_l07State.l1 k2 (wrap64 (1 + t237)) (wrap64 (x7_2 + 1)) s0_0 t268 t269 t220 t221 t220 t221 y261 y270 x228004_1) = some (r1, r2, r3, r4, r5, r6, r7) := by first | (rw [hy270]; with_reducible exact H) | (have H2_ := (Option.bind_some _ _).symm.trans H; rw [hy270]; with_reducible exact H2_) | (have H2_ := (Option.bind_some _ _).symm.trans H; with_reducible exact H2_) | with_reducible exact H | (rw [hy270]; exact H) | exact H
          have Ny270 := Aside0.mk hy270
          clear hy270
          have H' := Aside0.mk H
          clear H
          have hnb68 := NB226_219.out
          have hnc68 := NB219_226.out
          have hnb69 := NB226_227.out
          have hnc69 := NB227_226.out
          have hnb70 := NB226_0.out
          have hnc70 := NB0_226.out
          have hcz71 := cl2_ BK226.out
          have hfz71 := fr2_ BK226.out
          try go_wp2_with (first | ((with_reducible refine gate_callee (f := 47) rfl ?_); refine goesL_ (some 41) rfl rfl Try.func47 (by kernel_rfl) rfl #[.pointer (some ⟨g, 0, none⟩), .int .i64 (wrap64 (1 + t237))] rfl (by (try simp only [List.map_toArray, List.map_cons, List.map_nil]); first | done | rfl | (simp only [List.length_drop, List.length_take]; rfl)) ?_; (with_reducible refine (spec_l01Below.calls g s0_0 x1001_2 x1002_2 (wrap64 (1 + t237)) t240 t241 t242 w0 _ ?side1 ?side2 A36.out).mono ?_); (case side1 => exact cI86_ HI0.out); (case side2 => exact cBI86_ HB.out HI0.out); rintro e w72 ⟨rfl, hi, hb, hk⟩; refine ⟨_, rfl, ?_⟩; have n0_ := Aside0.mk (ske86_ HI0.out HO_227001.out hk); have n1_ := Aside0.mk (ske86_ HI0.out HO_228001.out hk); have n2_ := Aside0.mk (ske86_ HI0.out HO_228002.out hk); have n3_ := Aside0.mk (ske86_ HI0.out HO_228003.out hk); have n4_ := Aside0.mk (ske86_ HI0.out HO_228004.out hk); have n5_ := Aside0.mk (KeepBut.blk hk (g' := gb219) (o := .cells #[.int .i64 0, .slice none 0 0, .slice none 0 0, .slice none 0 0, .slice none 0 0] 29 (0, 0)) (cb_ BK219.out) NB219_0.out (by simp)); have n6_ := Aside0.mk (KeepBut.blk hk (g' := gb226) (o := .cells #[.int .i64 t220, .slice Ao9 t221.length co9] 26 (0, 0)) (cb_ BK226.out) NB226_0.out (by simp)); have n7_ := Aside0.mk (KeepBut.blk hk (g' := gb227) (o := .cells #[.int .i64 t220, .slice Ao9 t221.length co9, u228002, u228003, u228004] 29 (0, 0)) (cb_ BK227.out) NB227_0.out (by simp)); have n8_ := Aside0.mk (KeepBut.trans (cK_ HK.out) hk (.inl rfl)); have n9_ := Aside0.mk (hb); have n10_ := Aside0.mk (hi); clear HO_227001; clear HO_228001; clear HO_228002; clear HO_228003; clear HO_228004; clear BK219; clear BK226; clear BK227; clear HK; clear HB; clear HI0; have HO_227001 := n0_; have HO_228001 := n1_; have HO_228002 := n2_; have HO_228003 := n3_; have HO_228004 := n4_; have BK219 := n5_; have BK226 := n6_; have BK227 := n7_; have HK := n8_; have HB := n9_; have HI0 := n10_; clear n0_ n1_ n2_ n3_ n4_ n5_ n6_ n7_ n8_ n9_ n10_; (try clear hb); (try clear hb2); (try clear hk); (try clear hi)) | ((with_reducible refine gate_callee (f := 84) rfl ?_); refine goesL_ (some 43) rfl rfl Try.func84 (by kernel_rfl) rfl #[.pointer (some ⟨g, 0, none⟩), .int .i64 6] rfl (by (try simp only [List.map_toArray, List.map_cons, List.map_nil]); first | done | rfl | (simp only [List.length_drop, List.length_take]; rfl)) ?_; (with_reducible refine (spec_l01Once.calls g s0_0 t241 t242 6 false t244 t245 w0 _ ?side1 ?side2 A37.out).mono ?_); (case side1 => exact cI86_ HI0.out); (case side2 => exact cBI86_ HB.out HI0.out); rintro e w73 ⟨rfl, hi, hb, hk⟩; refine ⟨_, rfl, ?_⟩; have n0_ := Aside0.mk (ske86_ HI0.out HO_227001.out hk); have n1_ := Aside0.mk (ske86_ HI0.out HO_228001.out hk); have n2_ := Aside0.mk (ske86_ HI0.out HO_228002.out hk); have n3_ := Aside0.mk (ske86_ HI0.out HO_228003.out hk); have n4_ := Aside0.mk (ske86_ HI0.out HO_228004.out hk); have n5_ := Aside0.mk (KeepBut.blk hk (g' := gb219) (o := .cells #[.int .i64 0, .slice none 0 0, .slice none 0 0, .slice none 0 0, .slice none 0 0] 29 (0, 0)) (cb_ BK219.out) NB219_0.out (by simp)); have n6_ := Aside0.mk (KeepBut.blk hk (g' := gb226) (o := .cells #[.int .i64 t220, .slice Ao9 t221.length co9] 26 (0, 0)) (cb_ BK226.out) NB226_0.out (by simp)); have n7_ := Aside0.mk (KeepBut.blk hk (g' := gb227) (o := .cells #[.int .i64 t220, .slice Ao9 t221.length co9, u228002, u228003, u228004] 29 (0, 0)) (cb_ BK227.out) NB227_0.out (by simp)); have n8_ := Aside0.mk (KeepBut.trans (cK_ HK.out) hk (.inl rfl)); have n9_ := Aside0.mk (hb); have n10_ := Aside0.mk (hi); clear HO_227001; clear HO_228001; clear HO_228002; clear HO_228003; clear HO_228004; clear BK219; clear BK226; clear BK227; clear HK; clear HB; clear HI0; have HO_227001 := n0_; have HO_228001 := n1_; have HO_228002 := n2_; have HO_228003 := n3_; have HO_228004 := n4_; have BK219 := n5_; have BK226 := n6_; have BK227 := n7_; have HK := n8_; have HB := n9_; have HI0 := n10_; clear n0_ n1_ n2_ n3_ n4_ n5_ n6_ n7_ n8_ n9_ n10_; (try clear hb); (try clear hb2); (try clear hk); (try clear hi); have hnb74 := NB227_219.out; have hnc74 := NB219_227.out; have hnb75 := NB227_0.out; have hnc75 := NB0_227.out; have hcz76 := cl5_ BK227.out; have hfz76 := fr5_ BK227.out) | ((with_reducible refine gate_builtin (b := .append) (xs := #[.tmp 47, .tmp 49]) rfl ?_); at_builtin; refine Kd.R_append (Kd.int .i64) w.heap.size rfl (.tmp 47) (.tmp 49) 27 3 (.int .i64 0) 8 rfl Try.underlying27 info3 rfl (by decide) (by omega) u228002 x228002_2 t240 [.int .i64 t240] (fun k_ => some k_ ≠ (u228003 : Value).ownBlock ∧ some k_ ≠ (u228004 : Value).ownBlock) (fun _ => False) rfl rfl ?aP (fun _ hk => hk.elim) ?aF ?aO (Below.refl _ _) ?aS ?aL ?_; (case aP => exact rfl); (case aF => exact (fun k_ hk => ⟨Kd.fresh' (Kd.R_lt (cR_ HO_228003.out)) k_ hk, Kd.fresh' (Kd.R_lt (cR_ HO_228004.out)) k_ hk⟩)); (case aO => exact (cR_ HO_228002.out)); (case aS => exact (keep_size (w := w) (g := g) (row := none) (cK_ HK.out))); (case aL => have := LMc64.out; omega); intro v262 w77 ho hb hg hat; rw [← Ny261.out] at ho; have n0_ := Aside0.mk (Kd.R_over' (cR_ HO_227001.out) (Kd.R_typed (cR_ HO_228002.out)) (by decide) hg); have n1_ := Aside0.mk (Kd.R_over' (cR_ HO_228001.out) (Kd.R_typed (cR_ HO_228002.out)) (by decide) hg); have n2_ := Aside0.mk (Kd.R_after (ok := (fun k_ => some k_ ≠ (u228004 : Value).ownBlock)) (by (with_reducible repeat first | apply Kd.R_alloc | apply Kd.R_drewN | apply Kd.R_drew); exact Kd.R_mono HO_228003.out (fun _ hk => ⟨hk.2, hk.1⟩)) hg hat); have n3_ := Aside0.mk (Kd.R_after (ok := (fun k_ => some k_ ≠ (u228003 : Value).ownBlock)) (by (with_reducible repeat first | apply Kd.R_alloc | apply Kd.R_drewN | apply Kd.R_drew); exact Kd.R_mono HO_228004.out (fun _ hk => ⟨hk.2, hk.1⟩)) hg hat); have n4_ := Aside0.mk (blk_grown (g := gb219) (o := .cells #[.int .i64 0, .slice none 0 0, .slice none 0 0, .slice none 0 0, .slice none 0 0] 29 (0, 0)) (cb_ BK219.out) hg (Kd.R_ne HO_228002.out BK219.out (by decide))); have n5_ := Aside0.mk (blk_grown (g := gb226) (o := .cells #[.int .i64 t220, .slice Ao9 t221.length co9] 26 (0, 0)) (cb_ BK226.out) hg (Kd.R_ne HO_228002.out BK226.out (by decide))); have n6_ := Aside0.mk (blk_grown (g := gb227) (o := .cells #[.int .i64 t220, .slice Ao9 t221.length co9, u228002, u228003, u228004] 29 (0, 0)) (cb_ BK227.out) hg (Kd.R_ne HO_228002.out BK227.out (by decide))); have n7_ := Aside0.mk (IsS86.grown (cI86_ HI0.out) hg (IsS86.own_ne HI0.out HO_228002.out (by decide))); have n8_ := Aside0.mk (below_weaken (cBI86_ HB.out HI0.out) HL.out hb); have n9_ := Aside0.mk (KeepBut.trans (cK_ HK.out) (KeepBut.of_grown hg g) (Kd.R_base2 HO_228002.out)); have n10_ := Aside0.mk (ho); clear HO_227001; clear HO_228001; clear HO_228003; clear HO_228004; clear BK219; clear BK226; clear BK227; clear HI0; clear HB; clear HK; clear HO_228002; have HO_227001 := n0_; have HO_228001 := n1_; have HO_228003 := n2_; have HO_228004 := n3_; have BK219 := n4_; have BK226 := n5_; have BK227 := n6_; have HI0 := n7_; have HB := n8_; have HK := n9_; have HO263 := n10_; clear n0_ n1_ n2_ n3_ n4_ n5_ n6_ n7_ n8_ n9_ n10_; clear ho hb hg hat; obtain ⟨Ao78, co78, eo78⟩ := Kd.R_slice HO263.out; subst eo78; have hcz79 := cl5_ BK227.out; have hfz79 := fr5_ BK227.out))
          have n0_ : Aside0 (Kd.R k36 36 (w77.setCell ⟨gb227, 2, none⟩ (.slice Ao78 y261.length co78)) w.heap.size (fun _ => True) (.slice Ao9 t221.length co9) t221) := ⟨by (with_reducible repeat first | apply Kd.R_alloc | apply Kd.R_drewN | apply Kd.R_drew); exact Kd.R_mono (Kd.R_far (p := ⟨gb227, 2, none⟩) (Kd.R_types HO_227001.out BK227.out (by decide)) (fun _ hk => hk.2) (.slice Ao78 y261.length co78)) (fun _ hk => trivial)⟩
          have n1_ : Aside0 (Kd.R k36 36 (w77.setCell ⟨gb227, 2, none⟩ (.slice Ao78 y261.length co78)) w.heap.size (fun _ => True) (.slice Ao9 t221.length co9) t221) := ⟨by (with_reducible repeat first | apply Kd.R_alloc | apply Kd.R_drewN | apply Kd.R_drew); exact Kd.R_mono (Kd.R_far (p := ⟨gb227, 2, none⟩) (Kd.R_types HO_228001.out BK227.out (by decide)) (fun _ hk => hk.2) (.slice Ao78 y261.length co78)) (fun _ hk => trivial)⟩
          have n2_ : Aside0 (Kd.R (Kd.int .i64) 3 (w77.setCell ⟨gb227, 2, none⟩ (.slice Ao78 y261.length co78)) w.heap.size (fun k_ => some k_ ≠ (u228004 : Value).ownBlock ∧ some k_ ≠ (.slice Ao78 y261.length co78 : Value).ownBlock) u228003 x228003_2) := ⟨by (with_reducible repeat first | apply Kd.R_alloc | apply Kd.R_drewN | apply Kd.R_drew); exact Kd.R_mono (Kd.R_far (p := ⟨gb227, 2, none⟩) (Kd.R_types HO_228003.out BK227.out (by decide)) (fun _ hk => hk.2) (.slice Ao78 y261.length co78)) (fun _ hk => ⟨hk.1.1, hk.1.2⟩)⟩
          have n3_ : Aside0 (Kd.R (Kd.int .i64) 3 (w77.setCell ⟨gb227, 2, none⟩ (.slice Ao78 y261.length co78)) w.heap.size (fun k_ => some k_ ≠ (u228003 : Value).ownBlock ∧ some k_ ≠ (.slice Ao78 y261.length co78 : Value).ownBlock) u228004 x228004_1) := ⟨by (with_reducible repeat first | apply Kd.R_alloc | apply Kd.R_drewN | apply Kd.R_drew); exact Kd.R_mono (Kd.R_far (p := ⟨gb227, 2, none⟩) (Kd.R_types HO_228004.out BK227.out (by decide)) (fun _ hk => hk.2) (.slice Ao78 y261.length co78)) (fun _ hk => ⟨hk.1.1, hk.1.2⟩)⟩
          have n4_ : Aside0 (Kd.R (Kd.int .i64) 3 (w77.setCell ⟨gb227, 2, none⟩ (.slice Ao78 y261.length co78)) w.heap.size (fun k_ => some k_ ≠ (u228003 : Value).ownBlock ∧ some k_ ≠ (u228004 : Value).ownBlock) (.slice Ao78 y261.length co78) y261) := ⟨by (with_reducible repeat first | apply Kd.R_alloc | apply Kd.R_drewN | apply Kd.R_drew); exact Kd.R_mono (Kd.R_far (p := ⟨gb227, 2, none⟩) (Kd.R_types HO263.out BK227.out (by decide)) (fun _ hk => hk.2) (.slice Ao78 y261.length co78)) (fun _ hk => ⟨hk.1.1, hk.1.2⟩)⟩
          have n5_ : Aside0 ((w77.setCell ⟨gb227, 2, none⟩ (.slice Ao78 y261.length co78)).heap[gb219]? = some (.cells #[.int .i64 0, .slice none 0 0, .slice none 0 0, .slice none 0 0, .slice none 0 0] 29 (0, 0))) := ⟨by (with_reducible repeat first | apply blk_drewN | apply blk_drew | apply blk_alloc); refine blk_far ?_ NB219_227.out _; (with_reducible repeat first | apply blk_drewN | apply blk_drew | apply blk_alloc); exact BK219.out⟩
          have n6_ : Aside0 ((w77.setCell ⟨gb227, 2, none⟩ (.slice Ao78 y261.length co78)).heap[gb226]? = some (.cells #[.int .i64 t220, .slice Ao9 t221.length co9] 26 (0, 0))) := ⟨by (with_reducible repeat first | apply blk_drewN | apply blk_drew | apply blk_alloc); refine blk_far ?_ NB226_227.out _; (with_reducible repeat first | apply blk_drewN | apply blk_drew | apply blk_alloc); exact BK226.out⟩
          have n7_ : Aside0 ((w77.setCell ⟨gb227, 2, none⟩ (.slice Ao78 y261.length co78)).heap[gb227]? = some (.cells #[.int .i64 t220, .slice Ao9 t221.length co9, .slice Ao78 y261.length co78, u228003, u228004] 29 (0, 0))) := ⟨by (with_reducible repeat first | apply blk_drewN | apply blk_drew | apply blk_alloc); refine blk_put (cs := #[.int .i64 t220, .slice Ao9 t221.length co9, u228002, u228003, u228004]) ?_ 2 _ rfl; (with_reducible repeat first | apply blk_drewN | apply blk_drew | apply blk_alloc); exact BK227.out⟩
          have n8_ : Aside0 (IsS86 w0 (w77.setCell ⟨gb227, 2, none⟩ (.slice Ao78 y261.length co78)) g s0_0 t244 t245) := ⟨cI86_ HI0.out⟩
          have n9_ : Aside0 (KeepBut w (w77.setCell ⟨gb227, 2, none⟩ (.slice Ao78 y261.length co78)) g none) := ⟨cK_ HK.out⟩
          have n10_ : Aside0 (Below w0.heap.size w0 (w77.setCell ⟨gb227, 2, none⟩ (.slice Ao78 y261.length co78))) := ⟨cBI86_ HB.out HI0.out⟩
          (try clear HO_227001)
          (try clear HO_228001)
          (try clear HO_228003)
          (try clear HO_228004)
          (try clear HO263)
          (try clear BK219)
          (try clear BK226)
          (try clear BK227)
          (try clear HI0)
          (try clear HK)
          (try clear HB)
          generalize (w77.setCell ⟨gb227, 2, none⟩ (.slice Ao78 y261.length co78)) = w80 at n0_ n1_ n2_ n3_ n4_ n5_ n6_ n7_ n8_ n9_ n10_ ⊢
          have HO_227001 := n0_
          have HO_228001 := n1_
          have HO_228003 := n2_
          have HO_228004 := n3_
          have HO263 := n4_
          have BK219 := n5_
          have BK226 := n6_
          have BK227 := n7_
          have HI0 := n8_
          have HK := n9_
          have HB := n10_
          clear n0_ n1_ n2_ n3_ n4_ n5_ n6_ n7_ n8_ n9_ n10_
          have n0_ := Aside0.mk (Kd.R_drew HO_227001.out)
          have n1_ := Aside0.mk (Kd.R_drew HO_228001.out)
          have n2_ := Aside0.mk (Kd.R_drew HO_228003.out)
          have n3_ := Aside0.mk (Kd.R_drew HO_228004.out)
          have n4_ := Aside0.mk (Kd.R_drew HO263.out)
          have n5_ := Aside0.mk (blk_drew BK219.out)
          have n6_ := Aside0.mk (blk_drew BK226.out)
          have n7_ := Aside0.mk (blk_drew BK227.out)
          have n8_ := Aside0.mk (IsS86.drew HI0.out)
          have n9_ := Aside0.mk (keep_drew HK.out)
          have n10_ := Aside0.mk (below_drew1 HB.out)
          clear HO_227001
          clear HO_228001
          clear HO_228003
          clear HO_228004
          clear HO263
          clear BK219
          clear BK226
          clear BK227
          clear HI0
          clear HK
          clear HB
          have HO_227001 := n0_
          have HO_228001 := n1_
          have HO_228003 := n2_
          have HO_228004 := n3_
          have HO263 := n4_
          have BK219 := n5_
          have BK226 := n6_
          have BK227 := n7_
          have HI0 := n8_
          have HK := n9_
          have HB := n10_
          clear n0_ n1_ n2_ n3_ n4_ n5_ n6_ n7_ n8_ n9_ n10_
          refine start_ (n := 15) (S := fun w' => w'.cell? ⟨gb227, 0, none⟩ = some (.int .i64 t220) ∧ w'.cell? ⟨gb227, 1, none⟩ = some (.slice Ao9 t221.length co9) ∧ w'.cell? ⟨gb227, 2, none⟩ = some (.slice Ao78 y261.length co78) ∧ w'.cell? ⟨gb227, 3, none⟩ = some (u228003) ∧ w'.cell? ⟨gb227, 4, none⟩ = some (u228004)) (ds := [14]) #[N_,N_,N_,N_,N_,N_,N_,N_,N_,N_,N_,N_,N_,N_,N_] (by kernel_rfl) rfl rfl ⟨(blk_cell BK227.out 0).trans rfl, (blk_cell BK227.out 1).trans rfl, (blk_cell BK227.out 2).trans rfl, (blk_cell BK227.out 3).trans rfl, (blk_cell BK227.out 4).trans rfl⟩ (fun hHeld => ?_); refine with_tabW spec_l07State.tab15 spec_l07State.bits15 (fun HT_ HW_ => ?_)
          generalize w80.drew = w81 at HO_227001 HO_228001 HO_228003 HO_228004 HO263 BK219 BK226 BK227 HI0 HK HB hHeld ⊢
          refine pu_ HT_.out 0 52 #[Y_,N_,N_,N_,N_,N_,N_,N_,N_,N_,N_,N_,N_,N_,N_] ?_
          refine pu_ HT_.out 2 54 #[Y_,N_,Y_,N_,N_,N_,N_,N_,N_,N_,N_,N_,N_,N_,N_] ?_
          refine pu_ HT_.out 3 55 #[Y_,N_,Y_,Y_,N_,N_,N_,N_,N_,N_,N_,N_,N_,N_,N_] ?_
          refine pu_ HT_.out 6 58 #[Y_,N_,Y_,Y_,N_,N_,Y_,N_,N_,N_,N_,N_,N_,N_,N_] ?_
          refine pu_ HT_.out 7 59 #[Y_,N_,Y_,Y_,N_,N_,Y_,Y_,N_,N_,N_,N_,N_,N_,N_] ?_
          refine pu_ HT_.out 8 60 #[Y_,N_,Y_,Y_,N_,N_,Y_,Y_,Y_,N_,N_,N_,N_,N_,N_] ?_
          refine tk_ HT_.out HW_.out hHeld 1 53 #[Y_,Y_,Y_,Y_,N_,N_,Y_,Y_,Y_,N_,N_,N_,N_,N_,N_] ?_
          refine one_ (i := 4) (N := some 56) #[Y_,Y_,Y_,Y_,Y_,N_,Y_,Y_,Y_,N_,N_,N_,N_,N_,N_] rfl rfl (one_of HT_.out (by kernel_rfl)) (by decide) (fun K hK => ?_)
          refine goes_ Try.func47 (by kernel_rfl) rfl #[.pointer (some ⟨g, 0, none⟩), .int .i64 200] (by rfl) rfl rfl (by (try simp only [List.map_toArray, List.map_cons, List.map_nil]); first | done | rfl | (simp only [List.length_drop, List.length_take]; rfl)) ?_
          with_reducible refine (spec_l01Below.calls g s0_0 t244 t245 200 t264 t265 t266 w0 _ ?side1 ?side2 A65.out).mono ?_
          (case side1 => exact cI86_ HI0.out)
          (case side2 => exact cBI86_ HB.out HI0.out)
          rintro e w82 ⟨rfl, hi, hb, hk⟩
          refine ⟨_, rfl, ?_⟩
          have n0_ := Aside0.mk (ske86_ HI0.out HO_227001.out hk)
          have n1_ := Aside0.mk (ske86_ HI0.out HO_228001.out hk)
          have n2_ := Aside0.mk (ske86_ HI0.out HO_228003.out hk)
          have n3_ := Aside0.mk (ske86_ HI0.out HO_228004.out hk)
          have n4_ := Aside0.mk (KeepBut.blk hk (g' := gb219) (o := .cells #[.int .i64 0, .slice none 0 0, .slice none 0 0, .slice none 0 0, .slice none 0 0] 29 (0, 0)) (cb_ BK219.out) NB219_0.out (by simp))
          have n5_ := Aside0.mk (KeepBut.blk hk (g' := gb226) (o := .cells #[.int .i64 t220, .slice Ao9 t221.length co9] 26 (0, 0)) (cb_ BK226.out) NB226_0.out (by simp))
          have n6_ := Aside0.mk (KeepBut.blk hk (g' := gb227) (o := .cells #[.int .i64 t220, .slice Ao9 t221.length co9, .slice Ao78 y261.length co78, u228003, u228004] 29 (0, 0)) (cb_ BK227.out) NB227_0.out (by simp))
          have n7_ := Aside0.mk (ske86_ HI0.out HO263.out hk)
          have n8_ := Aside0.mk (KeepBut.trans (cK_ HK.out) hk (.inl rfl))
          have n9_ := Aside0.mk (hb)
          have n10_ := Aside0.mk (hi)
          clear HO_227001
          clear HO_228001
          clear HO_228003
          clear HO_228004
          clear BK219
          clear BK226
          clear BK227
          clear HO263
          clear HK
          clear HB
          clear HI0
          have HO_227001 := n0_
          have HO_228001 := n1_
          have HO_228003 := n2_
          have HO_228004 := n3_
          have BK219 := n4_
          have BK226 := n5_
          have BK227 := n6_
          have HO263 := n7_
          have HK := n8_
          have HB := n9_
          have HI0 := n10_
          clear n0_ n1_ n2_ n3_ n4_ n5_ n6_ n7_ n8_ n9_ n10_
          (try clear hb)
          (try clear hb2)
          (try clear hk)
          (try clear hi)
          refine hK.out _ _ ⟨(blk_cell BK227.out 0).trans rfl, (blk_cell BK227.out 1).trans rfl, (blk_cell BK227.out 2).trans rfl, (blk_cell BK227.out 3).trans rfl, (blk_cell BK227.out 4).trans rfl⟩ (fun hHeld => ?_)
          clear hK K
          refine norm_ (a' := ?_) ?_ ?_
          rotate_left
          ·
           show Act.put _ (some 56) _ = _
           simp only [Act.put, q1_, q2_, q3_, i64_w, i32_w]
           rfl
          refine pu_ HT_.out 5 57 #[Y_,Y_,Y_,Y_,Y_,Y_,Y_,Y_,Y_,N_,N_,N_,N_,N_,N_] ?_
          refine one_ (i := 9) (N := some 61) #[Y_,Y_,Y_,Y_,Y_,Y_,Y_,Y_,Y_,Y_,N_,N_,N_,N_,N_] rfl rfl (one_of HT_.out (by kernel_rfl)) (by decide) (fun K hK => ?_)
          refine goes_ Try.func47 (by kernel_rfl) rfl #[.pointer (some ⟨g, 0, none⟩), .int .i64 (wrap64 (t240 + 1))] (by rfl) rfl rfl (by (try simp only [List.map_toArray, List.map_cons, List.map_nil]); first | done | rfl | (simp only [List.length_drop, List.length_take]; rfl)) ?_
          with_reducible refine (spec_l01Below.calls g s0_0 t265 t266 (wrap64 (t240 + 1)) t267 t268 t269 w0 _ ?side1 ?side2 A66.out).mono ?_
          (case side1 => exact cI86_ HI0.out)
          (case side2 => exact cBI86_ HB.out HI0.out)
          rintro e w83 ⟨rfl, hi, hb, hk⟩
          refine ⟨_, rfl, ?_⟩
          have n0_ := Aside0.mk (ske86_ HI0.out HO_227001.out hk)
          have n1_ := Aside0.mk (ske86_ HI0.out HO_228001.out hk)
          have n2_ := Aside0.mk (ske86_ HI0.out HO_228003.out hk)
          have n3_ := Aside0.mk (ske86_ HI0.out HO_228004.out hk)
          have n4_ := Aside0.mk (KeepBut.blk hk (g' := gb219) (o := .cells #[.int .i64 0, .slice none 0 0, .slice none 0 0, .slice none 0 0, .slice none 0 0] 29 (0, 0)) (cb_ BK219.out) NB219_0.out (by simp))
          have n5_ := Aside0.mk (KeepBut.blk hk (g' := gb226) (o := .cells #[.int .i64 t220, .slice Ao9 t221.length co9] 26 (0, 0)) (cb_ BK226.out) NB226_0.out (by simp))
          have n6_ := Aside0.mk (KeepBut.blk hk (g' := gb227) (o := .cells #[.int .i64 t220, .slice Ao9 t221.length co9, .slice Ao78 y261.length co78, u228003, u228004] 29 (0, 0)) (cb_ BK227.out) NB227_0.out (by simp))
          have n7_ := Aside0.mk (ske86_ HI0.out HO263.out hk)
          have n8_ := Aside0.mk (KeepBut.trans (cK_ HK.out) hk (.inl rfl))
          have n9_ := Aside0.mk (hb)
          have n10_ := Aside0.mk (hi)
          clear HO_227001
          clear HO_228001
          clear HO_228003
          clear HO_228004
          clear BK219
          clear BK226
          clear BK227
          clear HO263
          clear HK
          clear HB
          clear HI0
          have HO_227001 := n0_
          have HO_228001 := n1_
          have HO_228003 := n2_
          have HO_228004 := n3_
          have BK219 := n4_
          have BK226 := n5_
          have BK227 := n6_
          have HO263 := n7_
          have HK := n8_
          have HB := n9_
          have HI0 := n10_
          clear n0_ n1_ n2_ n3_ n4_ n5_ n6_ n7_ n8_ n9_ n10_
          (try clear hb)
          (try clear hb2)
          (try clear hk)
          (try clear hi)
          refine hK.out _ _ ⟨(blk_cell BK227.out 0).trans rfl, (blk_cell BK227.out 1).trans rfl, (blk_cell BK227.out 2).trans rfl, (blk_cell BK227.out 3).trans rfl, (blk_cell BK227.out 4).trans rfl⟩ (fun hHeld => ?_)
          clear hK K
          refine norm_ (a' := ?_) ?_ ?_
          rotate_left
          ·
           show Act.put _ (some 61) _ = _
           simp only [Act.put, q1_, q2_, q3_, i64_w, i32_w]
           rfl
          refine pu_ HT_.out 10 62 #[Y_,Y_,Y_,Y_,Y_,Y_,Y_,Y_,Y_,Y_,Y_,N_,N_,N_,N_] ?_
          refine one_ (i := 11) (N := some 63) #[Y_,Y_,Y_,Y_,Y_,Y_,Y_,Y_,Y_,Y_,Y_,Y_,N_,N_,N_] rfl rfl (one_of HT_.out (by kernel_rfl)) (by decide) (fun K hK => ?_)
          refine value_ (w1 := ?_) (v := ?_) (by rfl) rfl ?_ ?_
          rotate_left 2
          ·
           go_simp
           constructor
           ·
            rfl
           ·
            rfl
          refine hK.out _ _ ⟨(blk_cell (blk_alloc BK227.out _) 0).trans rfl, (blk_cell (blk_alloc BK227.out _) 1).trans rfl, (blk_cell (blk_alloc BK227.out _) 2).trans rfl, (blk_cell (blk_alloc BK227.out _) 3).trans rfl, (blk_cell (blk_alloc BK227.out _) 4).trans rfl⟩ (fun hHeld => ?_)
          clear hK K
          refine norm_ (a' := ?_) ?_ ?_
          rotate_left
          ·
           show Act.put _ (some 63) _ = _
           simp only [Act.put, q1_, q2_, q3_, i64_w, i32_w]
           rfl
          refine one_ (i := 12) (N := some 64) #[Y_,Y_,Y_,Y_,Y_,Y_,Y_,Y_,Y_,Y_,Y_,Y_,Y_,N_,N_] rfl rfl (one_of HT_.out (by kernel_rfl)) (by decide) (fun K hK => ?_)
          refine Kd.R_append_step (Kd.int .i64) w.heap.size (by rfl) (.tmp 53) (.tmp 63) 27 3 (.int .i64 0) 8 rfl Try.underlying27 info3 rfl (by decide) (by omega) u228003 x228003_2 (wrap64 ((wrap64 (t240 * t264)) + t267)) [.int .i64 (wrap64 ((wrap64 (t240 * t264)) + t267))] (fun k_ => some k_ ≠ (u228004 : Value).ownBlock ∧ some k_ ≠ (.slice Ao78 y261.length co78 : Value).ownBlock) (fun _ => False) rfl rfl ?aP (fun _ hk => hk.elim) ?aF ?aO (Below.refl _ _) ?aS ?aL ?_
          (case aP => exact rfl)
          (case aF => exact (fun k_ hk => ⟨Kd.fresh' (Kd.R_lt (cR_ HO_228004.out)) k_ hk, Kd.fresh' (Kd.R_lt (cR_ HO263.out)) k_ hk⟩))
          (case aO => exact (cR_ HO_228003.out))
          (case aS => exact (keep_size (w := w) (g := g) (row := none) (cK_ HK.out)))
          (case aL => have := LMc67.out; omega)
          intro v271 w84 ho hb hg hat
          rw [← Ny270.out] at ho
          have n0_ := Aside0.mk (Kd.R_over' (cR_ HO_227001.out) (Kd.R_typed (cR_ HO_228003.out)) (by decide) hg)
          have n1_ := Aside0.mk (Kd.R_over' (cR_ HO_228001.out) (Kd.R_typed (cR_ HO_228003.out)) (by decide) hg)
          have n2_ := Aside0.mk (Kd.R_after (ok := (fun k_ => some k_ ≠ (.slice Ao78 y261.length co78 : Value).ownBlock)) (by (with_reducible repeat first | apply Kd.R_alloc | apply Kd.R_drewN | apply Kd.R_drew); exact Kd.R_mono HO_228004.out (fun _ hk => ⟨hk.2, hk.1⟩)) hg hat)
          have n3_ := Aside0.mk (blk_grown (g := gb219) (o := .cells #[.int .i64 0, .slice none 0 0, .slice none 0 0, .slice none 0 0, .slice none 0 0] 29 (0, 0)) (cb_ BK219.out) hg (Kd.R_ne HO_228003.out BK219.out (by decide)))
          have n4_ := Aside0.mk (blk_grown (g := gb226) (o := .cells #[.int .i64 t220, .slice Ao9 t221.length co9] 26 (0, 0)) (cb_ BK226.out) hg (Kd.R_ne HO_228003.out BK226.out (by decide)))
          have n5_ := Aside0.mk (blk_grown (g := gb227) (o := .cells #[.int .i64 t220, .slice Ao9 t221.length co9, .slice Ao78 y261.length co78, u228003, u228004] 29 (0, 0)) (cb_ BK227.out) hg (Kd.R_ne HO_228003.out BK227.out (by decide)))
          have n6_ := Aside0.mk (IsS86.grown (cI86_ HI0.out) hg (IsS86.own_ne HI0.out HO_228003.out (by decide)))
          have n7_ := Aside0.mk (Kd.R_after (ok := (fun k_ => some k_ ≠ (u228004 : Value).ownBlock)) (by (with_reducible repeat first | apply Kd.R_alloc | apply Kd.R_drewN | apply Kd.R_drew); exact Kd.R_mono HO263.out (fun _ hk => ⟨hk.2, hk.1⟩)) hg hat)
          have n8_ := Aside0.mk (below_weaken (cBI86_ HB.out HI0.out) HL.out hb)
          have n9_ := Aside0.mk (KeepBut.trans (cK_ HK.out) (KeepBut.of_grown hg g) (Kd.R_base2 HO_228003.out))
          have n10_ := Aside0.mk (ho)
          clear HO_227001
          clear HO_228001
          clear HO_228004
          clear BK219
          clear BK226
          clear BK227
          clear HI0
          clear HO263
          clear HB
          clear HK
          clear HO_228003
          have HO_227001 := n0_
          have HO_228001 := n1_
          have HO_228004 := n2_
          have BK219 := n3_
          have BK226 := n4_
          have BK227 := n5_
          have HI0 := n6_
          have HO263 := n7_
          have HB := n8_
          have HK := n9_
          have HO272 := n10_
          clear n0_ n1_ n2_ n3_ n4_ n5_ n6_ n7_ n8_ n9_ n10_
          clear ho hb hg hat
          obtain ⟨Ao85, co85, eo85⟩ := Kd.R_slice HO272.out
          (first | subst eo85 | (injection eo85 with f1_ f2_ f3_; have f4_ := f1_.symm; have f5_ := f3_.symm; clear f1_ f2_ f3_; subst f4_; subst f5_))
          refine hK.out _ _ ⟨(blk_cell BK227.out 0).trans rfl, (blk_cell BK227.out 1).trans rfl, (blk_cell BK227.out 2).trans rfl, (blk_cell BK227.out 3).trans rfl, (blk_cell BK227.out 4).trans rfl⟩ (fun hHeld => ?_)
          clear hK K
          refine norm_ (a' := ?_) ?_ ?_
          rotate_left
          ·
           show Act.put _ (some 64) _ = _
           simp only [Act.put, q1_, q2_, q3_, i64_w, i32_w]
           rfl
          refine pu_ HT_.out 13 65 #[Y_,Y_,Y_,Y_,Y_,Y_,Y_,Y_,Y_,Y_,Y_,Y_,Y_,Y_,N_] ?_
          refine last_ (i := 14) (N := none) #[Y_,Y_,Y_,Y_,Y_,Y_,Y_,Y_,Y_,Y_,Y_,Y_,Y_,Y_,Y_] rfl rfl (one_of HT_.out (by kernel_rfl)) (by decide) (fun K hK => ?_)
          have hs86 : w84.cell? ⟨gb227, 3, none⟩ = some (u228003) := (blk_cell BK227.out 3).trans rfl
          have hfs86 := blk_frozen BK227.out 3
          have hns86_0 := NB219_227.out
          have hns86_1 := NB226_227.out
          have hms86_0 := NB227_219.out
          have hms86_1 := NB227_226.out
          refine skip_ (w1 := ?_) (by rfl) rfl ?_ ?_
          rotate_left
          ·
           go_simp
           rfl
          refine hK.out _ _ ?_
          clear hK K
          refine done_ (done_of HT_.out (by kernel_rfl)) ?_
          try go_wp2
          go_roundg k2
          case measure => have := HK1.out; have := HK2.out; omega
          case rel => exact ⟨(wrap64 (x7_2 + 1)), (t268), (t269), (y261), (y270), (.slice Ao78 y261.length co78), (.slice Ao85 y270.length co85), (by first | rfl | (simp; done) | (simp [*]; done)), H', ⟨by have := HK1.out; have := HK2.out; omega⟩, ⟨by (with_reducible repeat first | apply Kd.R_alloc | apply Kd.R_drewN | apply Kd.R_drew); exact Kd.R_mono (Kd.R_far (p := ⟨gb227, 3, none⟩) (Kd.R_types HO_227001.out BK227.out (by decide)) (fun _ hk => hk.2) (.slice Ao85 y270.length co85)) (fun _ hk => trivial)⟩, ⟨by (with_reducible repeat first | apply Kd.R_alloc | apply Kd.R_drewN | apply Kd.R_drew); exact Kd.R_mono (Kd.R_far (p := ⟨gb227, 3, none⟩) (Kd.R_types HO_228001.out BK227.out (by decide)) (fun _ hk => hk.2) (.slice Ao85 y270.length co85)) (fun _ hk => trivial)⟩, ⟨by (with_reducible repeat first | apply Kd.R_alloc | apply Kd.R_drewN | apply Kd.R_drew); exact Kd.R_mono (Kd.R_far (p := ⟨gb227, 3, none⟩) (Kd.R_types HO263.out BK227.out (by decide)) (fun _ hk => hk.2) (.slice Ao85 y270.length co85)) (fun _ hk => ⟨hk.1.2, hk.1.1⟩)⟩, ⟨by (with_reducible repeat first | apply Kd.R_alloc | apply Kd.R_drewN | apply Kd.R_drew); exact Kd.R_mono (Kd.R_far (p := ⟨gb227, 3, none⟩) (Kd.R_types HO272.out BK227.out (by decide)) (fun _ hk => hk.2) (.slice Ao85 y270.length co85)) (fun _ hk => ⟨hk.1.2, hk.1.1⟩)⟩, ⟨by (with_reducible repeat first | apply Kd.R_alloc | apply Kd.R_drewN | apply Kd.R_drew); exact Kd.R_mono (Kd.R_far (p := ⟨gb227, 3, none⟩) (Kd.R_types HO_228004.out BK227.out (by decide)) (fun _ hk => hk.2) (.slice Ao85 y270.length co85)) (fun _ hk => ⟨hk.1.1, hk.1.2⟩)⟩, ⟨by (with_reducible repeat first | apply blk_drewN | apply blk_drew | apply blk_alloc); refine blk_far ?_ NB219_227.out _; (with_reducible repeat first | apply blk_drewN | apply blk_drew | apply blk_alloc); exact BK219.out⟩, ⟨by (with_reducible repeat first | apply blk_drewN | apply blk_drew | apply blk_alloc); refine blk_far ?_ NB226_227.out _; (with_reducible repeat first | apply blk_drewN | apply blk_drew | apply blk_alloc); exact BK226.out⟩, ⟨by (with_reducible repeat first | apply blk_drewN | apply blk_drew | apply blk_alloc); refine blk_put (cs := #[.int .i64 t220, .slice Ao9 t221.length co9, .slice Ao78 y261.length co78, u228003, u228004]) ?_ 3 _ rfl; (with_reducible repeat first | apply blk_drewN | apply blk_drew | apply blk_alloc); exact BK227.out⟩, ⟨cI86_ HI0.out⟩, ⟨cK_ HK.out⟩, ⟨cBI86_ HB.out HI0.out⟩⟩
         ·
          rw [if_neg c67] at H
          exact absurd H (by simp)
        ·
         rw [if_neg c64] at H
         exact absurd H (by simp)
      ·
       rw [if_neg c35] at H
       have c35b0 : decide (x7_2 < (t221.length : Int)) = false := decide_eq_false c35
       clear c35
       simp only [Option.some.injEq, Prod.mk.injEq] at H
       obtain ⟨rfl, rfl, rfl, rfl, rfl, rfl, rfl⟩ := H
       have hnb87 := NB226_219.out
       have hnc87 := NB219_226.out
       have hnb88 := NB226_227.out
       have hnc88 := NB227_226.out
       have hnb89 := NB226_0.out
       have hnc89 := NB0_226.out
       have hcz90 := cl2_ BK226.out
       have hfz90 := fr2_ BK226.out
       have hnb91 := NB227_219.out
       have hnc91 := NB219_227.out
       have hnb92 := NB227_0.out
       have hnc92 := NB0_227.out
       have hcz93 := cl5_ BK227.out
       have hfz93 := fr5_ BK227.out
       have hnb94 := NB219_0.out
       have hnc94 := NB0_219.out
       have hcz95 := cl5_ BK219.out
       have hfz95 := fr5_ BK219.out
       obtain ⟨Ao96, co96, eo96⟩ := Kd.R_slice HO_228002.out
       subst eo96
       obtain ⟨Ao97, co97, eo97⟩ := Kd.R_slice HO_228003.out
       subst eo97
       obtain ⟨Ao98, co98, eo98⟩ := Kd.R_slice HO_228004.out
       subst eo98
       go_wp2
       refine bodyPost_ret (results_cell_row rfl _ _ gb219 29 #[.int .i64 t220, .slice Ao9 t221.length co9, .slice Ao96 x228002_2.length co96, .slice Ao97 x228003_2.length co97, .slice Ao98 x228004_1.length co98] (0, 0) _ rfl (by (with_reducible repeat first | apply blk_drewN | apply blk_drew | apply blk_alloc); refine blk_put (cs := #[.int .i64 t220, .slice Ao9 t221.length co9, .slice Ao96 x228002_2.length co96, .slice Ao97 x228003_2.length co97, .slice none 0 0]) ?_ 4 _ rfl; (with_reducible repeat first | apply blk_drewN | apply blk_drew | apply blk_alloc); refine blk_put (cs := #[.int .i64 t220, .slice Ao9 t221.length co9, .slice Ao96 x228002_2.length co96, .slice none 0 0, .slice none 0 0]) ?_ 3 _ rfl; (with_reducible repeat first | apply blk_drewN | apply blk_drew | apply blk_alloc); refine blk_put (cs := #[.int .i64 t220, .slice Ao9 t221.length co9, .slice none 0 0, .slice none 0 0, .slice none 0 0]) ?_ 2 _ rfl; (with_reducible repeat first | apply blk_drewN | apply blk_drew | apply blk_alloc); refine blk_put (cs := #[.int .i64 t220, .slice none 0 0, .slice none 0 0, .slice none 0 0, .slice none 0 0]) ?_ 1 _ rfl; (with_reducible repeat first | apply blk_drewN | apply blk_drew | apply blk_alloc); refine blk_put (cs := #[.int .i64 0, .slice none 0 0, .slice none 0 0, .slice none 0 0, .slice none 0 0]) ?_ 0 _ rfl; (with_reducible repeat first | apply blk_drewN | apply blk_drew | apply blk_alloc); exact BK219.out) Try.underlying29 rfl (by kernel_rfl)) rfl ?_
       exact ⟨_, _, _, _, by first | rfl | (simp [*, errW_none, errW_some] <;> rfl), by (with_reducible repeat first | apply Kd.R_alloc | apply Kd.R_drewN | apply Kd.R_drew); exact Kd.R_mono (Kd.R_far (p := ⟨gb219, 4, none⟩) (Kd.R_far (p := ⟨gb219, 3, none⟩) (Kd.R_far (p := ⟨gb219, 2, none⟩) (Kd.R_far (p := ⟨gb219, 1, none⟩) (Kd.R_far (p := ⟨gb219, 0, none⟩) (Kd.R_types HO_228001.out BK219.out (by decide)) (fun _ hk => hk.2) (.int .i64 t220)) (fun _ hk => hk.2) (.slice Ao9 t221.length co9)) (fun _ hk => hk.2) (.slice Ao96 x228002_2.length co96)) (fun _ hk => hk.2) (.slice Ao97 x228003_2.length co97)) (fun _ hk => hk.2) (.slice Ao98 x228004_1.length co98)) (fun _ hk => trivial), by (with_reducible repeat first | apply Kd.R_alloc | apply Kd.R_drewN | apply Kd.R_drew); exact Kd.R_mono (Kd.R_far (p := ⟨gb219, 4, none⟩) (Kd.R_far (p := ⟨gb219, 3, none⟩) (Kd.R_far (p := ⟨gb219, 2, none⟩) (Kd.R_far (p := ⟨gb219, 1, none⟩) (Kd.R_far (p := ⟨gb219, 0, none⟩) (Kd.R_types HO_228002.out BK219.out (by decide)) (fun _ hk => hk.2) (.int .i64 t220)) (fun _ hk => hk.2) (.slice Ao9 t221.length co9)) (fun _ hk => hk.2) (.slice Ao96 x228002_2.length co96)) (fun _ hk => hk.2) (.slice Ao97 x228003_2.length co97)) (fun _ hk => hk.2) (.slice Ao98 x228004_1.length co98)) (fun _ hk => ⟨hk.1.1, hk.1.2⟩), by (with_reducible repeat first | apply Kd.R_alloc | apply Kd.R_drewN | apply Kd.R_drew); exact Kd.R_mono (Kd.R_far (p := ⟨gb219, 4, none⟩) (Kd.R_far (p := ⟨gb219, 3, none⟩) (Kd.R_far (p := ⟨gb219, 2, none⟩) (Kd.R_far (p := ⟨gb219, 1, none⟩) (Kd.R_far (p := ⟨gb219, 0, none⟩) (Kd.R_types HO_228003.out BK219.out (by decide)) (fun _ hk => hk.2) (.int .i64 t220)) (fun _ hk => hk.2) (.slice Ao9 t221.length co9)) (fun _ hk => hk.2) (.slice Ao96 x228002_2.length co96)) (fun _ hk => hk.2) (.slice Ao97 x228003_2.length co97)) (fun _ hk => hk.2) (.slice Ao98 x228004_1.length co98)) (fun _ hk => ⟨hk.1.1, hk.1.2⟩), by (with_reducible repeat first | apply Kd.R_alloc | apply Kd.R_drewN | apply Kd.R_drew); exact Kd.R_mono (Kd.R_far (p := ⟨gb219, 4, none⟩) (Kd.R_far (p := ⟨gb219, 3, none⟩) (Kd.R_far (p := ⟨gb219, 2, none⟩) (Kd.R_far (p := ⟨gb219, 1, none⟩) (Kd.R_far (p := ⟨gb219, 0, none⟩) (Kd.R_types HO_228004.out BK219.out (by decide)) (fun _ hk => hk.2) (.int .i64 t220)) (fun _ hk => hk.2) (.slice Ao9 t221.length co9)) (fun _ hk => hk.2) (.slice Ao96 x228002_2.length co96)) (fun _ hk => hk.2) (.slice Ao97 x228003_2.length co97)) (fun _ hk => hk.2) (.slice Ao98 x228004_1.length co98)) (fun _ hk => ⟨hk.1.1, hk.1.2⟩), cI86_ HI0.out, cBI86_ HB.out HI0.out, cK_ HK.out⟩

end Go.Proofs.Ytbkkehjhfgocfaa.PFnTransferred
